/- Drawn calls: the draw comes to an end. -/
import Derived.Test.YtddkoiapboeemaaXO1L15r
set_option linter.unusedVariables false
set_option linter.unusedSimpArgs false
namespace Go.Proofs.Ytddkoiapboeemaa.X
open Go

def CallsOk (t m:Nat)(o:Oc ((List Call) × Int × Int × L1Cur × (List Int) × (List Int)) ((List Call) × L1Cur)) : Prop :=
 ∃ (l:List Call) (b n:Int) (c:L1Cur) (e v:List Int),o = .nxt (l,b,n,c,e,v)∧l.length≤m∧e.length=4∧v.length=3∧Cur t c
theorem Cur.mono {t t':Nat}{c:L1Cur}(h:Cur t c)(ht:t≤t') : Cur t' c:=⟨h.1,h.2.1,by have:=h.2.2; omega⟩
theorem qw6 {l:List Call}{x:Call}(h:l.length≤1000) : ku 48 l [x]=some (l++[x]):=by
 unfold ku
 rw [if_pos (by simp only [List.length_cons,List.length_nil]; omega)]
theorem qdi {l:List Call}{n s177:Int}{e v:List Int}{c:L1Cur}{x y:Call}{t m:Nat}(hl:l.length≤m)(hm:m≤100)(he:e.length=4)(hv:v.length=3)(hc:Cur t c) :
  ∃ o,qar l n e s177 x v c y=some o∧CallsOk t (m+1) o∧∃ a b d f g,o = .nxt (a,b,IntKind.wrap .i64 (n - 1),d,f,g):=by
 unfold qar
 rw [qw6 (by omega)]
 exact ⟨_,rfl,⟨_,_,_,_,_,_,rfl,by rw [List.length_append]; simp; omega,by rw [List.length_set]; exact he,hv,hc⟩,_,_,_,_,_,rfl⟩
theorem qfx {l:List Call}{n s177:Int}{e v:List Int}{c:L1Cur}{x y:Call}{t m:Nat}(hl:l.length≤m)(hm:m≤100)(he:e.length=4)(hv:v.length=3)(hc:Cur t c)(ht:t≤1000) :
  ∃ o,qao l n e s177 x c v y=some o∧CallsOk (t+2) (m+1) o∧∃ a b d f g,o = .nxt (a,b,IntKind.wrap .i64 (n - 1),d,f,g):=by
 unfold qao
 obtain ⟨w,c1,h1,hc1⟩:=qdw hc (by omega) 8 (by omega)
 rw [h1]
 simp only [Option.bind_some]
 split
 ·obtain ⟨w2,c2,h2,hc2,_⟩:=y6 hc1 (by omega) 5 (by omega)
  rw [h2]
  simp only [Option.bind_some]
  split
  ·exact qdi hl hm he hv hc2
  ·exact qdi hl hm he hv hc2
 ·exact qdi hl hm he hv (hc1.mono (by omega))
theorem qfq {l:List Call}{n s177:Int}{e v:List Int}{c:Int × L1Cur}{x:Call}{t m:Nat}(hl:l.length≤m)(hm:m≤100)(he:e.length=4)(hv:v.length=3)(hc:Cur t c.2)(ht:t≤900)(hx:0≤x.Client∧x.Client<4∧0≤x.Object∧x.Object<3) :
  ∃ o,qax l n e v c s177 x=some o∧CallsOk (t+3) (m+1) o∧∃ a b d f g,o = .nxt (a,b,IntKind.wrap .i64 (n - 1),d,f,g):=by
 unfold qax
 obtain ⟨y,hy,_⟩:=kr (l:=e) (i:=x.Client) hx.1 (by omega)
 obtain ⟨z,hz,_⟩:=kr (l:=v) (i:=x.Object) hx.2.2.1 (by omega)
 rw [hy]
 simp only [Option.bind_some]
 split
 ·obtain ⟨w2,c2,h2,hc2,_⟩:=y6 hc (by omega) 4 (by omega)
  rw [h2]
  simp only [Option.bind_some,hz]
  exact qfx hl hm he (by rw [List.length_set]; exact hv) hc2 (by omega)
 ·rw [hz]
  simp only [Option.bind_some]
  exact qfx hl hm he hv (hc.mono (by omega)) (by omega)
theorem qfw {l:List Call}{s75 n:Int}{e v:List Int}{v109 v135:Int × L1Cur}{x:Call}{t m:Nat}(hl:l.length≤m)(hm:m≤100)(he:e.length=4)(hv:v.length=3)(hc:Cur t v135.2)(ht:t≤800)(hx:0≤x.Client∧x.Client<4∧0≤x.Object∧x.Object<3) :
  ∃ o,qas l s75 n e v v109 v135 x=some o∧CallsOk (t+4) (m+1) o∧∃ a b d f g,o = .nxt (a,b,IntKind.wrap .i64 (n - 1),d,f,g):=by
 unfold qas
 obtain ⟨w2,c2,h2,hc2,_⟩:=y6 hc (by omega) 5 (by omega)
 rw [h2]
 simp only [Option.bind_some]
 split
 ·exact qfq hl hm he hv hc2 (by omega) hx
 ·exact qfq hl hm he hv hc2 (by omega) hx
theorem qjd {l:List Call}{s75 n:Int}{e v:List Int}{c:L1Cur}{t m:Nat}(hn:0<n)(hl:l.length≤m)(hm:m≤100)(he:e.length=4)(hv:v.length=3)(hc:Cur t c)(ht:t≤700) :
  ∃ o,y8 l s75 n c e v=some o∧CallsOk (t+9) (m+1) o∧∃ a b d f g,o = .nxt (a,b,IntKind.wrap .i64 (n - 1),d,f,g):=by
 unfold y8
 rw [if_pos (by simpa using hn)]
 obtain ⟨w1,c1,h1,hc1,_⟩:=y6 hc (by omega) 4 (by omega)
 obtain ⟨w2,c2,h2,hc2,g2⟩:=y6 hc1 (by omega) 4 (by omega)
 obtain ⟨w3,c3,h3,hc3,g3⟩:=y6 hc2 (by omega) 2 (by omega)
 obtain ⟨w4,c4,h4,hc4⟩:=qdw hc3 (by omega) 2 (by omega)
 obtain ⟨w5,c5,h5,hc5,_⟩:=y6 hc4 (by omega) 4 (by omega)
 obtain ⟨y,hy,_⟩:=kr (l:=e) (i:=w2) g2.1 (by omega)
 simp only [h1,h2,h3,h4,h5,hy,Option.bind_some]
 split
 ·exact qfw hl hm he hv hc5 (by omega) ⟨g2.1,by show w2<4; omega,g3.1,by show w3<3; omega⟩
 ·exact qfw hl hm he hv hc5 (by omega) ⟨g2.1,by show w2<4; omega,g3.1,by show w3<3; omega⟩
theorem qf1 {l:List Call}{b:Bool}{c:L1Cur}{t:Nat}(hl:b=true→0<l.length)(hc:Cur t c)(ht:t≤900) : ∃ l' c',qam l b c=some (l',c')∧l'.length=l.length∧Cur (t+1) c':=by
 unfold qam
 split
 ·rename_i h
  obtain ⟨w,c1,h1,hc1,g0,g1⟩:=y6 hc (by omega) 3 (by omega)
  obtain ⟨y,hy,_⟩:=kr (l:=([0,100,101] : List Int)) (i:=w) g0 (by simp only [List.length_cons,List.length_nil]; omega)
  obtain ⟨z,hz,_⟩:=kr (l:=l) (i:=0) (by omega) (by have:=hl h; omega)
  have e:(([0,100,101] : List Int).length:Int)=3:=rfl
  have ea:qa9 c [0,100,101]=some (y,c1,[0,100,101]):=by
   unfold qa9
   rw [e,h1]
   simp only [Option.bind_some,hy]
  rw [ea]
  simp only [Option.bind_some,hz]
  exact ⟨_,_,rfl,by rw [List.length_set],hc1⟩
 ·exact ⟨_,_,rfl,rfl,hc.mono (by omega)⟩
theorem qjg {l:List Call}{s326 s327:Int}{c:L1Cur}{e v:List Int}{t:Nat}(hc:Cur t c)(ht:t≤800) : ∃ l' c',qap l s326 s327 c e v=some (l',c')∧l'.length=l.length∧Cur (t+2) c':=by
 unfold qap
 split
 ·rename_i h
  obtain ⟨w,c1,h1,hc1⟩:=qdw hc (by omega) 30 (by omega)
  rw [h1]
  simp only [Option.bind_some]
  have hpos:0<l.length:=by simp only [decide_eq_true_eq] at h; omega
  exact qf1 (t:=t+1) (fun _=>hpos) hc1 (by omega)
 ·simp only [Option.bind_some]
  obtain ⟨l',c',h1,h2,h3⟩:=qf1 (l:=l) (b:=false) (c:=c) (t:=t) (fun h=>by cases h) hc (by omega)
  exact ⟨l',c',h1,h2,h3.mono (by omega)⟩
theorem qft {n:Int}{c:L1Cur}{t:Nat}(hc:Cur t c)(ht:t≤100)(h0:0≤n)(h1:n≤8) : ∃ l c',Ev (fun k=>qcg k [0,0,0,0] [0,0,0] n c) (l,c')∧l.length≤8∧Cur 200 c':=by
 have key:=Ev.loopQ (B:=fun s320:List Call × Int × Int × L1Cur × List Int × List Int=>y8 s320.1 s320.2.1 s320.2.2.1 s320.2.2.2.1 s320.2.2.2.2.1 s320.2.2.2.2.2)
  (s:=(([],0,n,c,[0,0,0,0],[0,0,0]) : List Call × Int × Int × L1Cur × List Int × List Int))
  (fun o=>∃ (l:List Call) (b m:Int) (c:L1Cur) (e v:List Int),o = .nxt (l,b,m,c,e,v)∧l.length≤8∧Cur 180 c)
  (fun st=>∃ j:Nat,(j:Int)+st.2.2.1=n∧0≤st.2.2.1∧st.1.length≤j∧st.2.2.2.2.1.length=4∧st.2.2.2.2.2.length=3∧Cur (t+9*j) st.2.2.2.1)
  (fun st=>st.2.2.1.toNat) ⟨0,by simp,h0,by simp,rfl,rfl,by simpa using hc⟩ ?_
 ·obtain ⟨o,ho,l,b,m,c1,e,v,rfl,hl,hc1⟩:=key
  obtain ⟨l',c',h2,h3,h4⟩:=qjg (l:=l) (s326:=b) (s327:=m) (e:=e) (v:=v) hc1 (by omega)
  exact ⟨l',c',Ev.eqv (Ev.jn ho (Ev.of h2)) (fun k=>rfl),by omega,h4.mono (by omega)⟩
 ·rintro ⟨l,b,m,c1,e,v⟩ ⟨j,hj,hm,hl,he,hv,hc1⟩
  simp only at hj hm hl he hv hc1
  by_cases hm0:0<m
  ·obtain ⟨o,ho,⟨l',b',n',c',e',v',rfl,hl',he',hv',hc'⟩,x1,x2,x3,x4,x5,hx⟩:=qjd (s75:=b) hm0 hl (by omega) he hv hc1 (by omega)
   cases hx
   refine .inl ⟨_,ho,⟨j+1,?_,?_,hl',he',hv',hc'.mono (by omega)⟩,?_⟩
   ·show ((j+1:Nat) : Int)+IntKind.wrap .i64 (m - 1)=n
    rw [kc (by omega) (by omega)]; omega
   ·show 0≤IntKind.wrap .i64 (m - 1)
    rw [kc (by omega) (by omega)]; omega
   ·show (IntKind.wrap .i64 (m - 1)).toNat<m.toNat
    rw [kc (by omega) (by omega)]; omega
  ·refine .inr (.inl ⟨(l,b,m,c1,e,v),?_,l,b,m,c1,e,v,rfl,by omega,hc1.mono (by omega)⟩)
   simp only [y8]
   rw [if_neg (by simpa using hm0)]
theorem qin {c:L1Cur}{t:Nat}(hc:Cur t c)(ht:t≤50) : ∃ l c',Ev (fun k=>uc k c) (l,c')∧l.length≤8∧Cur 200 c':=by
 obtain ⟨w1,c1,h1,hc1,g0,g1⟩:=y6 hc (by omega) 8 (by omega)
 obtain ⟨w2,c2,h2,hc2⟩:=qdw hc1 (by omega) 20 (by omega)
 have m4:mkN 8 4 (0:Int)=some [0,0,0,0]:=by decide
 have m3:mkN 8 3 (0:Int)=some [0,0,0]:=by decide
 cases w2 with
 | true =>
  obtain ⟨w3,c3,h3,hc3,g2,g3⟩:=y6 hc2 (by omega) 2 (by omega)
  obtain ⟨l,c',he,hl,hc'⟩:=qft (n:=7+w3) hc3 (by omega) (by omega) (by omega)
  refine ⟨l,c',Ev.eqv he (fun k=>?_),hl,hc'⟩
  simp only [uc,m4,m3,h1,h2,h3,Option.bind_some,if_true]
  rw [kc (by omega) (by omega)]
 | false =>
  obtain ⟨l,c',he,hl,hc'⟩:=qft (n:=w1) hc2 (by omega) (by omega) (by omega)
  refine ⟨l,c',Ev.eqv he (fun k=>?_),hl,hc'⟩
  simp only [uc,m4,m3,h1,h2,Option.bind_some,Bool.false_eq_true,if_false]
end Go.Proofs.Ytddkoiapboeemaa.X
