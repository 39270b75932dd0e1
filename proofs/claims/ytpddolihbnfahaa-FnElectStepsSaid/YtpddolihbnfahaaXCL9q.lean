/- Drawn logs and steps: the draws come to an end. -/
import Derived.Test.YtpddolihbnfahaaXCLArefl
import Derived.Test.YtpddolihbnfahaaXCL9a
set_option linter.unusedVariables false
set_option linter.unusedSimpArgs false
namespace Go.Proofs.Ytpddolihbnfahaa.X
open Go

theorem qpi {l:List Int}{x:Int}(h:l.length≤1000) : kd 8 l [x]=some (l++[x]):=by
 unfold kd
 rw [if_pos (by simp only [List.length_cons,List.length_nil]; omega)]
theorem qit {c:L1Cur}{t:Nat}(hc:Cur t c)(ht:t≤900000) : ∃ l c',Ev (fun k=>qbe k c) (l,c')∧l.length≤31∧Cur (t+100) c':=by
 obtain ⟨w1,c1,h1,hc1,_,_⟩:=wy hc (by omega) 3 (by omega)
 obtain ⟨w2,c2,h2,hc2,p0,p1⟩:=wy hc1 (by omega) 10 (by omega)
 obtain ⟨w3,c3,h3,hc3⟩:=qii hc2 (by omega) 20 (by omega)
 have hj3:∀ (l:List Int) (e m:Int) (c:L1Cur),l.length≤31→Cur (t+50) c→∃ l' c',qdn l e m c=some (l',c')∧l'.length≤31∧Cur (t+100) c':=by
  intro l e m c hl hc
  have hj2:∀ (b:Bool) (c:L1Cur),(b=true→l.length≠0)→Cur (t+60) c→∃ l' c',qdm l b c=some (l',c')∧l'.length≤31∧Cur (t+100) c':=by
   intro b c hb hc
   unfold qdm
   cases b with
   | false=>exact ⟨l,c,rfl,hl,hc.le (by omega)⟩
   | true =>
    have hb:=hb rfl
    obtain ⟨v,c1,h1,hc1,q0,q1⟩:=wy hc (by omega) (l.length:Int) (by omega)
    obtain ⟨v2,c2,h2,_,hc2⟩:=qiq hc1 (by omega) [-1,0,100,101] (by decide) (by decide)
    obtain ⟨x,hx,_⟩:=qlx (l:=l) q0 (by omega)
    refine ⟨List.set l v.toNat v2,c2,?_,by simpa using hl,hc2.le (by omega)⟩
    rw [if_pos rfl,h1,Option.bind_some,h2,Option.bind_some,hx]
    rfl
  unfold qdn
  by_cases h0:l.length=0
  ·rw [if_neg (by simp [h0]),Option.bind_some]
   exact hj2 false c (by simp) (hc.le (by omega))
  ·obtain ⟨w,c1,h1,hc1⟩:=qii hc (by omega) 20 (by omega)
   rw [if_pos (by simp only [decide_eq_true_eq]; omega),h1,Option.bind_some,Option.bind_some]
   exact hj2 w c1 (fun _=>h0) (hc1.le (by omega))
 have hj1:∀ (m:Int) (c:L1Cur),0≤m→m≤31→Cur (t+4) c→∃ l c',Ev (fun k=>qdk k (w1,c1) m c) (l,c')∧l.length≤31∧Cur (t+100) c':=by
  intro m0 c hn0 hn1 hc
  have key:=Ev.loopQ (B:=fun s110:List Int × Int × Int × L1Cur=>qaf s110.1 s110.2.1 s110.2.2.1 s110.2.2.2) (s:=(([],w1,m0,c) : List Int × Int × Int × L1Cur))
   (fun o=>∃ (l:List Int) (e m:Int) (c:L1Cur),o = .nxt (l,e,m,c)∧l.length≤31∧Cur (t+50) c)
   (fun st=>∃ j:Nat,(j:Int)+st.2.2.1=m0∧0≤st.2.2.1∧st.1.length=j∧Cur (t+4+j) st.2.2.2)
   (fun st=>st.2.2.1.toNat) ⟨0,by simp,hn0,rfl,by simpa using hc⟩ ?_
  ·obtain ⟨o,ho,l,e,m,c2,rfl,hl1,hc2⟩:=key
   obtain ⟨l',c',a,b,d⟩:=hj3 l e m c2 hl1 hc2
   refine ⟨l',c',?_,b,d⟩
   unfold qdk
   exact Ev.jn ho (Ev.of a)
  ·rintro ⟨l,e,m,c2⟩ ⟨j,hj,hm,hl,hc2⟩
   simp only at hj hm hl hc2
   by_cases hm0:0<m
   ·obtain ⟨v,c3,h3,_,hc3⟩:=qiq hc2 (by omega) [0,0,0,1,2] (by decide) (by decide)
    refine .inl ⟨(l++[e],IntKind.wrap .i64 (e+v),m - 1,c3),?_,⟨j+1,by simp only; omega,by simp only; omega,by simp; omega,by simp only; exact hc3.le (by omega)⟩,by simp only; omega⟩
    simp only [qaf]
    rw [if_pos (by simpa using hm0),qpi (by omega),Option.bind_some,h3,Option.bind_some,kt (n:=m - 1) (by omega) (by omega)]
   ·refine .inr (.inl ⟨(l,e,m,c2),?_,l,e,m,c2,rfl,by omega,hc2.le (by omega)⟩)
    simp only [qaf]
    rw [if_neg (by simpa using hm0)]
 unfold qbe
 cases w3 with
 | true =>
  obtain ⟨w4,c4,h4,hc4,g2,g3⟩:=wy hc3 (by omega) 2 (by omega)
  obtain ⟨l,c',he,r⟩:=hj1 (30+w4) c4 (by omega) (by omega) (hc4.le (by omega))
  exact ⟨l,c',Ev.bindp h1 (Ev.bindp h2 (Ev.bindp h3 (Ev.bind (a:=(30+w4,c4)) (Ev.iteT rfl (Ev.bindp h4 (Ev.of (by rw [kt (by omega) (by omega)])))) he))),r⟩
 | false =>
  obtain ⟨l,c',he,r⟩:=hj1 w2 c3 (by omega) (by omega) (hc3.le (by omega))
  exact ⟨l,c',Ev.bindp h1 (Ev.bindp h2 (Ev.bindp h3 (Ev.bind (a:=(w2,c3)) (Ev.iteF rfl Ev.rfl) he))),r⟩
theorem qpg {c:L1Cur}{t:Nat}(hc:Cur t c)(ht:t≤800000) : ∃ l c',Ev (fun k=>qc8 k c) (l,c')∧(1≤l.length∧l.length≤5)∧(∀ x∈l,x.length≤31)∧Cur (t+1000) c':=by
 obtain ⟨w1,c1,h1,hc1,p0,p1⟩:=wy hc (by omega) 5 (by omega)
 have key:=Ev.loopQk (B:=fun k (s119:List (List Int) × Int × L1Cur)=>qan k s119.1 s119.2.1 s119.2.2) (s:=(([],1+w1,c1) : List (List Int) × Int × L1Cur))
  (fun o=>∃ (l:List (List Int)) (m:Int) (c:L1Cur),o = .nxt (l,m,c)∧(l.length:Int)=1+w1∧(∀ x∈l,x.length≤31)∧Cur (t+900) c)
  (fun st=>∃ j:Nat,(j:Int)+st.2.1=1+w1∧0≤st.2.1∧st.1.length=j∧(∀ x∈st.1,x.length≤31)∧Cur (t+1+100*j) st.2.2)
  (fun st=>st.2.1.toNat) ⟨0,by simp,by simp only; omega,rfl,by simp,by simpa using hc1⟩ ?_
 ·obtain ⟨o,ho,l,m,c2,rfl,hl1,hl2,hc2⟩:=key
  obtain ⟨w3,c3,h3,hc3⟩:=qii hc2 (by omega) 30 (by omega)
  have hx0:∃ x,z8 l (0:Int)=some x:=⟨_,wk (i:=0) (List.getElem?_eq_getElem (by omega))⟩
  obtain ⟨x,hx⟩:=hx0
  have hj:∀ l' c',qdd l m c2=some (l',c')→Ev (fun k=>qc8 k c) (l',c'):=by
   intro l' c' e
   unfold qc8
   refine Ev.bindp h1 ?_
   dsimp only
   rw [kt (n:=1+w1) (by omega) (by omega)]
   exact Ev.jn ho (Ev.of e)
  cases w3 with
  | true =>
   refine ⟨_,_,hj (List.set l (0:Int).toNat [11]) c3 ?_,by rw [List.length_set]; omega,fun y hy=>?_,hc3.le (by omega)⟩
   ·unfold qdd
    rw [h3,Option.bind_some,if_pos rfl,hx,Option.bind_some]
   ·rcases List.mem_or_eq_of_mem_set hy with hy | rfl
    ·exact hl2 y hy
    ·simp
  | false =>
   refine ⟨_,_,hj l c3 ?_,by omega,hl2,hc3.le (by omega)⟩
   unfold qdd
   rw [h3,Option.bind_some,if_neg (by simp)]
 ·rintro ⟨l,m,c2⟩ ⟨j,hj,hm,hl,hl2,hc2⟩
  simp only at hj hm hl hl2 hc2
  by_cases hm0:0<m
  ·obtain ⟨e,c3,h3,e1,hc3⟩:=qit hc2 (by omega)
   obtain ⟨b,hb,_⟩:=qhf (l:=e) (by omega)
   have fin:∀ y:List Int,y.length≤31→∃ s',Ev (fun _=>qde l m (e,c3) y) (.nxt s')∧((∃ j:Nat,(j:Int)+s'.2.1=1+w1∧0≤s'.2.1∧s'.1.length=j∧(∀ x∈s'.1,x.length≤31)∧Cur (t+1+100*j) s'.2.2)∧s'.2.1.toNat<m.toNat):=by
    intro y hy
    refine ⟨(l++[y],m - 1,c3),Ev.of ?_,⟨j+1,by simp only; omega,by simp only; omega,by simp; omega,fun z hz=>?_,by simp only; exact hc3.le (by omega)⟩,by simp only; omega⟩
    ·unfold qde
     have:kd 24 l [y]=some (l++[y]):=by
      unfold kd
      rw [if_pos (by simp only [List.length_cons,List.length_nil]; omega)]
     rw [this,Option.bind_some,kt (n:=m - 1) (by omega) (by omega)]
    ·rcases List.mem_append.1 hz with h | h
     ·exact hl2 z h
     ·simp at h
      subst h
      exact hy
   obtain ⟨s1,f1,f2,f3⟩:=fin [1,2] (by decide)
   obtain ⟨s2,f4,f5,f6⟩:=fin e e1
   have body:∀ (b2:Bool) (s':List (List Int) × Int × L1Cur),Ev (fun _=>(if b2=true then (some [1,2] : Option (List Int)) else some e).bind fun s117=>qde l m (e,c3) s117) (.nxt s')→Ev (fun _:Nat=>(if (!b)=true then some true else (wt e).bind fun v57=>some (decide ((10:Int)<v57)))) b2→Ev (fun k=>qan k l m c2) (.nxt s'):=by
    intro b2 s' e3 e4
    unfold qan
    exact Ev.iteT (by simpa using hm0) (Ev.bind h3 (Ev.bind hb (Ev.bind e4 e3)))
   have hb2:∃ b2:Bool,Ev (fun _:Nat=>(if (!b)=true then some true else (wt e).bind fun v57=>some (decide ((10:Int)<v57)))) b2:=by
    cases b with
    | false=>exact ⟨true,Ev.iteT rfl Ev.rfl⟩
    | true=>exact ⟨_,Ev.iteF rfl (Ev.bindp (qie (by omega)) Ev.rfl)⟩
   obtain ⟨b2,hb2⟩:=hb2
   cases b2 with
   | true=>exact .inl ⟨s1,body true s1 (Ev.bind (Ev.iteT rfl Ev.rfl) f1) hb2,f2,f3⟩
   | false=>exact .inl ⟨s2,body false s2 (Ev.bind (Ev.iteF rfl Ev.rfl) f4) hb2,f5,f6⟩
  ·refine .inr (.inl ⟨(l,m,c2),?_,l,m,c2,rfl,by omega,hl2,hc2.le (by omega)⟩)
   unfold qan
   exact Ev.iteF (by simpa using hm0) Ev.rfl
theorem qzu {l:List ElectStep}{x:ElectStep}(h:l.length≤1000) : kd 16 l [x]=some (l++[x]):=by
 unfold kd
 rw [if_pos (by simp only [List.length_cons,List.length_nil]; omega)]
theorem qod {c:L1Cur}{t:Nat}(hc:Cur t c)(ht:t≤800000) : ∃ l c',Ev (fun k=>qag k c) (l,c')∧l.length≤81∧Cur (t+1000) c':=by
 obtain ⟨w1,c1,h1,hc1,g0,g1⟩:=wy hc (by omega) 30 (by omega)
 obtain ⟨w2,c2,h2,hc2⟩:=qii hc1 (by omega) 12 (by omega)
 have hj1:∀ (m:Int) (c:L1Cur),0≤m→m≤81→Cur (t+3) c→∃ l c',Ev (fun k=>qby k m c) (l,c')∧l.length≤81∧Cur (t+1000) c':=by
  intro m0 c hn0 hn1 hc
  have key:=Ev.loopQ (B:=fun s150:List ElectStep × Int × L1Cur=>wo s150.1 s150.2.1 s150.2.2) (s:=(([],m0,c) : List ElectStep × Int × L1Cur))
   (fun o=>∃ (l:List ElectStep) (m:Int) (c:L1Cur),o = .nxt (l,m,c)∧l.length≤81∧Cur (t+1000) c)
   (fun st=>∃ j:Nat,(j:Int)+st.2.1=m0∧0≤st.2.1∧st.1.length=j∧Cur (t+3+5*j) st.2.2)
   (fun st=>st.2.1.toNat) ⟨0,by simp,hn0,rfl,by simpa using hc⟩ ?_
  ·obtain ⟨o,ho,l,m,c2,rfl,hl1,hc2⟩:=key
   refine ⟨l,c2,?_,hl1,hc2⟩
   unfold qby
   exact Ev.jn ho (Ev.of rfl)
  ·rintro ⟨l,m,c2⟩ ⟨j,hj,hm,hl,hc2⟩
   simp only at hj hm hl hc2
   by_cases hm0:0<m
   ·obtain ⟨u1,d1,k1,_,hd1⟩:=qiq hc2 (by omega) [1,2,2,2,2,2,3,4] (by decide) (by decide)
    obtain ⟨u2,d2,k2,hd2,_⟩:=wy hd1 (by omega) 5 (by omega)
    obtain ⟨u3,d3,k3,hd3⟩:=qii hd2 (by omega) 30 (by omega)
    have fin:∀ (x:ElectStep) (c:L1Cur),Cur (t+3+5*j+5) c→qb4 l m c x=some (.nxt (l++[x],m - 1,c)):=by
     intro x c _
     unfold qb4
     rw [qzu (by omega),Option.bind_some,kt (n:=m - 1) (by omega) (by omega)]
    cases u3 with
    | false =>
     refine .inl ⟨(l++[⟨u1,u2⟩],m - 1,d3),?_,⟨j+1,by simp only; omega,by simp only; omega,by simp; omega,by simp only; exact hd3.le (by omega)⟩,by simp only; omega⟩
     simp only [wo]
     rw [if_pos (by simpa using hm0),k1,Option.bind_some,k2,Option.bind_some,k3,Option.bind_some,if_neg (by simp),Option.bind_some]
     exact fin _ _ (hd3.le (by omega))
    | true =>
     obtain ⟨u4,d4,k4,hd4,_⟩:=wy hd3 (by omega) 7 (by omega)
     obtain ⟨u5,d5,k5,hd5,_⟩:=wy hd4 (by omega) 8 (by omega)
     refine .inl ⟨(l++[⟨u4,IntKind.wrap .i64 (u5 - 1)⟩],m - 1,d5),?_,⟨j+1,by simp only; omega,by simp only; omega,by simp; omega,by simp only; exact hd5.le (by omega)⟩,by simp only; omega⟩
     simp only [wo]
     rw [if_pos (by simpa using hm0),k1,Option.bind_some,k2,Option.bind_some,k3,Option.bind_some,if_pos rfl,k4,Option.bind_some,k5,Option.bind_some,Option.bind_some]
     exact fin _ _ (hd5.le (by omega))
   ·refine .inr (.inl ⟨(l,m,c2),?_,l,m,c2,rfl,by omega,hc2.le (by omega)⟩)
    simp only [wo]
    rw [if_neg (by simpa using hm0)]
 unfold qag
 cases w2 with
 | true =>
  obtain ⟨w3,c3,h3,hc3,g2,g3⟩:=wy hc2 (by omega) 12 (by omega)
  obtain ⟨l,c',he,r⟩:=hj1 (70+w3) c3 (by omega) (by omega) hc3
  exact ⟨l,c',Ev.bindp h1 (Ev.bindp h2 (Ev.bind (a:=(70+w3,c3)) (Ev.iteT rfl (Ev.bindp h3 (Ev.of (by rw [kt (by omega) (by omega)])))) he)),r⟩
 | false =>
  obtain ⟨l,c',he,r⟩:=hj1 w1 c2 (by omega) (by omega) (hc2.le (by omega))
  exact ⟨l,c',Ev.bindp h1 (Ev.bindp h2 (Ev.bind (a:=(w1,c2)) (Ev.iteF rfl Ev.rfl) he)),r⟩
theorem qpv {l:List (List Int)}(h1:l.length≤5)(h2:∀ x∈l,x.length≤31) : nnL IntR.nn l≤1048576:=by
 have h3:nnL IntR.nn l=l.length+qcq IntR.nn l:=rfl
 have h4:qcq IntR.nn l≤l.length*31:=qkw (fun x hx=>h2 x hx)
 have h5:l.length*31≤5*31:=Nat.mul_le_mul_right _ h1
 omega
end Go.Proofs.Ytpddolihbnfahaa.X
