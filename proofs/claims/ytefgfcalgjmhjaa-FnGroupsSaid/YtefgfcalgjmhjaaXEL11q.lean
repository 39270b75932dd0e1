/- Drawn plays of groups: the draw comes to an end. -/
import Derived.Test.YtefgfcalgjmhjaaXELArefl
set_option linter.unusedVariables false
set_option linter.unusedSimpArgs false
namespace Go.Proofs.Ytefgfcalgjmhjaa.X
open Go

theorem qln {l:List IsrStep}{x:IsrStep}(h:l.length≤1000) : j7 24 l [x]=some (l++[x]):=by
 unfold j7
 rw [if_pos (by simp only [List.length_cons,List.length_nil]; omega)]
theorem qmc {l:List IsrStep}{m:Int}{c:L1Cur}{x:IsrStep}{t:Nat}(hl:l.length≤900)(hm:0<m∧m≤200)(hc:Cur t c)(ht:t≤10000) :
  ∃ l' c',ul l m c x=some (.nxt (l',m - 1,c'))∧l'.length=l.length+1∧Cur (t+4) c':=by
 unfold ul
 obtain ⟨w,c1,h1,hc1⟩:=qo7 hc (by omega) 60 (by omega)
 rw [h1,Option.bind_some]
 have e:IntKind.wrap .i64 (m - 1)=m - 1:=ka (by omega) (by omega)
 cases w with
 | false =>
  refine ⟨l++[x],c1,?_,by simp,hc1.le (by omega)⟩
  rw [if_neg (by simp),Option.bind_some]
  unfold qau
  rw [qln (by omega),Option.bind_some,e]
 | true =>
  obtain ⟨w2,c2,h2,hc2,_⟩:=uy hc1 (by omega) 8 (by omega)
  obtain ⟨w3,c3,h3,hc3,_⟩:=uy hc2 (by omega) 6 (by omega)
  obtain ⟨w4,c4,h4,hc4,_⟩:=uy hc3 (by omega) 40 (by omega)
  refine ⟨l++[⟨w2,IntKind.wrap .i64 (w3 - 1),IntKind.wrap .i64 (w4 - 1)⟩],c4,?_,by simp,hc4.le (by omega)⟩
  rw [if_pos rfl,h2,Option.bind_some,h3,Option.bind_some,h4,Option.bind_some,Option.bind_some]
  unfold qau
  rw [qln (by omega),Option.bind_some,e]
theorem qme {n m:Int}{l:List IsrStep}{c:L1Cur}{t:Nat}(hn:n≤200)(hl:l.length≤900)(hm:0<m∧m≤200)(hc:Cur t c)(ht:t≤9000) :
  ∃ l' c',wh n l m c=some (.nxt (l',m - 1,c'))∧l'.length=l.length+1∧Cur (t+9) c':=by
 unfold wh
 obtain ⟨w1,c1,h1,_,hc1⟩:=qs1 hc (by omega) [1,2,2,2,3,3,3,3,4,5,6,6,6] (by decide) (by decide)
 rw [if_pos (by simpa using hm.1),h1,Option.bind_some]
 dsimp only
 have fin:∀ {c2:L1Cur} {x:IsrStep} {u:Nat},Cur u c2→u≤t+5→∃ l' c',ul l m c2 x=some (.nxt (l',m - 1,c'))∧l'.length=l.length+1∧Cur (t+9) c':=by
  intro c2 x u hc2 hu
  obtain ⟨l',c',a,b,d⟩:=qmc (x:=x) hl hm hc2 (by omega)
  exact ⟨l',c',a,b,d.le (by omega)⟩
 by_cases k2:w1=2
 ·obtain ⟨w2,c2,h2,hc2,_⟩:=uy hc1 (by omega) 9 (by omega)
  rw [if_pos (by simpa using k2),h2,Option.bind_some,Option.bind_some]
  exact fin hc2 (by omega)
 rw [if_neg (by simpa using k2)]
 by_cases k3:w1=3
 ·obtain ⟨w2,c2,h2,hc2,_⟩:=uy hc1 (by omega) n (by omega)
  obtain ⟨w3,c3,h3,hc3,_⟩:=uy hc2 (by omega) 4 (by omega)
  rw [if_pos (by simpa using k3),h2,Option.bind_some,h3,Option.bind_some,Option.bind_some]
  exact fin hc3 (by omega)
 rw [if_neg (by simpa using k3)]
 have hj2:∀ b:Bool,∃ c2 x,qay n (w1,c1,[1,2,2,2,3,3,3,3,4,5,6,6,6]) b=some (c2,x)∧∃ u,Cur u c2∧u≤t+5:=by
  intro b
  unfold qay
  cases b with
  | false=>exact ⟨_,_,rfl,_,hc1,by omega⟩
  | true =>
   obtain ⟨w2,c2,h2,hc2,_⟩:=uy hc1 (by omega) n (by omega)
   rw [if_pos rfl,h2,Option.bind_some]
   exact ⟨_,_,rfl,_,hc2,by omega⟩
 have hb:∃ b:Bool,(if (decide (w1=1))=true then some (decide (w1=1)) else (if (decide (w1=4))=true then some (decide (w1=4)) else some (decide (w1=5))))=some b:=by
  split
  ·exact ⟨_,rfl⟩
  split <;> exact ⟨_,rfl⟩
 obtain ⟨b,hb⟩:=hb
 obtain ⟨c2,x,h2,u,hc2,hu⟩:=hj2 b
 rw [hb,Option.bind_some,h2,Option.bind_some]
 exact fin hc2 hu
theorem qsp {n:Int}{c:L1Cur}{t:Nat}(hn:n≤200)(hc:Cur t c)(ht:t≤3000) : ∃ l c',Ev (fun k=>ux k c n) (l,c')∧l.length≤101∧Cur (t+1000) c':=by
 obtain ⟨w1,c1,h1,hc1,g0,g1⟩:=uy hc (by omega) 40 (by omega)
 obtain ⟨w2,c2,h2,hc2⟩:=qo7 hc1 (by omega) 8 (by omega)
 have hj1:∀ (m:Int) (c:L1Cur),0≤m→m≤101→Cur (t+3) c→∃ l c',Ev (fun k=>qci k n m c) (l,c')∧l.length≤101∧Cur (t+1000) c':=by
  intro m0 c hn0 hn1 hc
  have key:=Ev.loopQ (B:=fun s228:List IsrStep × Int × L1Cur=>wh n s228.1 s228.2.1 s228.2.2) (s:=(([],m0,c) : List IsrStep × Int × L1Cur))
   (fun o=>∃ (l:List IsrStep) (m:Int) (c:L1Cur),o = .nxt (l,m,c)∧l.length≤101∧Cur (t+1000) c)
   (fun st=>∃ j:Nat,(j:Int)+st.2.1=m0∧0≤st.2.1∧st.1.length=j∧Cur (t+3+9*j) st.2.2)
   (fun st=>st.2.1.toNat) ⟨0,by simp,hn0,rfl,by simpa using hc⟩ ?_
  ·obtain ⟨o,ho,l,m,c2,rfl,hl1,hc2⟩:=key
   exact ⟨l,c2,Ev.eqv (Ev.jn (G:=fun _ s=>qax s.1 s.2.1 s.2.2) ho (Ev.of (rfl:qax l m c2=some (l,c2)))) (fun k=>rfl),hl1,hc2⟩
  ·rintro ⟨l,m,c2⟩ ⟨j,hj,hm,hl,hc2⟩
   simp only at hj hm hl hc2
   by_cases hm0:0<m
   ·obtain ⟨l',c',a,b,e⟩:=qme hn (l:=l) (m:=m) (by omega) ⟨hm0,by omega⟩ hc2 (by omega)
    exact .inl ⟨_,a,⟨j+1,by simp only; omega,by simp only; omega,by simp only; omega,by simp only; exact e.le (by omega)⟩,by simp only; omega⟩
   ·refine .inr (.inl ⟨(l,m,c2),?_,l,m,c2,rfl,by omega,hc2.le (by omega)⟩)
    simp only [wh]
    rw [if_neg (by simpa using hm0)]
 cases w2 with
 | true =>
  obtain ⟨w3,c3,h3,hc3,g2,g3⟩:=uy hc2 (by omega) 12 (by omega)
  obtain ⟨l,c',he,r⟩:=hj1 (90+w3) c3 (by omega) (by omega) hc3
  refine ⟨l,c',Ev.eqv he (fun k=>?_),r⟩
  simp only [ux,h1,h2,h3,Option.bind_some,if_true]
  rw [ka (by omega) (by omega)]
 | false =>
  obtain ⟨l,c',he,r⟩:=hj1 w1 c2 (by omega) (by omega) (hc2.le (by omega))
  refine ⟨l,c',Ev.eqv he (fun k=>?_),r⟩
  simp only [ux,h1,h2,Option.bind_some,Bool.false_eq_true,if_false]
theorem DrawPlay_ok {code:List Int}(hb:Bytes code) : ∃ (n:Nat) (l:List IsrStep),Ev (fun k=>xh k code) ((n:Int),l)∧2≤n∧n≤4∧l.length≤101:=by
 obtain ⟨w1,c1,h1,hc1,g0,g1⟩:=uy (c:=L1Cur.mk code 0 0) (t:=0) ⟨hb,Int.le_refl _,Int.le_refl _⟩ (by omega) 3 (by omega)
 have e1:IntKind.wrap .i64 (2+w1)=2+w1:=ka (by omega) (by omega)
 obtain ⟨l,c3,h3,b1,_⟩:=qsp (n:=2+w1) (by omega) hc1 (by omega)
 refine ⟨(2+w1).toNat,l,?_,by omega,by omega,b1⟩
 rw [show (((2+w1).toNat:Nat) : Int)=2+w1 by omega]
 simp only [xh,h1,Option.bind_some,e1]
 exact Ev.bind h3 Ev.rfl
end Go.Proofs.Ytefgfcalgjmhjaa.X
