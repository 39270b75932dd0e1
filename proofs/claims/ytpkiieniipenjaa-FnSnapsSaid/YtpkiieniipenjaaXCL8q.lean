/- Drawn steps of worlds: the draw comes to an end. -/
import Derived.Test.YtpkiieniipenjaaXCLArefl
set_option linter.unusedVariables false
set_option linter.unusedSimpArgs false
namespace Go.Proofs.Ytpkiieniipenjaa.X
open Go

theorem qwo {l:List SnapStep}{x:SnapStep}(h:l.length≤1000) : ye 24 l [x]=some (l++[x]):=by
 unfold ye
 rw [if_pos (by simp only [List.length_cons,List.length_nil]; omega)]
theorem qjy {l:List SnapStep}{m:Int}{c:L1Cur}{x:SnapStep}(hl:l.length≤900)(hm:0<m∧m≤100) : qbn l m c x=some (.nxt (l++[x],m - 1,c)):=by
 unfold qbn
 rw [qwo (by omega),Option.bind_some,kc (by omega) (by omega)]
theorem qj0 {l:List SnapStep}{m:Int}{c:L1Cur}{x:SnapStep}{t:Nat}(hl:l.length≤900)(hm:0<m∧m≤100)(hc:Cur t c)(ht:t≤10000) : ∃ l' c',qbg l m c x=some (.nxt (l',m - 1,c'))∧l'.length=l.length+1∧Cur (t+4) c':=by
 unfold qbg
 obtain ⟨w,c1,h1,hc1⟩:=qmm hc (by omega) 60 (by omega)
 rw [h1,Option.bind_some]
 cases w with
 | false =>
  refine ⟨l++[x],c1,?_,by simp,hc1.le (by omega)⟩
  rw [if_neg (by simp),Option.bind_some]
  exact qjy hl hm
 | true =>
  obtain ⟨w2,c2,h2,hc2,_⟩:=qab hc1 (by omega) 5 (by omega)
  obtain ⟨w3,c3,h3,hc3,_⟩:=qab hc2 (by omega) 14 (by omega)
  obtain ⟨w4,c4,h4,hc4,_⟩:=qab hc3 (by omega) 3 (by omega)
  rw [if_pos rfl,h2,Option.bind_some,h3,Option.bind_some,h4,Option.bind_some,Option.bind_some]
  exact ⟨_,_,qjy hl hm,by simp,hc4⟩
theorem qjp {pn:Int}{l:List SnapStep}{m:Int}{c:L1Cur}{x:SnapStep}{t:Nat}(hp:pn≤200)(hl:l.length≤900)(hm:0<m∧m≤100)(hc:Cur t c)(ht:t≤9000) : ∃ l' c',qbe pn l m c x=some (.nxt (l',m - 1,c'))∧l'.length=l.length+1∧Cur (t+6) c':=by
 unfold qbe
 obtain ⟨w,c1,h1,hc1⟩:=qmm hc (by omega) 12 (by omega)
 rw [h1,Option.bind_some]
 cases w with
 | false =>
  rw [if_neg (by simp),Option.bind_some]
  obtain ⟨l',c',a,b,e⟩:=qj0 (x:=x) hl hm hc1 (by omega)
  exact ⟨l',c',a,b,e.le (by omega)⟩
 | true =>
  obtain ⟨w2,c2,h2,hc2,_⟩:=qab hc1 (by omega) pn (by omega)
  rw [if_pos rfl,h2,Option.bind_some,Option.bind_some]
  obtain ⟨l',c',a,b,e⟩:=qj0 (x:=⟨3,w2,0⟩) hl hm hc2 (by omega)
  exact ⟨l',c',a,b,e.le (by omega)⟩
theorem qok {pn:Int}(hp:2≤pn∧pn≤4) : IntKind.wrap .i64 ((IntKind.wrap .i64 (pn*(IntKind.wrap .i64 (pn - 1))))+1)≤200:=by
 have:pn=2∨pn=3∨pn=4:=by omega
 rcases this with rfl | rfl | rfl <;> decide
theorem qn6 {pn m:Int}{l:List SnapStep}{c:L1Cur}{t:Nat}(hp:2≤pn∧pn≤4)(hl:l.length≤900)(hm:0<m∧m≤100)(hc:Cur t c)(ht:t≤8000) : ∃ l' c',xb pn l m c=some (.nxt (l',m - 1,c'))∧l'.length=l.length+1∧Cur (t+9) c':=by
 unfold xb
 obtain ⟨w1,c1,h1,_,hc1⟩:=qki hc (by omega) [1,1,2,2,2,2,2] (by decide) (by decide)
 obtain ⟨w2,c2,h2,hc2,_⟩:=qab hc1 (by omega) _ (qok hp)
 rw [if_pos (by simpa using hm.1),h1,Option.bind_some,h2,Option.bind_some]
 by_cases h3:w1=1
 ·obtain ⟨w3,c3,h4,hc3,_⟩:=qab hc2 (by omega) 9 (by omega)
  rw [if_pos (by simpa using h3),h4,Option.bind_some,Option.bind_some]
  obtain ⟨l',c',a,b,e⟩:=qjp (pn:=pn) (x:=⟨w1,w2,IntKind.wrap .i64 (1+w3)⟩) (by omega) hl hm hc3 (by omega)
  exact ⟨l',c',a,b,e.le (by omega)⟩
 ·rw [if_neg (by simpa using h3),Option.bind_some]
  obtain ⟨l',c',a,b,e⟩:=qjp (pn:=pn) (x:=⟨w1,w2,0⟩) (by omega) hl hm hc2 (by omega)
  exact ⟨l',c',a,b,e.le (by omega)⟩
theorem qnj {pn:Int}{c:L1Cur}{t:Nat}(hp:2≤pn∧pn≤4)(hc:Cur t c)(ht:t≤3000) : ∃ l c',Ev (fun k=>ul k c pn) (l,c')∧l.length≤100∧Cur (t+1000) c':=by
 obtain ⟨w1,c1,h1,hc1,g0,g1⟩:=qab hc (by omega) 40 (by omega)
 obtain ⟨w2,c2,h2,hc2⟩:=qmm hc1 (by omega) 12 (by omega)
 have hj1:∀ (n:Int) (c:L1Cur),0≤n→n≤90→Cur (t+3) c→∃ l c',Ev (fun k=>qdf k pn n c) (l,c')∧l.length≤100∧Cur (t+1000) c':=by
  intro n c hn0 hn1 hc
  have key:=Ev.loopQ (B:=fun s225:List SnapStep × Int × L1Cur=>xb pn s225.1 s225.2.1 s225.2.2) (s:=(([],n,c) : List SnapStep × Int × L1Cur))
   (fun o=>∃ (l:List SnapStep) (m:Int) (c:L1Cur),o = .nxt (l,m,c)∧l.length≤100∧Cur (t+1000) c)
   (fun st=>∃ j:Nat,(j:Int)+st.2.1=n∧0≤st.2.1∧st.1.length=j∧Cur (t+3+9*j) st.2.2)
   (fun st=>st.2.1.toNat) ⟨0,by simp,hn0,rfl,by simpa using hc⟩ ?_
  ·obtain ⟨o,ho,l,m,c2,rfl,hl1,hc2⟩:=key
   exact ⟨l,c2,Ev.eqv (Ev.jn (G:=fun _ s=>qbm s.1 s.2.1 s.2.2) ho (Ev.of (rfl:qbm l m c2=some (l,c2)))) (fun k=>rfl),hl1,hc2⟩
  ·rintro ⟨l,m,c2⟩ ⟨j,hj,hm,hl,hc2⟩
   simp only at hj hm hl hc2
   by_cases hm0:0<m
   ·obtain ⟨l',c',a,b,e⟩:=qn6 hp (l:=l) (m:=m) (by omega) ⟨hm0,by omega⟩ hc2 (by omega)
    exact .inl ⟨_,a,⟨j+1,by simp only; omega,by simp only; omega,by simp only; omega,by simp only; exact e.le (by omega)⟩,by simp only; omega⟩
   ·refine .inr (.inl ⟨(l,m,c2),?_,l,m,c2,rfl,by omega,hc2.le (by omega)⟩)
    simp only [xb]
    rw [if_neg (by simpa using hm0)]
 cases w2 with
 | true =>
  obtain ⟨w3,c3,h3,hc3,g2,g3⟩:=qab hc2 (by omega) 12 (by omega)
  obtain ⟨l,c',he,r⟩:=hj1 (70+w3) c3 (by omega) (by omega) hc3
  refine ⟨l,c',Ev.eqv he (fun k=>?_),r⟩
  simp only [ul,h1,h2,h3,Option.bind_some,if_true]
  rw [kc (by omega) (by omega)]
 | false =>
  obtain ⟨l,c',he,r⟩:=hj1 w1 c2 (by omega) (by omega) (hc2.le (by omega))
  refine ⟨l,c',Ev.eqv he (fun k=>?_),r⟩
  simp only [ul,h1,h2,Option.bind_some,Bool.false_eq_true,if_false]
end Go.Proofs.Ytpkiieniipenjaa.X
