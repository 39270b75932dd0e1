/- FnGroupSteps: true at every draw. -/
import Derived.Test.YtefgfcalgjmhjaaXGL11g
import Derived.Test.YtefgfcalgjmhjaaXGL11e
set_option linter.unusedVariables false
set_option linter.unusedSimpArgs false
namespace Go.Proofs.Ytefgfcalgjmhjaa.X
open Go

structure Shp (g:Group) : Prop where
 i:g.InStep.length≤4
 n1:2≤g.Replicas.length
 n2:g.Replicas.length≤4
 log:∀ (i:Nat) (x:Replica),g.Replicas[i]? = some x→x.Log.length≤30∧0≤x.Known∧x.Known≤31
theorem yb.shp {g:Group}(h:yb g) : Shp g:=⟨Nat.le_trans (qbd h.fit.mem) h.fit.n2,h.fit.n1,h.fit.n2,fun i x hx=>by have:=h.fit.log i x hx; omega⟩
theorem Shp.nn {g:Group}(h:Shp g) : g.nn≤1048576:=by
 have h1:g.nn=g.InStep.length+(nnL Replica.nn g.Replicas+0):=rfl
 have h2:nnL Replica.nn g.Replicas=g.Replicas.length+y9 Replica.nn g.Replicas:=rfl
 have h3:=h.i
 have h4:=h.n2
 have h5:y9 Replica.nn g.Replicas≤g.Replicas.length*30:=qm4 (fun x hx=>by
  obtain ⟨i,hi⟩:=List.getElem?_of_mem hx
  have:=(h.log i x hi).1
  have h6:x.nn=x.Log.length+0:=rfl
  omega)
 omega
theorem qja {c:L1Cur}(hc:Cur 0 c) : ∃ g c',Ev (fun k=>qby k c) (g,c')∧Shp g∧Cur 1100 c':=by
 obtain ⟨w1,c1,h1,hc1,g0,g1⟩:=xx hc (by omega) 3 (by omega)
 have e1:IntKind.wrap .i64 (2+w1)=2+w1:=ko (by omega) (by omega)
 obtain ⟨l,c3,h3,b1,hc3⟩:=qnc (n:=2+w1) (by omega) hc1 (by omega)
 obtain ⟨n,hn,n2,n4⟩ : ∃ n:Nat,2+w1=n∧2≤n∧n≤4:=⟨(2+w1).toNat,by omega,by omega,by omega⟩
 have hj:∀ l':List IsrStep,l'.length≤100→∃ g c',Ev (fun k=>qdl k (w1,c1) (l,c3) l') (g,c')∧Shp g∧Cur 1100 c':=by
  intro l' hl'
  have hg:=(qlj (l:=l') (d:=[]) (qf9 n2 n4)).1
  have ep:Ev (fun k=>wk k (n:Int) l') ((qcb (qag n) l' []).1,(qcb (qag n) l' []).2,true):=by
   rcases qmm (n:=(n:Int)) with ⟨m,hm,_,e⟩ | ⟨hn,e⟩
   ·obtain rfl:n=m:=by omega
    exact qq0 n2 n4 e hl'
   ·exact absurd ⟨by omega,by omega⟩ hn
  generalize (qcb (qag n) l' []).1=G at *
  have hs:=hg.shp
  obtain ⟨w4,c4,h4,hc4,q0,q1⟩:=xx hc3 (by omega) 30 (by omega)
  unfold qdl
  rw [e1,hn]
  have key:∀ {F:Nat→Option (Group × L1Cur)} {g:Group} {c':L1Cur},Ev F (g,c')→Shp g→Cur 1100 c'→∃ g c',Ev F (g,c')∧Shp g∧Cur 1100 c':=fun a b d=>⟨_,_,a,b,d⟩
  have pre:∀ {F:Nat→Option (Group × L1Cur)},(∃ g c',Ev F (g,c')∧Shp g∧Cur 1100 c')→∃ g c',Ev (fun k=>(wk k (n:Int) l').bind fun v48=>(kj c3 30).bind fun v74=>F k) (g,c')∧Shp g∧Cur 1100 c':=fun ⟨g,c',a,b,d⟩=>⟨g,c',Ev.bind ep (Ev.bindp h4 a),b,d⟩
  by_cases k0:w4=0
  ·exact key (Ev.bind ep (Ev.bindp h4 (Ev.iteT (by simpa using k0) Ev.rfl))) ⟨hs.i,hs.n1,hs.n2,hs.log⟩ (hc4.le (by omega))
  by_cases k1:w4=1
  ·obtain ⟨w5,c5,h5,_,hc5⟩:=qmo hc4 (by omega) [-1,0,100,101] (by decide) (by decide)
   exact key (Ev.bind ep (Ev.bindp h4 (Ev.iteF (by simpa using k0) (Ev.iteT (by simpa using k1) (Ev.bindp h5 Ev.rfl))))) ⟨hs.i,hs.n1,hs.n2,hs.log⟩ (hc5.le (by omega))
  by_cases k2:w4=2
  ·have hx:G.Replicas[0]? = some (G.Replicas[0]'(by have:=hs.n1; omega)):=List.getElem?_eq_getElem _
   generalize G.Replicas[0]'(by have:=hs.n1; omega)=X at hx
   have hX:=hg.fit.log 0 X hx
   refine key (Ev.bind ep (Ev.bindp h4 (Ev.iteF (by simpa using k0) (Ev.iteF (by simpa using k1) (Ev.iteT (by simpa using k2) (Ev.bindp (kd hx) Ev.rfl)))))) ⟨hs.i,by simpa using hs.n1,by simpa using hs.n2,fun i x hix=>?_⟩ (hc4.le (by omega))
   rcases qir (g:=G) (k:=0) (Int.le_refl _) hix with ⟨_,rfl⟩ | ⟨_,h⟩
   ·have e2:IntKind.wrap .i64 (X.Known+1)=X.Known+1:=ko (by omega) (by omega)
    rw [e2]
    dsimp only
    omega
   ·exact hs.log i x h
  by_cases k3:w4=3
  ·obtain ⟨w5,c5,h5,hc5,_⟩:=xx hc4 (by omega) 5 (by omega)
   exact key (Ev.bind ep (Ev.bindp h4 (Ev.iteF (by simpa using k0) (Ev.iteF (by simpa using k1) (Ev.iteF (by simpa using k2) (Ev.iteT (by simpa using k3) (Ev.bindp h5 Ev.rfl))))))) ⟨hs.i,hs.n1,hs.n2,hs.log⟩ (hc5.le (by omega))
  ·exact key (Ev.bind ep (Ev.bindp h4 (Ev.iteF (by simpa using k0) (Ev.iteF (by simpa using k1) (Ev.iteF (by simpa using k2) (Ev.iteF (by simpa using k3) Ev.rfl)))))) hs (hc4.le (by omega))
 unfold qby
 by_cases hl:l.length≤100
 ·obtain ⟨g,c',a,b,d⟩:=hj l hl
  refine ⟨g,c',Ev.bindp h1 (Ev.bind (a:=(l,c3)) (by dsimp only; rw [e1]; exact h3) (Ev.bind (Ev.iteF (by simp; omega) Ev.rfl) a)),b,d⟩
 ·obtain ⟨g,c',a,b,d⟩:=hj (l.take 100) (by simp; omega)
  refine ⟨g,c',Ev.bindp h1 (Ev.bind (a:=(l,c3)) (by dsimp only; rw [e1]; exact h3) (Ev.bind (a:=l.take 100) (Ev.iteT (by simp; omega) (Ev.bindp (a:=l.take 100) ?_ Ev.rfl)) a)),b,d⟩
  exact qbn (l:=l) (i:=100) (by omega)
theorem DrawStep_ok {code:List Int}(hb:Bytes code) : ∃ g x,Ev (fun k=>uk k code) (g,x)∧Shp g:=by
 obtain ⟨g,c1,h1,hs,hc1⟩:=qja (c:=L1Cur.mk code 0 0) ⟨hb,Int.le_refl _,Int.le_refl _⟩
 obtain ⟨l,c2,h2,_,_⟩:=qnc (n:=(g.Replicas.length:Int)) (by have:=hs.n2; omega) hc1 (by omega)
 unfold uk
 by_cases hl:l.length=0
 ·exact ⟨g,_,Ev.bind h1 (Ev.bind h2 (Ev.iteT (by simpa using hl) Ev.rfl)),hs⟩
 ·have hx:l[0]? = some (l[0]'(by omega)):=List.getElem?_eq_getElem _
  exact ⟨g,_,Ev.bind h1 (Ev.bind h2 (Ev.iteF (by simpa using hl) (Ev.bindp (kd hx) Ev.rfl))),hs⟩
theorem DrawLag_ok {code:List Int}(hb:Bytes code) : ∃ g x,Ev (fun k=>qbl k code) (g,x)∧Shp g:=by
 obtain ⟨g,c1,h1,hs,hc1⟩:=qja (c:=L1Cur.mk code 0 0) ⟨hb,Int.le_refl _,Int.le_refl _⟩
 have e:IntKind.wrap .i64 ((List.length g.Replicas:Int)+1)=(List.length g.Replicas:Int)+1:=ko (by omega) (by have:=hs.n2; omega)
 obtain ⟨w,c2,h2,_⟩:=xx hc1 (by omega) ((List.length g.Replicas:Int)+1) (by have:=hs.n2; omega)
 refine ⟨g,w,?_,hs⟩
 unfold qbl
 refine Ev.bind h1 ?_
 rw [e]
 exact Ev.bindp h2 Ev.rfl
theorem DrawSettle_ok {code:List Int}(hb:Bytes code) : ∃ g,Ev (fun k=>xm k code) g∧Shp g:=by
 obtain ⟨g,c1,h1,hs,hc1⟩:=qja (c:=L1Cur.mk code 0 0) ⟨hb,Int.le_refl _,Int.le_refl _⟩
 refine ⟨g,?_,hs⟩
 unfold xm qaz
 exact Ev.bind (Ev.bind h1 Ev.rfl) Ev.rfl
theorem DrawNew_ok {code:List Int}(hb:Bytes code) : ∃ n,u3 code=some n:=by
 obtain ⟨w,c2,h2,_⟩:=xx (c:=L1Cur.mk code 0 0) (t:=0) ⟨hb,Int.le_refl _,Int.le_refl _⟩ (by omega) 7 (by omega)
 refine ⟨w,?_⟩
 unfold u3
 rw [h2]
 rfl
theorem q31 {g:Group}(hn:g.nn≤1048576)(i:Int) : ∃ r,Ev (fun k=>qay k g i) r∧Ev (fun k=>qbw k g i) r:=by
 obtain ⟨b,e1,e2⟩:=(ug hn).two (qc0 hn)
 obtain ⟨b',e0,hb⟩:=ug hn
 have:=e1.two e0
 subst this
 obtain ⟨n1,n2,n3⟩:=qfi hn
 cases b with
 | false =>
  unfold qay qbw
  exact ⟨(0,false),Ev.bind e2 (Ev.iteT rfl Ev.rfl),Ev.bind e1 (Ev.iteT rfl Ev.rfl)⟩
 | true =>
  have hg:=hb.1 rfl
  by_cases hi:0≤i∧i<g.Replicas.length
  ·refine ⟨_,q5b hg hi.1 hi.2,?_⟩
   have hf:=hg.fit
   have hlr:=hf.rng hf.ld
   obtain ⟨l1,l2,l3⟩:=j7 hlr.1 hlr.2
   obtain ⟨k1,k2,k3⟩:=j7 hi.1 hi.2
   have h3:=hf.lead
   have h4:=hf.logl hi.1 hi.2
   have hp:=qcn (a:=uh g i) (b:=lead g)
   unfold qbw
   refine Ev.bind e1 (Ev.iteF (by simp; omega) (Ev.bindp l1 (Ev.bindp k1 ?_)))
   rw [k3] at h4 hp ⊢
   rw [uy,l3] at h3 hp ⊢
   refine Ev.bind (qgy (by omega)) ?_
   rw [ko (by omega) (by omega)]
   exact Ev.rfl
  ·unfold qay qbw
   have h5:=hg.fit.n1
   refine ⟨(0,false),Ev.bind e2 (Ev.iteT ?_ Ev.rfl),Ev.bind e1 (Ev.iteT (by simp; omega) Ev.rfl)⟩
   rw [ko (n:=(List.length g.Replicas:Int) - 1) (by omega) (by omega)]
   simp [z7]
   omega
theorem q3x {g:Group}(hn:g.nn≤1048576) : ∃ r,Ev (fun k=>yg k g) r∧Ev (fun k=>xa k g) r∧r.1.length≤1048576:=by
 obtain ⟨b,e1,e2⟩:=(ug hn).two (qc0 hn)
 obtain ⟨b',e0,hb⟩:=ug hn
 have:=e1.two e0
 subst this
 cases b with
 | false =>
  unfold yg xa
  exact ⟨([],false),Ev.bind e2 (Ev.iteT rfl Ev.rfl),Ev.bind e1 (Ev.iteT rfl Ev.rfl),by simp⟩
 | true =>
  have hg:=hb.1 rfl
  have hf:=hg.fit
  have hlr:=hf.rng hf.ld
  obtain ⟨l1,l2,l3⟩:=j7 hlr.1 hlr.2
  have h1:=qfo hg
  have h2:=hf.high
  have h3:=hf.lead
  have hc:=qk2 hg
  refine ⟨(com g,true),qnd hg,?_,by dsimp only; omega⟩
  unfold xa
  refine Ev.bind e1 (Ev.iteF rfl (Ev.bindp l1 ?_))
  rw [←l3]
  have e:sl (uh g g.Leader) 0 g.High=some (com g):=by
   have:=qbn (l:=lead g) (i:=g.High.toNat) (by omega)
   rw [Int.toNat_of_nonneg h2] at this
   exact this
  exact Ev.bindp e (Ev.bindp (qan (by omega)) Ev.rfl)
theorem q4k (n:Int) : ∃ r,Ev (fun _=>qb6 n) r∧Ev (fun k=>yv k n) r∧r.1.nn≤1048576:=by
 unfold qb6
 rcases qmm (n:=n) with ⟨m,rfl,⟨h1,h2⟩,e⟩ | ⟨hn,e⟩
 ·exact ⟨_,Ev.iteF (bF qe9 (fun h=>h (by omega))) (Ev.bind (qur h2) Ev.rfl),e,(qf9 h1 h2).nn⟩
 ·exact ⟨_,Ev.iteT (qe9.2 hn) Ev.rfl,e,by show Group.nn ⟨0,0,[],0,[]⟩≤1048576; decide⟩
theorem FnGroupSteps_pure (v_0:List Int)(w0:wfL 1 qkz v_0)(v_1:List Int)(w1:wfL 1 qkz v_1) : ∃ k,u4 k v_0 v_1=some true:=by
 suffices h:Ev (fun k=>u4 k v_0 v_1) true by
  obtain ⟨K,h⟩:=h
  exact ⟨K,h K (Nat.le_refl _)⟩
 have wl0:=w0.1
 have wl1:=w1.1
 unfold u4
 by_cases hbig:(1048576:Int)<IntKind.wrap .i64 ((List.length v_0:Int)+(List.length v_1:Int))
 ·exact Ev.iteT (by simpa using hbig) Ev.rfl
 refine Ev.iteF (by simpa using hbig) ?_
 obtain ⟨g,x,hdr,hs⟩:=DrawStep_ok (code:=v_0) (fun x hx=>w0.2 x hx)
 refine Ev.bind hdr ?_
 -- the second half
 have hj:Ev (fun k=>u9 k v_1) true:=by
  have hb:Bytes v_1:=fun x hx=>w1.2 x hx
  obtain ⟨e,i,a1,s1⟩:=DrawLag_ok hb
  obtain ⟨f,a2,s2⟩:=DrawSettle_ok hb
  obtain ⟨n,a3⟩:=DrawNew_ok hb
  obtain ⟨r1,b1,b2⟩:=q31 s1.nn i
  obtain ⟨r2,c1,c2,c3⟩:=qo5 s2.nn
  obtain ⟨r3,d1,d2,d3⟩:=q3x s2.nn
  obtain ⟨r4,f1,f2,f3⟩:=q4k n
  unfold u9
  refine Ev.bind a1 (Ev.bind b1 (Ev.bind b2 (Ev.bind a2 (Ev.bind c2 (Ev.bind c1 (Ev.bind d1 (Ev.bind d2 (Ev.bindp a3 (Ev.bind f1 (Ev.bind f2 ?_))))))))))
  refine Ev.bind (a:=true) (Ev.iteT (by simp) (Ev.bind (qa1 c3) Ev.rfl)) (Ev.bind (a:=true) (Ev.iteT (by simp) (Ev.bind (qe5 (by omega)) Ev.rfl)) (Ev.bind (a:=true) (Ev.iteT (by simp) (Ev.bind (qa1 f3) Ev.rfl)) Ev.rfl))
 obtain ⟨b,hbi,hb,e1,e2⟩:=StepGroup_all (v_1:=x) hs.nn
 obtain ⟨b',e3,e4⟩:=(ug hs.nn).two (qc0 hs.nn)
 have hgood:Ev (fun k=>ue k g) b':=by unfold ue; exact Ev.bind e4 Ev.rfl
 have hzero:Group.nn ⟨0,0,[],0,[]⟩≤1048576:=by decide
 cases b with
 | false =>
  exact Ev.bind e2 (Ev.bind e1 (Ev.iteF rfl (Ev.bind (qa1 hzero) (Ev.iteF rfl (Ev.bind hgood (Ev.bind e3 (Ev.iteF (by simp) (Ev.jn (s:=()) (Ev.iteF rfl Ev.rfl) hj))))))))
 | true =>
  have hg:=hb.1 rfl
  simp only [if_true] at e1 e2
  cases h:kt g x with
  | none =>
   rw [h] at e1 e2
   exact Ev.bind e2 (Ev.bind e1 (Ev.iteF rfl (Ev.bind (qa1 hzero) (Ev.iteF rfl (Ev.bind hgood (Ev.bind e3 (Ev.iteF (by simp) (Ev.jn (s:=()) (Ev.iteF rfl Ev.rfl) hj))))))))
  | some g' =>
   rw [h] at e1 e2
   have hg':=qh7 hg h
   have hpc:=qmu hg h
   refine Ev.bind e2 (Ev.bind e1 (Ev.iteF rfl (Ev.bind (qa1 hg'.nn) (Ev.iteF rfl (Ev.bind hgood (Ev.bind e3 (Ev.iteF (by simp) (Ev.jn (s:=()) (Ev.iteT rfl ?_) hj))))))))
   refine Ev.bind (qnd hg) (Ev.bind (qnd hg') (Ev.bind (a:=true) (by unfold ue; exact Ev.bind (qij hg') Ev.rfl) ?_))
   refine Ev.bind (a:=false) (Ev.iteF (by have:=hpc.length_le; simp; omega) (Ev.bindp (q5g hpc) (Ev.bind (qe5 (by have:=qk2 hg; have:=qfo hg; have:=hg.fit.lead; dsimp only; omega)) Ev.rfl))) (Ev.iteF rfl Ev.rfl)
end Go.Proofs.Ytefgfcalgjmhjaa.X
