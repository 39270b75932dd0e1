/- The cluster: what a step does; the specification's side. -/
import Derived.Test.YtohofoampalhoaaXGL17i
open Bool renaming and_eq_false_iff→a2t,false_and→a1k,false_eq_true→t5
open Go.Proofs.Ytohofoampalhoaa.X.Ev renaming bindp→r4,bind→n8,iteF→r5,iteT→t6,rfl→o6
open Int renaming reduceEq→a11
open List renaming length_append→p9,length_cons→a0r,length_filter_le→a1r,length_take→a02,length→f0,replicate→r8,take_add_one→a0w,take_of_length_le→a0j
open Option renaming bind_some→r9
set_option linter.unusedVariables false
set_option linter.unusedSimpArgs false
namespace Go.Proofs.Ytohofoampalhoaa.X
open Go

theorem qxz {c:Cluster}{x:ClusterStep}(h:x.Kind=1) : cdo c x=if x.K∈c.Truth.InStep then some ⟨⟨c.Truth.Epoch+1,x.K,c.Truth.InStep⟩,c.Nodes,c.Acked⟩ else none:=by
 unfold cdo
 rw [if_pos h]
theorem zak {c:Cluster}{x:ClusterStep}(h:x.Kind=2) : cdo c x=if qfn (nd c x.K).View c.Truth then none else some ⟨c.Truth,qdg c x.K (qic c.Truth c.Nodes.length x.K (nd c x.K)),c.Acked⟩:=by
 unfold cdo
 rw [if_neg (by omega),if_pos h]
theorem zan {c:Cluster}{x:ClusterStep}(h:x.Kind=3) : cdo c x=if (nd c x.K).View.Leader=x.K∧(0≤x.N∧x.N≤99)∧(nd c x.K).Log.length≠30 then some ⟨c.Truth,qdg c x.K (qkk x.K x.N (nd c x.K)),c.Acked⟩ else none:=by
 unfold cdo
 rw [if_neg (by omega),if_neg (by omega),if_pos h]
theorem qm7 {c:Cluster}{x:ClusterStep}(h:x.Kind=4) : cdo c x=if (x.K≠x.To∧(nd c x.To).View.Leader=x.To∧(nd c x.K).View.Leader≠x.K∧(nd c x.K).View.Epoch=(nd c x.To).View.Epoch)∧(0≤x.N∧x.N≤30) then some ⟨c.Truth,(qdg c x.K (qib x.N (nd c x.K) (nd c x.To))).set x.To.toNat (qj8 x.K x.N (nd c x.K) (nd c x.To)),c.Acked⟩ else none:=by
 unfold cdo
 rw [if_neg (by omega),if_neg (by omega),if_neg (by omega),if_pos h]
def q91 (c:Cluster) : Option Cluster→Cluster × Bool
 | some c'=>(c',true)
 | none=>(c,false)
theorem qj3 {v:View}(h:v.InStep.length≤1048576) : Ev (fun _=>w8 v) v:=by
 unfold w8
 exact r4 (ww (by omega)) o6
theorem qro {c:Cluster}(h:c.nn≤1048576) : Ev (fun _=>qcg c) c:=by
 obtain ⟨t1,t2,t3⟩:=qea h
 unfold qcg
 refine n8 (qj3 t1) (r4 (ww (by omega)) (Ev.jn (qlq h (fun i x s hx hs=>?_)) o6))
 obtain ⟨n1,n2,n3⟩:=qin h hx
 unfold qdp
 exact n8 (qj3 n1) (r4 (ww (by omega)) (r4 (ww (by omega)) (r4 (q2f hs) o6)))
theorem qph {c:Cluster}{k:Int}(h:FitN c k) : Ev (fun _=>w7 c k) (decide ((nd c k).View.Leader=k)):=by
 unfold w7
 exact r4 h.get o6
theorem q9v {a b:View}{n m:Int}(ha:qff a.InStep n)(hb:qff b.InStep m)(la:a.InStep.length≤1048576)(lb:b.InStep.length≤1048576) : Is (fun _=>qc1 a b) (qfn a b):=by
 unfold qc1 qfn
 refine (Is.bind (P:=(a.Epoch=b.Epoch∧a.Leader=b.Leader)∧a.InStep=b.InStep) (Is.andb (by simp) (fun _=>(qrt la lb).iff (qya ha hb))) (fun b hb=>Is.of hb)).iff and_assoc
theorem q8l {c:Cluster}{K:Int}(hg:qam c)(hk:rng c.Nodes.length K) : Ev (fun _=>qce c K) ⟨c.Truth,qdg c K (qic c.Truth c.Nodes.length K (nd c K)),c.Acked⟩:=by
 have a:=hg.fit hk
 have hml:=qbz hg.2.1.2.1
 have hn:=hg.1
 have hcv:=qj3 (v:=c.Truth) (by omega)
 unfold qce qic qdg
 refine r4 a.get ?_
 by_cases c1:(nd c K).View.Epoch=c.Truth.Epoch
 ·rw [if_pos c1]
  refine n8 (a:=nd c K) (r5 (by simpa using c1) o6) ?_
  unfold qan
  exact n8 hcv o6
 ·rw [if_neg c1]
  have hmk:=qjw (b:=8) (n:=c.Nodes.length) (z:=(0:Int)) (by omega)
  by_cases c2:c.Truth.Leader=K
  ·rw [if_pos c2]
   have hz:z7 (r8 c.Nodes.length (0:Int)) K=some 0:=by
    unfold z7
    rw [if_pos hk.1,List.getElem?_replicate,if_pos a.lt]
   refine n8 (a:=⟨(nd c K).View,(nd c K).Log,(r8 c.Nodes.length (0:Int)).set K.toNat ((nd c K).Log.length:Int),0⟩) (t6 (by simpa using c1) (r4 hmk (t6 (by simpa using c2) (r4 hz o6)))) ?_
   unfold qan
   exact n8 hcv o6
  ·rw [if_neg c2]
   refine n8 (a:=⟨(nd c K).View,(nd c K).Log,r8 c.Nodes.length (0:Int),0⟩) (t6 (by simpa using c1) (r4 hmk (r5 (by simpa using c2) o6))) ?_
   unfold qan
   exact n8 hcv o6
theorem qs0 {l:List Node}{i j:Nat}{a b:Node}(h:i≠j) : (l.set i a).set j b=(l.set j b).set i a:=List.set_comm _ _ h
theorem q8j {c:Cluster}{K To N:Int}(hg:qam c)(hk:rng c.Nodes.length K)(ht:rng c.Nodes.length To)(hne:K≠To)(n0:0≤N)(n1:N≤30) : Ev (fun k=>qca k c K To N) ⟨c.Truth,(qdg c K (qib N (nd c K) (nd c To))).set To.toNat (qj8 K N (nd c K) (nd c To)),c.Acked⟩:=by
 have a:=hg.fit hk
 have b:=hg.fit ht
 have al:=a.log
 have bl:=b.log
 have hp:=qwt (a:=(nd c K).Log) (b:=(nd c To).Log)
 have hkn:=qgp b.know hk
 have hij:K.toNat≠To.toNat:=by have:=hk.1; have:=ht.1; omega
 unfold qca
 refine r4 a.get (r4 b.get ?_)
 simp only [qpc hne]
 refine n8 (q83 (by omega)) ?_
 rw [qbt (n:=(f0 (nd c To).Log:Int) - ((pre (nd c K).Log (nd c To).Log:Nat) : Int)) (by omega) (by omega)]
 unfold qdg
 rw [qs0 hij]
 unfold qib qj8 qij
 generalize hP:pre (nd c K).Log (nd c To).Log=p at *
 have key:∀ m:Int,0≤m→p+m.toNat≤(nd c To).Log.length→(nd c To).Log.take (p+m.toNat)=(nd c To).Log.take (p+N.toNat)→Ev (fun _=>qb4 c K To (nd c K) (nd c To) (p:Int) m) ⟨c.Truth,(c.Nodes.set To.toNat ⟨(nd c To).View,(nd c To).Log,(nd c To).Known.set K.toNat (((nd c To).Log.take (p+N.toNat)).length:Int),(nd c To).Told⟩).set K.toNat ⟨(nd c K).View,(nd c To).Log.take (p+N.toNat),(nd c K).Known,0⟩,c.Acked⟩:=by
  intro m hm hle e
  unfold qb4
  rw [show (p:Int)+m=((p+m.toNat:Nat) : Int) by omega,qbt (by omega) (by omega)]
  refine r4 (qgi hle) (r4 (ww (by rw [a02]; omega)) ?_)
  rw [e]
  exact r4 hkn o6
 by_cases h:((nd c To).Log.length:Int) - (p:Int)<N
 ·refine n8 (t6 (by simpa using h) o6) (key _ (by omega) (by omega) ?_)
  rw [a0j (by omega),a0j (by omega)]
 ·exact n8 (r5 (by simpa using h) o6) (key _ n0 (by omega) rfl)
theorem za0 {c:Cluster}{v:Int}(hl:c.Truth.InStep.length≤1000) : Ev (fun _=>xk (fun i19 s69=>xd c v i19 s69) (f0 c.Truth.InStep:Int) ([] : List Int)) (.nxt (c.Truth.InStep.filter (fun z=>decide (z≠v)))):=by
 simp only [qi7]
 refine qc2 (B:=fun _ i (_:Unit) s=>xd c v i s) (by simp; omega) (fun i r s=>i+r.length=c.Truth.InStep.length∧s=(c.Truth.InStep.take i).filter (fun z=>decide (z≠v))) (by simp) (fun i u r s ⟨hr,hs⟩ => .inl ?_) (fun i s ⟨hr,hs⟩=>?_)
 ·simp only [a0r] at hr
  have hx:c.Truth.InStep[i]? = some (c.Truth.InStep[i]'(by omega)):=List.getElem?_eq_getElem _
  generalize c.Truth.InStep[i]'_=y at hx
  have hc:((c.Truth.InStep.take i).filter (fun z=>decide (z≠v))).length≤(c.Truth.InStep.take i).length:=a1r _ _
  rw [a02] at hc
  subst hs
  unfold xd
  rw [a0w,hx,List.filter_append]
  by_cases h:y=v
  ·refine ⟨_,r4 (jr hx) (r5 (by simpa using h) o6),by omega,?_⟩
   simp [h]
  ·refine ⟨_,r4 (jr hx) (t6 (by simpa using h) (r4 (q80 (by omega)) o6)),by omega,?_⟩
   simp [h]
 ·have:c.Truth.InStep.length≤i:=by simp at hr; omega
  rw [hs,a0j this]
theorem qo3 {c:Cluster}{K To:Int}{b:Bool}(hg:qam c)(hk:rng c.Nodes.length K)(hb:b=true→¬ To∈c.Truth.InStep) : Ev (fun k=>yw k c K To b) (qir c K (if b=true then qf1 c.Truth.InStep To else c.Truth.InStep.filter fun z=>decide (z≠To))):=by
 have a:=hg.fit hk
 have hm:=hg.2.1.2.1
 have hml:=qbz hm
 have hn:=hg.1
 have fin:∀ l:List Int,l.length≤1000→Ev (fun _=>qbk c K l) (qir c K l):=by
  intro l hl
  unfold qbk
  exact r4 (ww (by omega)) (r4 a.get o6)
 have hfl:=a1r (fun z=>decide (z≠To)) c.Truth.InStep
 unfold yw
 refine Ev.jn (za0 (by omega)) ?_
 unfold qdu
 cases b with
 | false =>
  rw [if_neg (show ¬ false=true by decide)]
  exact n8 (r5 rfl o6) (fin _ (by omega))
 | true =>
  have hni:=hb rfl
  obtain ⟨A,B,hAB,hA,hB,hmem,hB2⟩:=qmc (qfr hm) To
  have hABl:(A++B).length≤1000:=by rw [←hAB]; omega
  have e1:c.Truth.InStep.filter (fun z=>decide (z≠To))=A++B:=by
   rw [←hAB]
   exact List.filter_eq_self.2 (fun z hz=>by simp; rintro rfl; exact hni hz)
  have e2:qf1 c.Truth.InStep To=A++To::B:=by
   unfold qf1
   rw [hAB,(flt hA hB).1,(flt hA hB).2]
  rw [if_pos rfl,e1,e2]
  have hp:=q9z hABl hA hB
  rw [if_neg (fun h=>hni (hmem.2 h))] at hp
  exact n8 (t6 rfl (n8 hp o6)) (fin _ (by rw [hAB] at hml; simp only [p9,a0r] at hml ⊢; omega))
theorem q81 {x:Node}(hl:x.Log.length≤30) : Ev (fun _=>ut x) (qd1 x:Int):=by
 unfold ut
 refine Ev.jn (s:=(qd1 x:Int)) ?_ o6
 refine qc2 (B:=fun _ i y s=>qag x i y s) (by omega) (fun i r s=>x.Log.drop i=r∧s=(((x.Log.take i).countP fun r=>decide (r.Epoch<x.View.Epoch) : Nat) : Int)) (by simp) (fun i y r s ⟨hr,hs⟩ => .inl ?_) (fun i s ⟨hr,hs⟩=>?_)
 ·have hx:x.Log[i]? = some y:=by have:=congrArg (fun z=>z[0]?) hr; simpa using this
  have hi:=(List.getElem?_eq_some_iff.1 hx).1
  have hc:((x.Log.take i).countP fun r=>decide (r.Epoch<x.View.Epoch))≤(x.Log.take i).length:=List.countP_le_length
  rw [a02] at hc
  subst hs
  unfold qag
  rw [a0w,hx,List.countP_append]
  have hd:x.Log.drop (i+1)=r:=by have:=congrArg (List.drop 1) hr; simpa [List.drop_drop] using this
  by_cases h:y.Epoch<x.View.Epoch
  ·refine ⟨_,t6 (by simpa using h) o6,hd,?_⟩
   rw [xv (by omega)]
   simp [h]
  ·refine ⟨_,r5 (by simpa using h) o6,hd,?_⟩
   simp [h]
 ·have:x.Log.length≤i:=by have:=congrArg f0 hr; simp at this; omega
  rw [hs,a0j this]
  rfl
theorem q96 {c:Cluster}{x:ClusterStep}(hg:qam c)(hk:rng c.Nodes.length x.K)(h7:x.Kind=7)(hl:(nd c x.K).View.Leader=x.K) : Ev (fun _=>wq c x.K) (q91 c (cdo c x)):=by
 have a:=hg.fit hk
 have al:=a.log
 have hgn:=(hg.2.2.2 _ _ a.get').1
 have hkl:∀ j,kn (nd c x.K) j≤(nd c x.K).Log.length:=fun j=>by
  unfold kn
  cases h:(nd c x.K).Known[j.toNat]? with
  | none=>show (0:Int)≤_; omega
  | some m=>exact (hgn.2.2.2.2.2.2.2 _ _ h).2.1
 have hle:=qp1 a.know hkl (fun e=>by have:=hgn.1.2.2; rw [e] at this; cases this)
 unfold wq
 refine r4 a.get (Ev.jn (qlv (B:=fun i s=>qa2 (nd c x.K) i s) (by have:=a.insl; omega) a.know a.ins (fun i o s hx hgt=>?_)) ?_)
 ·unfold qa2
  rw [jr hx,r9,hgt,r9]
  unfold mnI
  by_cases h:kn (nd c x.K) o<s
  ·rw [if_pos (by simpa using h),if_pos h]
  ·rw [if_neg (by simpa using h),if_neg h]
 unfold qev
 have hto:=a.told
 by_cases h:(nd c x.K).Told<u1 (nd c x.K)
 case neg =>
  rw [show cdo c x=none by rw [qlb h7,if_neg (fun q=>h q.2)]]
  exact t6 (by simp; omega) o6
 rw [show cdo c x=some _ by rw [qlb h7,if_pos ⟨hl,h⟩]]
 refine r5 (by simp; omega) ?_
 by_cases h2:(c.Acked.length:Int)<u1 (nd c x.K)
 ·refine t6 (by simpa using h2) ?_
  rw [if_pos h2]
  exact (r4 (qo2 (by omega) hle) (r4 (ww (by simp; omega)) o6))
 ·refine r5 (by simpa using h2) ?_
  rw [if_neg h2]
  exact o6
def cst (c:Cluster)(x:ClusterStep) : Option Cluster:=if x.Kind=1∧100≤c.Truth.Epoch then none else cdo c x
theorem qq0 {c:Cluster}{x:ClusterStep} : ((((((decide (x.K<0))||(decide ((f0 c.Nodes:Int)≤x.K))) ||
  (decide (x.To<0)))||(decide ((f0 c.Nodes:Int)≤x.To)))||(((decide (x.Kind≠3))&&(decide (x.Kind≠4)))&&(decide (x.N≠0)))) ||
  ((!(ju x.Kind 4 6))&&(decide (x.To≠0))))=true↔¬ qco c x:=by
 unfold qco rng ju
 simp
 omega
theorem qo6 {c:Cluster}{x:ClusterStep}(hg:qam c)(h:qco c x) : Ev (fun k=>qaj k c x) (q91 c (cst c x)):=by
 obtain ⟨hk,ht,_,_⟩:=id h
 have a:=hg.fit hk
 have b:=hg.fit ht
 have al:=a.log
 have hm:=hg.2.1.2.1
 have hml:=qbz hm
 have hn:=hg.1
 obtain ⟨v,ev,hv⟩:=qgx (l:=c.Truth.InStep) (v:=x.To) (by omega)
 unfold qaj
 refine r5 (bF qq0 (fun q=>q h)) (r4 a.get (n8 (qph a) (n8 ev ?_)))
 have hkn:=qgp a.know hk
 have hkt:=qgp a.know ht
 by_cases d1:x.Kind=1
 ·obtain ⟨w,ew,hw⟩:=qgx (l:=c.Truth.InStep) (v:=x.K) (by omega)
  have hE:=hg.2.1.1
  unfold cst
  rw [qxz d1]
  refine n8 (a:=w) (t6 (by simpa using d1) (n8 ew o6)) ?_
  by_cases h:x.K∈c.Truth.InStep∧c.Truth.Epoch<100
  ·refine t6 (by simp [hw.2 h.1,h.2]) ?_
   rw [qbt (n:=c.Truth.Epoch+1) (by omega) (by omega),if_neg (show ¬ (x.Kind=1∧100≤c.Truth.Epoch) by omega),if_pos h.1]
   exact o6
  ·refine r5 ?_ ?_
   ·by_cases h1:x.K∈c.Truth.InStep
    ·simp; intro _; exact Int.not_lt.1 (fun q=>h ⟨h1,q⟩)
    ·simp [bF hw h1]
   ·have e:(if x.Kind=1∧100≤c.Truth.Epoch then none else if x.K∈c.Truth.InStep then some (⟨⟨c.Truth.Epoch+1,x.K,c.Truth.InStep⟩,c.Nodes,c.Acked⟩ : Cluster) else none)=none:=by
     split
     ·rfl
     ·rename_i q
      rw [if_neg (fun h1=>h ⟨h1,by omega⟩)]
    rw [e]
    simp only [d1,a11,decide_false,decide_true,a1k,t5,if_false,r9]
    exact o6
 rw [show cst c x=cdo c x from if_neg (fun q=>d1 q.1)]
 refine n8 (a:=false) (r5 (by simpa using d1) o6) (r5 rfl ?_)
 by_cases d2:x.Kind=2
 ·obtain ⟨w,ew,hw⟩:=q9v (a:=(nd c x.K).View) (b:=c.Truth) (hg.2.2.2 _ _ a.get').1.1.2.1 hm (by have:=a.insl; omega) (by omega)
  rw [zak d2]
  refine n8 (a := !w) (t6 (by simpa using d2) (n8 ew o6)) ?_
  by_cases h:qfn (nd c x.K).View c.Truth
  ·rw [if_pos h,hw.2 h]
   refine r5 rfl ?_
   simp only [d2,a11,decide_false,decide_true,a1k,t5,if_false,r9]
   exact o6
  ·rw [if_neg h,bF hw h]
   exact t6 rfl (n8 (q8l hg hk) o6)
 refine n8 (a:=false) (r5 (by simpa using d2) o6) (r5 rfl ?_)
 by_cases d3:x.Kind=3
 ·rw [zan d3]
  by_cases h:(nd c x.K).View.Leader=x.K∧(0≤x.N∧x.N≤99)∧(nd c x.K).Log.length≠30
  ·rw [if_pos h]
   refine t6 (by simp [d3,h,ju]; omega) ?_
   refine r4 (a:=(nd c x.K).Log++[⟨(nd c x.K).View.Epoch,x.N⟩]) (by unfold yc; rw [if_pos (by simp; omega)]) (r4 hkn ?_)
   rw [p9]
   exact o6
  ·rw [if_neg h]
   refine r5 (by simp [d3,ju]; omega) ?_
   simp only [d3,a11,decide_false,decide_true,a1k,t5,if_false,r9]
   exact o6
 refine r5 (by simp [d3]) ?_
 by_cases d4:x.Kind=4
 ·have hts:=qph b
  by_cases h1:(nd c x.K).View.Leader≠x.K∧x.To≠x.K
  case neg =>
   rw [show cdo c x=none by rw [qm7 d4,if_neg (fun q=>h1 ⟨q.1.2.2.1,Ne.symm q.1.1⟩)]]
   refine r5 ?_ ?_
   ·simp only [d4,decide_true,Bool.true_and,a2t,Bool.not_eq_false',decide_eq_true_eq,decide_eq_false_iff_not]
    by_cases q:(nd c x.K).View.Leader=x.K
    ·exact .inl q
    ·exact .inr (fun q2=>h1 ⟨q,q2⟩)
   ·simp only [d4,a11,decide_false,decide_true,a1k,t5,if_false,r9]
    exact o6
  refine t6 (by simp [d4,h1]) (n8 hts ?_)
  by_cases h2:(nd c x.To).View.Leader=x.To
  case neg =>
   rw [show cdo c x=none by rw [qm7 d4,if_neg (fun q=>h2 q.1.2.1)]]
   simp only [d4,h2,a11,decide_false,decide_true,a1k,t5,if_false,r9]
   exact o6
  refine n8 (a:=decide ((nd c x.To).View.Epoch=(nd c x.K).View.Epoch)) (t6 (by simpa using h2) (r4 b.get (Ev.of (by rw [qpc (Ne.symm h1.2)])))) ?_
  by_cases h3:(nd c x.K).View.Epoch=(nd c x.To).View.Epoch
  case neg =>
   rw [show cdo c x=none by rw [qm7 d4,if_neg (fun q=>h3 q.1.2.2.2)]]
   refine r5 (by simpa using Ne.symm h3) ?_
   simp only [d4,a11,decide_false,decide_true,a1k,t5,if_false,r9]
   exact o6
  refine t6 (by simpa using h3.symm) ?_
  by_cases h4:0≤x.N∧x.N≤30
  ·rw [show cdo c x=some _ by rw [qm7 d4,if_pos ⟨⟨Ne.symm h1.2,h2,h1.1,h3⟩,h4⟩]]
   exact t6 (zbc.2 h4) (n8 (q8j hg hk ht (Ne.symm h1.2) h4.1 h4.2) o6)
  ·rw [show cdo c x=none by rw [qm7 d4,if_neg (fun q=>h4 q.2)]]
   refine r5 (bF zbc h4) ?_
   simp only [d4,a11,decide_false,decide_true,a1k,t5,if_false,r9]
   exact o6
 refine r5 (by simp [d4]) ?_
 by_cases d5:x.Kind=5
 ·rw [qsk d5]
  by_cases h:((nd c x.K).View.Leader=x.K∧(nd c x.K).View.Epoch=c.Truth.Epoch)∧x.To∈c.Truth.InStep∧x.To≠x.K
  ·rw [if_pos h]
   refine t6 (by simp [d5,h,hv.2 h.2.1]) (n8 (qo3 (b:=false) hg hk (fun q=>by cases q)) o6)
  ·rw [if_neg h]
   refine r5 ?_ ?_
   ·cases hvv:v with
    | false=>simp
    | true =>
     have:=hv.1 hvv
     simp only [d5,decide_true,Bool.true_and,Bool.and_true,a2t,decide_eq_false_iff_not]
     by_cases q1:(nd c x.K).View.Leader=x.K
     ·by_cases q2:(nd c x.K).View.Epoch=c.Truth.Epoch
      ·exact .inr (fun q3=>h ⟨⟨q1,q2⟩,this,q3⟩)
      ·exact .inl (.inr q2)
     ·exact .inl (.inl q1)
   ·simp only [d5,a11,decide_false,decide_true,a1k,t5,if_false,r9]
    exact o6
 refine r5 (by simp [d5]) ?_
 by_cases d6:x.Kind=6
 ·skip
  have hin:x.To=x.K→((nd c x.K).View.Leader=x.K∧(nd c x.K).View.Epoch=c.Truth.Epoch)→x.To∈c.Truth.InStep:=by
   intro q1 ⟨q2,q3⟩
   have h1:=(hg.2.2.2 _ _ a.get').1.2.2.1
   have h2:(nd c x.K).View.Leader=c.Truth.Leader:=Classical.byContradiction fun q=>h1 ⟨q3,q⟩
   rw [q1,← q2,h2]
   exact hg.2.1.2.2
  by_cases h1:((nd c x.K).View.Leader=x.K∧(nd c x.K).View.Epoch=c.Truth.Epoch)∧¬ x.To∈c.Truth.InStep
  case neg =>
   rw [show cdo c x=none by rw [qli d6,if_neg (fun q=>h1 ⟨q.1,q.2.1⟩)]]
   refine n8 (a:=false) (r5 ?_ o6) ?_
   ·cases hvv:v with
    | true=>simp
    | false =>
     have hni:¬ x.To∈c.Truth.InStep:=fun q=>by rw [hv.2 q] at hvv; cases hvv
     simp only [d6,decide_true,Bool.true_and,Bool.not_false,Bool.and_true,a2t,decide_eq_false_iff_not]
     by_cases q1:(nd c x.K).View.Leader=x.K
     ·by_cases q2:(nd c x.K).View.Epoch=c.Truth.Epoch
      ·exact absurd ⟨⟨q1,q2⟩,hni⟩ h1
      ·exact .inl (.inr q2)
     ·exact .inl (.inl q1)
   ·simp only [d6,a11,decide_false,decide_true,a1k,t5,if_false,r9]
    exact o6
  have hne:x.To≠x.K:=fun q=>h1.2 (hin q h1.1)
  have hvf:=bF hv h1.2
  refine n8 (a:=decide ((nd c x.K).Told≤kn (nd c x.K) x.To)) (t6 (by simp [d6,h1.1,hne,hvf]) (r4 hkt o6)) ?_
  by_cases h2:(nd c x.K).Told≤kn (nd c x.K) x.To
  case neg =>
   rw [show cdo c x=none by rw [qli d6,if_neg (fun q=>h2 q.2.2.1)]]
   refine r5 (by simpa using h2) ?_
   simp only [d6,a11,decide_false,decide_true,a1k,t5,if_false,r9]
   exact o6
  refine t6 (by simpa using h2) (r4 hkt (n8 (q81 al) ?_))
  by_cases h3:(qd1 (nd c x.K) : Int)≤kn (nd c x.K) x.To
  ·rw [show cdo c x=some _ by rw [qli d6,if_pos ⟨h1.1,h1.2,h2,h3⟩]]
   exact t6 (by simpa using h3) (n8 (qo3 (b:=true) hg hk (fun _=>h1.2)) o6)
  ·rw [show cdo c x=none by rw [qli d6,if_neg (fun q=>h3 q.2.2.2)]]
   refine r5 (by simpa using h3) ?_
   simp only [d6,a11,decide_false,decide_true,a1k,t5,if_false,r9]
   exact o6
 refine n8 (a:=false) (r5 (by simp [d6]) o6) (r5 rfl ?_)
 by_cases d7:x.Kind=7∧(nd c x.K).View.Leader=x.K
 ·exact t6 (by simpa using d7) (n8 (q96 hg hk d7.1 d7.2) o6)
 ·have:cdo c x=none:=by
   by_cases q:x.Kind=7
   ·rw [qlb q,if_neg (fun w=>d7 ⟨q,w.1⟩)]
   ·exact qx4 (by omega)
  rw [this]
  exact r5 (bF (by simp) d7) o6
theorem quh {c:Cluster}{x:ClusterStep}(h:¬ qco c x) : Ev (fun k=>qaj k c x) (c,false):=by
 unfold qaj
 exact t6 (qq0.2 h) o6
end Go.Proofs.Ytohofoampalhoaa.X
