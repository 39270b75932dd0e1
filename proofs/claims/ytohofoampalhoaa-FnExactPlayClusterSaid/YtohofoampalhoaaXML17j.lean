/- The cluster: what a step does; the specification's side. -/
import Derived.Test.YtohofoampalhoaaXML17i
open Bool renaming and_eq_false_iff→a3b,false_and→a2j,false_eq_true→a0w
open Go.Proofs.Ytohofoampalhoaa.X.Ev renaming bindp→a0q,bind→a0n,iteF→a0t,iteT→a00,rfl→a0o
open Int renaming reduceEq→a21
open List renaming length_append→a0p,length_cons→a1b,length_filter_le→a2r,length_take→a1t,length→t6,replicate→a0y,take_add_one→a1v,take_of_length_le→a1h
open Option renaming bind_some→a0x
set_option linter.unusedVariables false
set_option linter.unusedSimpArgs false
namespace Go.Proofs.Ytohofoampalhoaa.X
open Go

theorem qsk {c:Cluster}{x:ClusterStep}(h:x.Kind=1) : cdo c x=if x.K∈c.Truth.InStep then some ⟨⟨c.Truth.Epoch+1,x.K,c.Truth.InStep⟩,c.Nodes,c.Acked⟩ else none:=by
 unfold cdo
 rw [if_pos h]
theorem qxy {c:Cluster}{x:ClusterStep}(h:x.Kind=2) : cdo c x=if qfu (nd c x.K).View c.Truth then none else some ⟨c.Truth,uv c x.K (qhn c.Truth c.Nodes.length x.K (nd c x.K)),c.Acked⟩:=by
 unfold cdo
 rw [if_neg (by omega),if_pos h]
theorem qys {c:Cluster}{x:ClusterStep}(h:x.Kind=3) : cdo c x=if (nd c x.K).View.Leader=x.K∧(0≤x.N∧x.N≤99)∧(nd c x.K).Log.length≠30 then some ⟨c.Truth,uv c x.K (qfr x.K x.N (nd c x.K)),c.Acked⟩ else none:=by
 unfold cdo
 rw [if_neg (by omega),if_neg (by omega),if_pos h]
theorem qls {c:Cluster}{x:ClusterStep}(h:x.Kind=4) : cdo c x=if (x.K≠x.To∧(nd c x.To).View.Leader=x.To∧(nd c x.K).View.Leader≠x.K∧(nd c x.K).View.Epoch=(nd c x.To).View.Epoch)∧(0≤x.N∧x.N≤30) then some ⟨c.Truth,(uv c x.K (qd4 x.N (nd c x.K) (nd c x.To))).set x.To.toNat (qdj x.K x.N (nd c x.K) (nd c x.To)),c.Acked⟩ else none:=by
 unfold cdo
 rw [if_neg (by omega),if_neg (by omega),if_neg (by omega),if_pos h]
def qyv (c:Cluster) : Option Cluster→Cluster × Bool
 | some c'=>(c',true)
 | none=>(c,false)
theorem qke {v:View}(h:v.InStep.length≤1048576) : Ev (fun _=>xh v) v:=by
 unfold xh
 exact a0q (w5 (by omega)) a0o
theorem q55 {c:Cluster}(h:c.nn≤1048576) : Ev (fun _=>qcr c) c:=by
 obtain ⟨t1,t2,t3⟩:=qhr h
 unfold qcr
 refine a0n (qke t1) (a0q (w5 (by omega)) (Ev.jn (qmd h (fun i x s hx hs=>?_)) a0o))
 obtain ⟨n1,n2,n3⟩:=qkr h hx
 unfold qdw
 exact a0n (qke n1) (a0q (w5 (by omega)) (a0q (w5 (by omega)) (a0q (q6k hs) a0o)))
theorem qpw {c:Cluster}{k:Int}(h:FitN c k) : Ev (fun _=>qan c k) (decide ((nd c k).View.Leader=k)):=by
 unfold qan
 exact a0q h.get a0o
theorem zaj {a b:View}{n m:Int}(ha:qge a.InStep n)(hb:qge b.InStep m)(la:a.InStep.length≤1048576)(lb:b.InStep.length≤1048576) : Is (fun _=>qdi a b) (qfu a b):=by
 unfold qdi qfu
 refine (Is.bind (P:=(a.Epoch=b.Epoch∧a.Leader=b.Leader)∧a.InStep=b.InStep) (Is.andb (by simp) (fun _=>(qrq la lb).iff (qx0 ha hb))) (fun b hb=>Is.of hb)).iff and_assoc
theorem q88 {c:Cluster}{K:Int}(hg:qa9 c)(hk:rng c.Nodes.length K) : Ev (fun _=>qcp c K) ⟨c.Truth,uv c K (qhn c.Truth c.Nodes.length K (nd c K)),c.Acked⟩:=by
 have a:=hg.fit hk
 have hml:=qcf hg.2.1.2.1
 have hn:=hg.1
 have hcv:=qke (v:=c.Truth) (by omega)
 unfold qcp qhn uv
 refine a0q a.get ?_
 by_cases c1:(nd c K).View.Epoch=c.Truth.Epoch
 ·rw [if_pos c1]
  refine a0n (a:=nd c K) (a0t (by simpa using c1) a0o) ?_
  unfold qau
  exact a0n hcv a0o
 ·rw [if_neg c1]
  have hmk:=qp0 (b:=8) (n:=c.Nodes.length) (z:=(0:Int)) (by omega)
  by_cases c2:c.Truth.Leader=K
  ·rw [if_pos c2]
   have hz:zx (a0y c.Nodes.length (0:Int)) K=some 0:=by
    unfold zx
    rw [if_pos hk.1,List.getElem?_replicate,if_pos a.lt]
   refine a0n (a:=⟨(nd c K).View,(nd c K).Log,(a0y c.Nodes.length (0:Int)).set K.toNat ((nd c K).Log.length:Int),0⟩) (a00 (by simpa using c1) (a0q hmk (a00 (by simpa using c2) (a0q hz a0o)))) ?_
   unfold qau
   exact a0n hcv a0o
  ·rw [if_neg c2]
   refine a0n (a:=⟨(nd c K).View,(nd c K).Log,a0y c.Nodes.length (0:Int),0⟩) (a00 (by simpa using c1) (a0q hmk (a0t (by simpa using c2) a0o))) ?_
   unfold qau
   exact a0n hcv a0o
theorem qv2 {l:List Node}{i j:Nat}{a b:Node}(h:i≠j) : (l.set i a).set j b=(l.set j b).set i a:=List.set_comm _ _ h
theorem q8y {c:Cluster}{K To N:Int}(hg:qa9 c)(hk:rng c.Nodes.length K)(ht:rng c.Nodes.length To)(hne:K≠To)(n0:0≤N)(n1:N≤30) : Ev (fun k=>qco k c K To N) ⟨c.Truth,(uv c K (qd4 N (nd c K) (nd c To))).set To.toNat (qdj K N (nd c K) (nd c To)),c.Acked⟩:=by
 have a:=hg.fit hk
 have b:=hg.fit ht
 have al:=a.log
 have bl:=b.log
 have hp:=quz (a:=(nd c K).Log) (b:=(nd c To).Log)
 have hkn:=qhe b.know hk
 have hij:K.toNat≠To.toNat:=by have:=hk.1; have:=ht.1; omega
 unfold qco
 refine a0q a.get (a0q b.get ?_)
 simp only [qo7 hne]
 refine a0n (q90 (by omega)) ?_
 rw [qc5 (n:=(t6 (nd c To).Log:Int) - ((pre (nd c K).Log (nd c To).Log:Nat) : Int)) (by omega) (by omega)]
 unfold uv
 rw [qv2 hij]
 unfold qd4 qdj qf9
 generalize hP:pre (nd c K).Log (nd c To).Log=p at *
 have key:∀ m:Int,0≤m→p+m.toNat≤(nd c To).Log.length→(nd c To).Log.take (p+m.toNat)=(nd c To).Log.take (p+N.toNat)→Ev (fun _=>qch c K To (nd c K) (nd c To) (p:Int) m) ⟨c.Truth,(c.Nodes.set To.toNat ⟨(nd c To).View,(nd c To).Log,(nd c To).Known.set K.toNat (((nd c To).Log.take (p+N.toNat)).length:Int),(nd c To).Told⟩).set K.toNat ⟨(nd c K).View,(nd c To).Log.take (p+N.toNat),(nd c K).Known,0⟩,c.Acked⟩:=by
  intro m hm hle e
  unfold qch
  rw [show (p:Int)+m=((p+m.toNat:Nat) : Int) by omega,qc5 (by omega) (by omega)]
  refine a0q (qg0 hle) (a0q (w5 (by rw [a1t]; omega)) ?_)
  rw [e]
  exact a0q hkn a0o
 by_cases h:((nd c To).Log.length:Int) - (p:Int)<N
 ·refine a0n (a00 (by simpa using h) a0o) (key _ (by omega) (by omega) ?_)
  rw [a1h (by omega),a1h (by omega)]
 ·exact a0n (a0t (by simpa using h) a0o) (key _ n0 (by omega) rfl)
theorem zbi {c:Cluster}{v:Int}(hl:c.Truth.InStep.length≤1000) : Ev (fun _=>xv (fun i19 s69=>xl c v i19 s69) (t6 c.Truth.InStep:Int) ([] : List Int)) (.nxt (c.Truth.InStep.filter (fun z=>decide (z≠v)))):=by
 simp only [qlo]
 refine qce (B:=fun _ i (_:Unit) s=>xl c v i s) (by simp; omega) (fun i r s=>i+r.length=c.Truth.InStep.length∧s=(c.Truth.InStep.take i).filter (fun z=>decide (z≠v))) (by simp) (fun i u r s ⟨hr,hs⟩ => .inl ?_) (fun i s ⟨hr,hs⟩=>?_)
 ·simp only [a1b] at hr
  have hx:c.Truth.InStep[i]? = some (c.Truth.InStep[i]'(by omega)):=List.getElem?_eq_getElem _
  generalize c.Truth.InStep[i]'_=y at hx
  have hc:((c.Truth.InStep.take i).filter (fun z=>decide (z≠v))).length≤(c.Truth.InStep.take i).length:=a2r _ _
  rw [a1t] at hc
  subst hs
  unfold xl
  rw [a1v,hx,List.filter_append]
  by_cases h:y=v
  ·refine ⟨_,a0q (jl hx) (a0t (by simpa using h) a0o),by omega,?_⟩
   simp [h]
  ·refine ⟨_,a0q (jl hx) (a00 (by simpa using h) (a0q (q94 (by omega)) a0o)),by omega,?_⟩
   simp [h]
 ·have:c.Truth.InStep.length≤i:=by simp at hr; omega
  rw [hs,a1h this]
theorem qow {c:Cluster}{K To:Int}{b:Bool}(hg:qa9 c)(hk:rng c.Nodes.length K)(hb:b=true→¬ To∈c.Truth.InStep) : Ev (fun k=>wa k c K To b) (qi7 c K (if b=true then qcj c.Truth.InStep To else c.Truth.InStep.filter fun z=>decide (z≠To))):=by
 have a:=hg.fit hk
 have hm:=hg.2.1.2.1
 have hml:=qcf hm
 have hn:=hg.1
 have fin:∀ l:List Int,l.length≤1000→Ev (fun _=>qby c K l) (qi7 c K l):=by
  intro l hl
  unfold qby
  exact a0q (w5 (by omega)) (a0q a.get a0o)
 have hfl:=a2r (fun z=>decide (z≠To)) c.Truth.InStep
 unfold wa
 refine Ev.jn (zbi (by omega)) ?_
 unfold qd3
 cases b with
 | false =>
  rw [if_neg (show ¬ false=true by decide)]
  exact a0n (a0t rfl a0o) (fin _ (by omega))
 | true =>
  have hni:=hb rfl
  obtain ⟨A,B,hAB,hA,hB,hmem,hB2⟩:=ql7 (qf0 hm) To
  have hABl:(A++B).length≤1000:=by rw [←hAB]; omega
  have e1:c.Truth.InStep.filter (fun z=>decide (z≠To))=A++B:=by
   rw [←hAB]
   exact List.filter_eq_self.2 (fun z hz=>by simp; rintro rfl; exact hni hz)
  have e2:qcj c.Truth.InStep To=A++To::B:=by
   unfold qcj
   rw [hAB,(flt hA hB).1,(flt hA hB).2]
  rw [if_pos rfl,e1,e2]
  have hp:=zbv hABl hA hB
  rw [if_neg (fun h=>hni (hmem.2 h))] at hp
  exact a0n (a00 rfl (a0n hp a0o)) (fin _ (by rw [hAB] at hml; simp only [a0p,a1b] at hml ⊢; omega))
theorem q97 {x:Node}(hl:x.Log.length≤30) : Ev (fun _=>u3 x) (qd5 x:Int):=by
 unfold u3
 refine Ev.jn (s:=(qd5 x:Int)) ?_ a0o
 refine qce (B:=fun _ i y s=>qax x i y s) (by omega) (fun i r s=>x.Log.drop i=r∧s=(((x.Log.take i).countP fun r=>decide (r.Epoch<x.View.Epoch) : Nat) : Int)) (by simp) (fun i y r s ⟨hr,hs⟩ => .inl ?_) (fun i s ⟨hr,hs⟩=>?_)
 ·have hx:x.Log[i]? = some y:=by have:=congrArg (fun z=>z[0]?) hr; simpa using this
  have hi:=(List.getElem?_eq_some_iff.1 hx).1
  have hc:((x.Log.take i).countP fun r=>decide (r.Epoch<x.View.Epoch))≤(x.Log.take i).length:=List.countP_le_length
  rw [a1t] at hc
  subst hs
  unfold qax
  rw [a1v,hx,List.countP_append]
  have hd:x.Log.drop (i+1)=r:=by have:=congrArg (List.drop 1) hr; simpa [List.drop_drop] using this
  by_cases h:y.Epoch<x.View.Epoch
  ·refine ⟨_,a00 (by simpa using h) a0o,hd,?_⟩
   rw [xe (by omega)]
   simp [h]
  ·refine ⟨_,a0t (by simpa using h) a0o,hd,?_⟩
   simp [h]
 ·have:x.Log.length≤i:=by have:=congrArg t6 hr; simp at this; omega
  rw [hs,a1h this]
  rfl
theorem zae {c:Cluster}{x:ClusterStep}(hg:qa9 c)(hk:rng c.Nodes.length x.K)(h7:x.Kind=7)(hl:(nd c x.K).View.Leader=x.K) : Ev (fun _=>wv c x.K) (qyv c (cdo c x)):=by
 have a:=hg.fit hk
 have al:=a.log
 have hgn:=(hg.2.2.2 _ _ a.get').1
 have hkl:∀ j,kn (nd c x.K) j≤(nd c x.K).Log.length:=fun j=>by
  unfold kn
  cases h:(nd c x.K).Known[j.toNat]? with
  | none=>show (0:Int)≤_; omega
  | some m=>exact (hgn.2.2.2.2.2.2.2 _ _ h).2.1
 have hle:=qll a.know hkl (fun e=>by have:=hgn.1.2.2; rw [e] at this; cases this)
 unfold wv
 refine a0q a.get (Ev.jn (qmo (B:=fun i s=>qbh (nd c x.K) i s) (by have:=a.insl; omega) a.know a.ins (fun i o s hx hgt=>?_)) ?_)
 ·unfold qbh
  rw [jl hx,a0x,hgt,a0x]
  unfold mnI
  by_cases h:kn (nd c x.K) o<s
  ·rw [if_pos (by simpa using h),if_pos h]
  ·rw [if_neg (by simpa using h),if_neg h]
 unfold qez
 have hto:=a.told
 by_cases h:(nd c x.K).Told<uh (nd c x.K)
 case neg =>
  rw [show cdo c x=none by rw [qkl h7,if_neg (fun q=>h q.2)]]
  exact a00 (by simp; omega) a0o
 rw [show cdo c x=some _ by rw [qkl h7,if_pos ⟨hl,h⟩]]
 refine a0t (by simp; omega) ?_
 by_cases h2:(c.Acked.length:Int)<uh (nd c x.K)
 ·refine a00 (by simpa using h2) ?_
  rw [if_pos h2]
  exact (a0q (qpc (by omega) hle) (a0q (w5 (by simp; omega)) a0o))
 ·refine a0t (by simpa using h2) ?_
  rw [if_neg h2]
  exact a0o
def cst (c:Cluster)(x:ClusterStep) : Option Cluster:=if x.Kind=1∧100≤c.Truth.Epoch then none else cdo c x
theorem qra {c:Cluster}{x:ClusterStep} : ((((((decide (x.K<0))||(decide ((t6 c.Nodes:Int)≤x.K))) ||
  (decide (x.To<0)))||(decide ((t6 c.Nodes:Int)≤x.To)))||(((decide (x.Kind≠3))&&(decide (x.Kind≠4)))&&(decide (x.N≠0)))) ||
  ((!(kt x.Kind 4 6))&&(decide (x.To≠0))))=true↔¬ qak c x:=by
 unfold qak rng kt
 simp
 omega
theorem qx2 {c:Cluster}{x:ClusterStep}(hg:qa9 c)(h:qak c x) : Ev (fun k=>uu k c x) (qyv c (cst c x)):=by
 obtain ⟨hk,ht,_,_⟩:=id h
 have a:=hg.fit hk
 have b:=hg.fit ht
 have al:=a.log
 have hm:=hg.2.1.2.1
 have hml:=qcf hm
 have hn:=hg.1
 obtain ⟨v,ev,hv⟩:=qly (l:=c.Truth.InStep) (v:=x.To) (by omega)
 unfold uu
 refine a0t (bF qra (fun q=>q h)) (a0q a.get (a0n (qpw a) (a0n ev ?_)))
 have hkn:=qhe a.know hk
 have hkt:=qhe a.know ht
 by_cases d1:x.Kind=1
 ·obtain ⟨w,ew,hw⟩:=qly (l:=c.Truth.InStep) (v:=x.K) (by omega)
  have hE:=hg.2.1.1
  unfold cst
  rw [qsk d1]
  refine a0n (a:=w) (a00 (by simpa using d1) (a0n ew a0o)) ?_
  by_cases h:x.K∈c.Truth.InStep∧c.Truth.Epoch<100
  ·refine a00 (by simp [hw.2 h.1,h.2]) ?_
   rw [qc5 (n:=c.Truth.Epoch+1) (by omega) (by omega),if_neg (show ¬ (x.Kind=1∧100≤c.Truth.Epoch) by omega),if_pos h.1]
   exact a0o
  ·refine a0t ?_ ?_
   ·by_cases h1:x.K∈c.Truth.InStep
    ·simp; intro _; exact Int.not_lt.1 (fun q=>h ⟨h1,q⟩)
    ·simp [bF hw h1]
   ·have e:(if x.Kind=1∧100≤c.Truth.Epoch then none else if x.K∈c.Truth.InStep then some (⟨⟨c.Truth.Epoch+1,x.K,c.Truth.InStep⟩,c.Nodes,c.Acked⟩ : Cluster) else none)=none:=by
     split
     ·rfl
     ·rename_i q
      rw [if_neg (fun h1=>h ⟨h1,by omega⟩)]
    rw [e]
    simp only [d1,a21,decide_false,decide_true,a2j,a0w,if_false,a0x]
    exact a0o
 rw [show cst c x=cdo c x from if_neg (fun q=>d1 q.1)]
 refine a0n (a:=false) (a0t (by simpa using d1) a0o) (a0t rfl ?_)
 by_cases d2:x.Kind=2
 ·obtain ⟨w,ew,hw⟩:=zaj (a:=(nd c x.K).View) (b:=c.Truth) (hg.2.2.2 _ _ a.get').1.1.2.1 hm (by have:=a.insl; omega) (by omega)
  rw [qxy d2]
  refine a0n (a := !w) (a00 (by simpa using d2) (a0n ew a0o)) ?_
  by_cases h:qfu (nd c x.K).View c.Truth
  ·rw [if_pos h,hw.2 h]
   refine a0t rfl ?_
   simp only [d2,a21,decide_false,decide_true,a2j,a0w,if_false,a0x]
   exact a0o
  ·rw [if_neg h,bF hw h]
   exact a00 rfl (a0n (q88 hg hk) a0o)
 refine a0n (a:=false) (a0t (by simpa using d2) a0o) (a0t rfl ?_)
 by_cases d3:x.Kind=3
 ·rw [qys d3]
  by_cases h:(nd c x.K).View.Leader=x.K∧(0≤x.N∧x.N≤99)∧(nd c x.K).Log.length≠30
  ·rw [if_pos h]
   refine a00 (by simp [d3,h,kt]; omega) ?_
   refine a0q (a:=(nd c x.K).Log++[⟨(nd c x.K).View.Epoch,x.N⟩]) (by unfold k5; rw [if_pos (by simp; omega)]) (a0q hkn ?_)
   rw [a0p]
   exact a0o
  ·rw [if_neg h]
   refine a0t (by simp [d3,kt]; omega) ?_
   simp only [d3,a21,decide_false,decide_true,a2j,a0w,if_false,a0x]
   exact a0o
 refine a0t (by simp [d3]) ?_
 by_cases d4:x.Kind=4
 ·have hts:=qpw b
  by_cases h1:(nd c x.K).View.Leader≠x.K∧x.To≠x.K
  case neg =>
   rw [show cdo c x=none by rw [qls d4,if_neg (fun q=>h1 ⟨q.1.2.2.1,Ne.symm q.1.1⟩)]]
   refine a0t ?_ ?_
   ·simp only [d4,decide_true,Bool.true_and,a3b,Bool.not_eq_false',decide_eq_true_eq,decide_eq_false_iff_not]
    by_cases q:(nd c x.K).View.Leader=x.K
    ·exact .inl q
    ·exact .inr (fun q2=>h1 ⟨q,q2⟩)
   ·simp only [d4,a21,decide_false,decide_true,a2j,a0w,if_false,a0x]
    exact a0o
  refine a00 (by simp [d4,h1]) (a0n hts ?_)
  by_cases h2:(nd c x.To).View.Leader=x.To
  case neg =>
   rw [show cdo c x=none by rw [qls d4,if_neg (fun q=>h2 q.1.2.1)]]
   simp only [d4,h2,a21,decide_false,decide_true,a2j,a0w,if_false,a0x]
   exact a0o
  refine a0n (a:=decide ((nd c x.To).View.Epoch=(nd c x.K).View.Epoch)) (a00 (by simpa using h2) (a0q b.get (Ev.of (by rw [qo7 (Ne.symm h1.2)])))) ?_
  by_cases h3:(nd c x.K).View.Epoch=(nd c x.To).View.Epoch
  case neg =>
   rw [show cdo c x=none by rw [qls d4,if_neg (fun q=>h3 q.1.2.2.2)]]
   refine a0t (by simpa using Ne.symm h3) ?_
   simp only [d4,a21,decide_false,decide_true,a2j,a0w,if_false,a0x]
   exact a0o
  refine a00 (by simpa using h3.symm) ?_
  by_cases h4:0≤x.N∧x.N≤30
  ·rw [show cdo c x=some _ by rw [qls d4,if_pos ⟨⟨Ne.symm h1.2,h2,h1.1,h3⟩,h4⟩]]
   exact a00 (zb1.2 h4) (a0n (q8y hg hk ht (Ne.symm h1.2) h4.1 h4.2) a0o)
  ·rw [show cdo c x=none by rw [qls d4,if_neg (fun q=>h4 q.2)]]
   refine a0t (bF zb1 h4) ?_
   simp only [d4,a21,decide_false,decide_true,a2j,a0w,if_false,a0x]
   exact a0o
 refine a0t (by simp [d4]) ?_
 by_cases d5:x.Kind=5
 ·rw [qot d5]
  by_cases h:((nd c x.K).View.Leader=x.K∧(nd c x.K).View.Epoch=c.Truth.Epoch)∧x.To∈c.Truth.InStep∧x.To≠x.K
  ·rw [if_pos h]
   refine a00 (by simp [d5,h,hv.2 h.2.1]) (a0n (qow (b:=false) hg hk (fun q=>by cases q)) a0o)
  ·rw [if_neg h]
   refine a0t ?_ ?_
   ·cases hvv:v with
    | false=>simp
    | true =>
     have:=hv.1 hvv
     simp only [d5,decide_true,Bool.true_and,Bool.and_true,a3b,decide_eq_false_iff_not]
     by_cases q1:(nd c x.K).View.Leader=x.K
     ·by_cases q2:(nd c x.K).View.Epoch=c.Truth.Epoch
      ·exact .inr (fun q3=>h ⟨⟨q1,q2⟩,this,q3⟩)
      ·exact .inl (.inr q2)
     ·exact .inl (.inl q1)
   ·simp only [d5,a21,decide_false,decide_true,a2j,a0w,if_false,a0x]
    exact a0o
 refine a0t (by simp [d5]) ?_
 by_cases d6:x.Kind=6
 ·skip
  have hin:x.To=x.K→((nd c x.K).View.Leader=x.K∧(nd c x.K).View.Epoch=c.Truth.Epoch)→x.To∈c.Truth.InStep:=by
   intro q1 ⟨q2,q3⟩
   have h1:=(hg.2.2.2 _ _ a.get').1.2.2.1
   have h2:(nd c x.K).View.Leader=c.Truth.Leader:=Classical.byContradiction fun q=>h1 ⟨q3,q⟩
   rw [q1,← q2,h2]
   exact hg.2.1.2.2
  by_cases h1:((nd c x.K).View.Leader=x.K∧(nd c x.K).View.Epoch=c.Truth.Epoch)∧¬ x.To∈c.Truth.InStep
  case neg =>
   rw [show cdo c x=none by rw [qkg d6,if_neg (fun q=>h1 ⟨q.1,q.2.1⟩)]]
   refine a0n (a:=false) (a0t ?_ a0o) ?_
   ·cases hvv:v with
    | true=>simp
    | false =>
     have hni:¬ x.To∈c.Truth.InStep:=fun q=>by rw [hv.2 q] at hvv; cases hvv
     simp only [d6,decide_true,Bool.true_and,Bool.not_false,Bool.and_true,a3b,decide_eq_false_iff_not]
     by_cases q1:(nd c x.K).View.Leader=x.K
     ·by_cases q2:(nd c x.K).View.Epoch=c.Truth.Epoch
      ·exact absurd ⟨⟨q1,q2⟩,hni⟩ h1
      ·exact .inl (.inr q2)
     ·exact .inl (.inl q1)
   ·simp only [d6,a21,decide_false,decide_true,a2j,a0w,if_false,a0x]
    exact a0o
  have hne:x.To≠x.K:=fun q=>h1.2 (hin q h1.1)
  have hvf:=bF hv h1.2
  refine a0n (a:=decide ((nd c x.K).Told≤kn (nd c x.K) x.To)) (a00 (by simp [d6,h1.1,hne,hvf]) (a0q hkt a0o)) ?_
  by_cases h2:(nd c x.K).Told≤kn (nd c x.K) x.To
  case neg =>
   rw [show cdo c x=none by rw [qkg d6,if_neg (fun q=>h2 q.2.2.1)]]
   refine a0t (by simpa using h2) ?_
   simp only [d6,a21,decide_false,decide_true,a2j,a0w,if_false,a0x]
   exact a0o
  refine a00 (by simpa using h2) (a0q hkt (a0n (q97 al) ?_))
  by_cases h3:(qd5 (nd c x.K) : Int)≤kn (nd c x.K) x.To
  ·rw [show cdo c x=some _ by rw [qkg d6,if_pos ⟨h1.1,h1.2,h2,h3⟩]]
   exact a00 (by simpa using h3) (a0n (qow (b:=true) hg hk (fun _=>h1.2)) a0o)
  ·rw [show cdo c x=none by rw [qkg d6,if_neg (fun q=>h3 q.2.2.2)]]
   refine a0t (by simpa using h3) ?_
   simp only [d6,a21,decide_false,decide_true,a2j,a0w,if_false,a0x]
   exact a0o
 refine a0n (a:=false) (a0t (by simp [d6]) a0o) (a0t rfl ?_)
 by_cases d7:x.Kind=7∧(nd c x.K).View.Leader=x.K
 ·exact a00 (by simpa using d7) (a0n (zae hg hk d7.1 d7.2) a0o)
 ·have:cdo c x=none:=by
   by_cases q:x.Kind=7
   ·rw [qkl q,if_neg (fun w=>d7 ⟨q,w.1⟩)]
   ·exact qru (by omega)
  rw [this]
  exact a0t (bF (by simp) d7) a0o
theorem qvh {c:Cluster}{x:ClusterStep}(h:¬ qak c x) : Ev (fun k=>uu k c x) (c,false):=by
 unfold uu
 exact a00 (qra.2 h) a0o
end Go.Proofs.Ytohofoampalhoaa.X
