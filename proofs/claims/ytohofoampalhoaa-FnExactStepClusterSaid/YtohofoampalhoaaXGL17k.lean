/- The cluster: a step, whole. -/
import Derived.Test.YtohofoampalhoaaXGL17j
open Go.Proofs.Ytohofoampalhoaa.X.Ev renaming bind→n8,iteF→r5,iteT→t6,rfl→o6
open Go.IntKind renaming wrap→l4
open List renaming length_filter_le→a1r,length→f0,mem_of_getElem?→v8
set_option linter.unusedVariables false
set_option linter.unusedSimpArgs false
namespace Go.Proofs.Ytohofoampalhoaa.X
open Go

def qll (x:Node) : Prop:=x.View.InStep.length≤10∧x.Log.length≤40∧x.Known.length≤10
theorem qec {c:Cluster}(h1:c.Truth.InStep.length≤10)(h2:c.Nodes.length≤4)(h3:c.Acked.length≤40)(h4:∀ x∈c.Nodes,qll x) : c.nn≤1048576:=by
 have e:c.nn=c.Truth.nn+(nnL Node.nn c.Nodes+(c.Acked.length+0)):=rfl
 have e1:c.Truth.nn=c.Truth.InStep.length+0:=rfl
 have e2:nnL Node.nn c.Nodes=c.Nodes.length+jf Node.nn c.Nodes:=rfl
 have e3:jf Node.nn c.Nodes≤c.Nodes.length*60:=qxy (fun x hx=>by
  obtain ⟨a,b,d⟩:=h4 x hx
  have f:x.nn=x.View.nn+(x.Log.length+(x.Known.length+0)):=rfl
  have g:x.View.nn=x.View.InStep.length+0:=rfl
  omega)
 have e4:c.Nodes.length*60≤4*60:=Nat.mul_le_mul_right _ h2
 omega
theorem qln {c:Cluster}(hg:qam c) : ∀ x∈c.Nodes,qll x:=by
 intro x hx
 obtain ⟨i,hi⟩:=List.getElem?_of_mem hx
 obtain ⟨⟨⟨_,a1,_⟩,_,_,a4,a5,_⟩,_⟩:=hg.2.2.2 i x hi
 have:=qbz a1
 have:=hg.1
 exact ⟨by omega,by have:=a4.2; omega,by omega⟩
theorem qrd {α:Type}{l:List α}{i:Nat}{a b:α}(h:b∈l.set i a) : b=a∨b∈l:=by
 rcases List.mem_or_eq_of_mem_set h with h | h
 ·exact .inr h
 ·exact .inl h
theorem qx8 {l:List Int}{v:Int} : (qf1 l v).length≤l.length+l.length+1:=by
 unfold qf1
 have h1:=a1r (fun z=>decide (z<v)) l
 have h2:=a1r (fun z=>decide (v≤z)) l
 simp only [List.length_append,List.length_cons]
 omega
theorem que {c c':Cluster}{x:ClusterStep}(hg:qam c)(hk:rng c.Nodes.length x.K)(ht:rng c.Nodes.length x.To)(h:cdo c x=some c') : c'.nn≤1048576:=by
 have a:=hg.fit hk
 have b:=hg.fit ht
 have hs:=qln hg
 have ha:=hs _ (v8 a.get')
 have hb:=hs _ (v8 b.get')
 have al:=a.log
 have bl:=b.log
 have hml:=qbz hg.2.1.2.1
 have hn:=hg.1
 have hacl:=hg.2.2.1.2
 have hset:∀ y,qll y→∀ z∈qdg c x.K y,qll z:=fun y hy z hz=>by
  rcases qrd hz with rfl | hz
  ·exact hy
  ·exact hs z hz
 have hsl:∀ y,(qdg c x.K y).length≤4:=fun y=>by unfold qdg; simp; omega
 by_cases d1:x.Kind=1
 ·rw [qxz d1] at h
  split at h
  ·cases h
   exact qec (by dsimp only; omega) hn.2 (by dsimp only; omega) hs
  ·cases h
 by_cases d2:x.Kind=2
 ·rw [zak d2] at h
  split at h
  ·cases h
  ·cases h
   refine qec (by dsimp only; omega) (hsl _) (by dsimp only; omega) (hset _ ?_)
   unfold qic
   split
   ·exact ⟨by dsimp only; omega,ha.2.1,ha.2.2⟩
   ·exact ⟨by dsimp only; omega,ha.2.1,by dsimp only; split <;> simp <;> omega⟩
 by_cases d3:x.Kind=3
 ·rw [zan d3] at h
  split at h
  ·cases h
   refine qec (by dsimp only; omega) (hsl _) (by dsimp only; omega) (hset _ ⟨ha.1,?_,?_⟩)
   ·unfold qkk; simp; omega
   ·unfold qkk; simp; exact ha.2.2
  ·cases h
 by_cases d4:x.Kind=4
 ·rw [qm7 d4] at h
  split at h
  ·cases h
   refine qec (by dsimp only; omega) (by simpa using hsl _) (by dsimp only; omega) (fun z hz=>?_)
   have hfl:(qij x.N (nd c x.K) (nd c x.To)).length≤30:=by unfold qij; simp; omega
   rcases qrd hz with rfl | hz
   ·exact ⟨hb.1,hb.2.1,by unfold qj8; simp; exact hb.2.2⟩
   ·exact hset (qib x.N (nd c x.K) (nd c x.To)) ⟨ha.1,by unfold qib; dsimp only; omega,ha.2.2⟩ z hz
  ·cases h
 have hc:∀ l:List Int,l.length≤10→(qir c x.K l).nn≤1048576:=fun l hl=>by
  refine qec hl (hsl _) (by unfold qir; dsimp only; omega) (hset _ ?_)
  exact ⟨hl,ha.2.1,ha.2.2⟩
 by_cases d5:x.Kind=5
 ·rw [qsk d5] at h
  split at h
  ·cases h
   have:=a1r (fun z=>decide (z≠x.To)) c.Truth.InStep
   exact hc _ (by omega)
  ·cases h
 by_cases d6:x.Kind=6
 ·rw [qli d6] at h
  split at h
  ·cases h
   have:=qx8 (l:=c.Truth.InStep) (v:=x.To)
   exact hc _ (by omega)
  ·cases h
 by_cases d7:x.Kind=7
 ·rw [qlb d7] at h
  split at h
  ·cases h
   refine qec (by dsimp only; omega) (hsl _) ?_ (hset _ ha)
   dsimp only
   split
   ·simp; omega
   ·omega
  ·cases h
 ·rw [qx4 (by omega)] at h
  cases h
theorem qam.nn {c:Cluster}(h:qam c) : c.nn≤1048576:=by
 have hml:=qbz h.2.1.2.1
 have hn:=h.1
 have:=h.2.2.1.2
 exact qec (by omega) hn.2 (by omega) (qln h)
theorem qkg {c:Cluster}{x:ClusterStep}(hn:c.Nodes.length≤4) : ((((!(jc x.K 0 (l4 .i64 ((f0 c.Nodes:Int) - 1))))||(!(jc x.To 0 (l4 .i64 ((f0 c.Nodes:Int) - 1)))))||((!(((decide (x.Kind=4))||(decide
  (x.Kind=5)))||(decide (x.Kind=6))))&&(decide (x.To≠0))))||(((decide (x.Kind≠3))&&(decide (x.Kind≠4)))&&(decide (x.N≠0))))=true↔¬ qco c x:=by
 rw [qbt (n:=(f0 c.Nodes:Int) - 1) (by omega) (by omega)]
 unfold qco rng jc
 simp
 omega
theorem qyc {c:Cluster}{x:ClusterStep}(hg:qam c) : (∃ c',qco c x∧cdo c x=some c'∧qam c'∧Ev (fun k=>xe k c x) (c',true))∨((∀ c',qco c x→cdo c x=some c'→¬ qam c')∧Ev (fun k=>xe k c x) (q0t,false)):=by
 unfold xe
 by_cases h:qco c x
 case neg=>exact .inr ⟨fun c' q=>absurd q h,t6 ((qkg hg.1.2).2 h) o6⟩
 have hd:=zac hg h.1 h.2.1
 cases hc:cdo c x with
 | none =>
  rw [hc] at hd
  exact .inr ⟨fun c' _ q=>(by cases q),r5 (bF (qkg hg.1.2) (fun q=>q h)) (n8 (qoy hg.nn) (n8 hd (n8 (a:=true) (t6 rfl o6) (t6 rfl o6))))⟩
 | some c' =>
  rw [hc] at hd
  obtain ⟨b,e⟩:=qjv (que hg h.1 h.2.1 hc)
  obtain ⟨e,hb⟩:=e
  by_cases hg':qam c'
  ·rw [hb.2 hg'] at e
   exact .inl ⟨c',h,rfl,hg',r5 (bF (qkg hg.1.2) (fun q=>q h)) (n8 (qoy hg.nn) (n8 hd (n8 (a:=false) (r5 rfl (n8 e o6)) (r5 rfl o6))))⟩
  ·rw [bF hb hg'] at e
   exact .inr ⟨fun c2 _ q=>by cases q; exact hg',r5 (bF (qkg hg.1.2) (fun q=>q h)) (n8 (qoy hg.nn) (n8 hd (n8 (a:=true) (r5 rfl (n8 e o6)) (t6 rfl o6))))⟩
theorem zat {c c':Cluster}{x:ClusterStep}(h:cdo c x=some c')(hg:qam c') : cst c x=some c':=by
 unfold cst
 rw [if_neg,h]
 rintro ⟨h1,h2⟩
 rw [qxz h1] at h
 split at h
 ·cases h
  have:=hg.2.1.1.2
  dsimp only at this
  omega
 ·cases h
theorem q8q {c c':Cluster}{x:ClusterStep}(h:cst c x=some c') : cdo c x=some c':=by
 unfold cst at h
 split at h
 ·cases h
 ·exact h
theorem StepCluster_core (v_0:Cluster)(v_1:ClusterStep)(w0:Cluster.wf v_0)(w1:ClusterStep.wf v_1)(b0:v_0.nn≤1048576) : ∃ (r:Cluster × Bool),Ev (fun k=>qao k v_0 v_1) r∧Ev (fun k=>x5 k v_0 v_1) r∧r.1.nn≤1048576:=by
 obtain ⟨b,eb,hb⟩:=qgy b0
 obtain ⟨d,ed,hd⟩:=qjv b0
 unfold qao x5
 by_cases hg:qam v_0
 case neg =>
  rw [bF hb hg] at eb
  rw [bF hd hg] at ed
  exact ⟨_,n8 eb (t6 rfl o6),n8 ed (t6 rfl o6),by decide⟩
 rw [hb.2 hg] at eb
 rw [hd.2 hg] at ed
 rcases qyc (x:=v_1) hg with ⟨c',h1,h2,h3,e⟩ | ⟨h1,e⟩
 ·refine ⟨(c',true),?_,n8 ed (r5 rfl (n8 e o6)),h3.nn⟩
  have hs:=qo6 hg h1
  rw [zat h2 h3] at hs
  obtain ⟨q,eq,hq⟩:=qgy h3.nn
  rw [hq.2 h3] at eq
  exact n8 eb (r5 rfl (n8 (qro b0) (n8 hs (n8 (a:=false) (r5 rfl (n8 eq o6)) (r5 rfl (n8 (qro h3.nn) o6))))))
 ·refine ⟨(q0t,false),?_,n8 ed (r5 rfl (n8 e o6)),by decide⟩
  refine n8 eb (r5 rfl (n8 (qro b0) ?_))
  by_cases hgd:qco v_0 v_1
  case neg=>exact n8 (quh hgd) (n8 (a:=true) (t6 rfl o6) (t6 rfl o6))
  have hs:=qo6 hg hgd
  cases hc:cst v_0 v_1 with
  | none =>
   rw [hc] at hs
   exact n8 hs (n8 (a:=true) (t6 rfl o6) (t6 rfl o6))
  | some c' =>
   rw [hc] at hs
   have hcd:=q8q hc
   have hng:=h1 c' hgd hcd
   obtain ⟨q,eq,hq⟩:=qgy (que hg hgd.1 hgd.2.1 hcd)
   rw [bF hq hng] at eq
   exact n8 hs (n8 (a:=true) (r5 rfl (n8 eq o6)) (t6 rfl o6))
end Go.Proofs.Ytohofoampalhoaa.X
