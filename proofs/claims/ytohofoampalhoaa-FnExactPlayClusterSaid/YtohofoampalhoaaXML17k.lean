/- The cluster: a step, whole. -/
import Derived.Test.YtohofoampalhoaaXML17j
open Go.Proofs.Ytohofoampalhoaa.X.Ev renaming bind→a0n,iteF→a0t,iteT→a00,rfl→a0o
open Go.IntKind renaming wrap→a0a
open List renaming length_filter_le→a2r,length→t6,mem_of_getElem?→a09
set_option linter.unusedVariables false
set_option linter.unusedSimpArgs false
namespace Go.Proofs.Ytohofoampalhoaa.X
open Go

def qm5 (x:Node) : Prop:=x.View.InStep.length≤10∧x.Log.length≤40∧x.Known.length≤10
theorem qer {c:Cluster}(h1:c.Truth.InStep.length≤10)(h2:c.Nodes.length≤4)(h3:c.Acked.length≤40)(h4:∀ x∈c.Nodes,qm5 x) : c.nn≤1048576:=by
 have e:c.nn=c.Truth.nn+(nnL Node.nn c.Nodes+(c.Acked.length+0)):=rfl
 have e1:c.Truth.nn=c.Truth.InStep.length+0:=rfl
 have e2:nnL Node.nn c.Nodes=c.Nodes.length+ja Node.nn c.Nodes:=rfl
 have e3:ja Node.nn c.Nodes≤c.Nodes.length*60:=qyj (fun x hx=>by
  obtain ⟨a,b,d⟩:=h4 x hx
  have f:x.nn=x.View.nn+(x.Log.length+(x.Known.length+0)):=rfl
  have g:x.View.nn=x.View.InStep.length+0:=rfl
  omega)
 have e4:c.Nodes.length*60≤4*60:=Nat.mul_le_mul_right _ h2
 omega
theorem qm1 {c:Cluster}(hg:qa9 c) : ∀ x∈c.Nodes,qm5 x:=by
 intro x hx
 obtain ⟨i,hi⟩:=List.getElem?_of_mem hx
 obtain ⟨⟨⟨_,a1,_⟩,_,_,a4,a5,_⟩,_⟩:=hg.2.2.2 i x hi
 have:=qcf a1
 have:=hg.1
 exact ⟨by omega,by have:=a4.2; omega,by omega⟩
theorem qq5 {α:Type}{l:List α}{i:Nat}{a b:α}(h:b∈l.set i a) : b=a∨b∈l:=by
 rcases List.mem_or_eq_of_mem_set h with h | h
 ·exact .inr h
 ·exact .inl h
theorem qyb {l:List Int}{v:Int} : (qcj l v).length≤l.length+l.length+1:=by
 unfold qcj
 have h1:=a2r (fun z=>decide (z<v)) l
 have h2:=a2r (fun z=>decide (v≤z)) l
 simp only [List.length_append,List.length_cons]
 omega
theorem zat {c c':Cluster}{x:ClusterStep}(hg:qa9 c)(hk:rng c.Nodes.length x.K)(ht:rng c.Nodes.length x.To)(h:cdo c x=some c') : c'.nn≤1048576:=by
 have a:=hg.fit hk
 have b:=hg.fit ht
 have hs:=qm1 hg
 have ha:=hs _ (a09 a.get')
 have hb:=hs _ (a09 b.get')
 have al:=a.log
 have bl:=b.log
 have hml:=qcf hg.2.1.2.1
 have hn:=hg.1
 have hacl:=hg.2.2.1.2
 have hset:∀ y,qm5 y→∀ z∈uv c x.K y,qm5 z:=fun y hy z hz=>by
  rcases qq5 hz with rfl | hz
  ·exact hy
  ·exact hs z hz
 have hsl:∀ y,(uv c x.K y).length≤4:=fun y=>by unfold uv; simp; omega
 by_cases d1:x.Kind=1
 ·rw [qsk d1] at h
  split at h
  ·cases h
   exact qer (by dsimp only; omega) hn.2 (by dsimp only; omega) hs
  ·cases h
 by_cases d2:x.Kind=2
 ·rw [qxy d2] at h
  split at h
  ·cases h
  ·cases h
   refine qer (by dsimp only; omega) (hsl _) (by dsimp only; omega) (hset _ ?_)
   unfold qhn
   split
   ·exact ⟨by dsimp only; omega,ha.2.1,ha.2.2⟩
   ·exact ⟨by dsimp only; omega,ha.2.1,by dsimp only; split <;> simp <;> omega⟩
 by_cases d3:x.Kind=3
 ·rw [qys d3] at h
  split at h
  ·cases h
   refine qer (by dsimp only; omega) (hsl _) (by dsimp only; omega) (hset _ ⟨ha.1,?_,?_⟩)
   ·unfold qfr; simp; omega
   ·unfold qfr; simp; exact ha.2.2
  ·cases h
 by_cases d4:x.Kind=4
 ·rw [qls d4] at h
  split at h
  ·cases h
   refine qer (by dsimp only; omega) (by simpa using hsl _) (by dsimp only; omega) (fun z hz=>?_)
   have hfl:(qf9 x.N (nd c x.K) (nd c x.To)).length≤30:=by unfold qf9; simp; omega
   rcases qq5 hz with rfl | hz
   ·exact ⟨hb.1,hb.2.1,by unfold qdj; simp; exact hb.2.2⟩
   ·exact hset (qd4 x.N (nd c x.K) (nd c x.To)) ⟨ha.1,by unfold qd4; dsimp only; omega,ha.2.2⟩ z hz
  ·cases h
 have hc:∀ l:List Int,l.length≤10→(qi7 c x.K l).nn≤1048576:=fun l hl=>by
  refine qer hl (hsl _) (by unfold qi7; dsimp only; omega) (hset _ ?_)
  exact ⟨hl,ha.2.1,ha.2.2⟩
 by_cases d5:x.Kind=5
 ·rw [qot d5] at h
  split at h
  ·cases h
   have:=a2r (fun z=>decide (z≠x.To)) c.Truth.InStep
   exact hc _ (by omega)
  ·cases h
 by_cases d6:x.Kind=6
 ·rw [qkg d6] at h
  split at h
  ·cases h
   have:=qyb (l:=c.Truth.InStep) (v:=x.To)
   exact hc _ (by omega)
  ·cases h
 by_cases d7:x.Kind=7
 ·rw [qkl d7] at h
  split at h
  ·cases h
   refine qer (by dsimp only; omega) (hsl _) ?_ (hset _ ha)
   dsimp only
   split
   ·simp; omega
   ·omega
  ·cases h
 ·rw [qru (by omega)] at h
  cases h
theorem qa9.nn {c:Cluster}(h:qa9 c) : c.nn≤1048576:=by
 have hml:=qcf h.2.1.2.1
 have hn:=h.1
 have:=h.2.2.1.2
 exact qer (by omega) hn.2 (by omega) (qm1 h)
theorem qkp {c:Cluster}{x:ClusterStep}(hn:c.Nodes.length≤4) : ((((!(zw x.K 0 (a0a .i64 ((t6 c.Nodes:Int) - 1))))||(!(zw x.To 0 (a0a .i64 ((t6 c.Nodes:Int) - 1)))))||((!(((decide (x.Kind=4))||(decide
  (x.Kind=5)))||(decide (x.Kind=6))))&&(decide (x.To≠0))))||(((decide (x.Kind≠3))&&(decide (x.Kind≠4)))&&(decide (x.N≠0))))=true↔¬ qak c x:=by
 rw [qc5 (n:=(t6 c.Nodes:Int) - 1) (by omega) (by omega)]
 unfold qak rng zw
 simp
 omega
theorem qye {c:Cluster}{x:ClusterStep}(hg:qa9 c) : (∃ c',qak c x∧cdo c x=some c'∧qa9 c'∧Ev (fun k=>wq k c x) (c',true))∨((∀ c',qak c x→cdo c x=some c'→¬ qa9 c')∧Ev (fun k=>wq k c x) (qm4,false)):=by
 unfold wq
 by_cases h:qak c x
 case neg=>exact .inr ⟨fun c' q=>absurd q h,a00 ((qkp hg.1.2).2 h) a0o⟩
 have hd:=zb5 hg h.1 h.2.1
 cases hc:cdo c x with
 | none =>
  rw [hc] at hd
  exact .inr ⟨fun c' _ q=>(by cases q),a0t (bF (qkp hg.1.2) (fun q=>q h)) (a0n (qo8 hg.nn) (a0n hd (a0n (a:=true) (a00 rfl a0o) (a00 rfl a0o))))⟩
 | some c' =>
  rw [hc] at hd
  obtain ⟨b,e⟩:=qo3 (zat hg h.1 h.2.1 hc)
  obtain ⟨e,hb⟩:=e
  by_cases hg':qa9 c'
  ·rw [hb.2 hg'] at e
   exact .inl ⟨c',h,rfl,hg',a0t (bF (qkp hg.1.2) (fun q=>q h)) (a0n (qo8 hg.nn) (a0n hd (a0n (a:=false) (a0t rfl (a0n e a0o)) (a0t rfl a0o))))⟩
  ·rw [bF hb hg'] at e
   exact .inr ⟨fun c2 _ q=>by cases q; exact hg',a0t (bF (qkp hg.1.2) (fun q=>q h)) (a0n (qo8 hg.nn) (a0n hd (a0n (a:=true) (a0t rfl (a0n e a0o)) (a00 rfl a0o))))⟩
theorem zah {c c':Cluster}{x:ClusterStep}(h:cdo c x=some c')(hg:qa9 c') : cst c x=some c':=by
 unfold cst
 rw [if_neg,h]
 rintro ⟨h1,h2⟩
 rw [qsk h1] at h
 split at h
 ·cases h
  have:=hg.2.1.1.2
  dsimp only at this
  omega
 ·cases h
theorem qrk {c c':Cluster}{x:ClusterStep}(h:cst c x=some c') : cdo c x=some c':=by
 unfold cst at h
 split at h
 ·cases h
 ·exact h
end Go.Proofs.Ytohofoampalhoaa.X
