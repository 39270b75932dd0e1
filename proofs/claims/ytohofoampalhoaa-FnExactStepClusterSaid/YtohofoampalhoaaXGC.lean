/- The law's own walk, from its core: one answer. -/
import Derived.Test.YtohofoampalhoaaXGL17k
import Derived.Test.YtohofoampalhoaaXGK
import Derived.Test.YtohofoampalhoaaXGW
open Go.Proofs.Ytohofoampalhoaa.X.Ev renaming bind→n8,iteF→r5
set_option linter.unusedVariables false
set_option linter.unusedSimpArgs false
namespace Go.Proofs.Ytohofoampalhoaa.X
open Go
theorem StepCluster_pure (v_0:Cluster)(w0:Cluster.wf v_0)(v_1:ClusterStep)(w1:ClusterStep.wf v_1) : ∃ k,wj k v_0 v_1=some true:=by
 suffices h:Ev (fun k=>wj k v_0 v_1) true by
  obtain ⟨K,h⟩:=h
  exact ⟨K,h K (Nat.le_refl _)⟩
 unfold wj
 refine q8u (qps w0 (by omega) (by omega)) (fun c0 d0=>?_) (by omega)
 obtain ⟨⟨r0,r1⟩,hs,hi,s0⟩:=StepCluster_core v_0 v_1 w0 w1 (by omega)
 dsimp only at s0
 refine n8 (qel (by omega)) ?_
 refine n8 hs ?_
 refine n8 (qel (by omega)) ?_
 refine n8 hi ?_
 refine n8 (qeu (by omega)) ?_
 refine r5 (by first | (simp; done) | (simp only [decide_eq_false_iff_not]; omega) | (simp; omega)) ?_
 refine n8 (qel (by omega)) ?_
 refine n8 (qeu (by omega)) ?_
 refine r5 (by first | (simp; done) | (simp only [decide_eq_false_iff_not]; omega) | (simp; omega)) ?_
 have e0:Cluster.en v_0 (1)≤1+100*v_0.nn:=Cluster.en_le (by omega)
 refine n8 (qik (x:=v_0) (n:=1) (by omega) (by omega)) ?_
 refine n8 (a:=false) (r5 (by first | (simp; done) | (simp only [decide_eq_false_iff_not]; omega) | (simp; omega)) ?_) ?_
 ·skip
  refine n8 (qeu (by omega)) ?_
  exact Ev.of (by simp)
 refine r5 (by first | (simp; done) | (simp only [decide_eq_false_iff_not]; omega) | (simp; omega)) ?_
 have e1:Cluster.en r0 (1)≤1+100*r0.nn:=Cluster.en_le (by omega)
 refine n8 (qik (x:=r0) (n:=1) (by omega) (by omega)) ?_
 refine n8 (qh1 (x:=r0) (n:=1) (by omega) (by omega)) ?_
 refine r5 (by first | (simp; done) | (simp only [decide_eq_false_iff_not]; omega) | (simp; omega)) ?_
 refine r5 (by first | (simp; done) | (simp only [decide_eq_false_iff_not]; omega) | (simp; omega)) ?_
 refine n8 (qel (by omega)) ?_
 refine n8 hi ?_
 refine n8 (qeu (by omega)) ?_
 refine r5 (by first | (simp; done) | (simp only [decide_eq_false_iff_not]; omega) | (simp; omega)) ?_
 refine n8 (qh1 (x:=r0) (n:=1) (by omega) (by omega)) ?_
 refine r5 (by first | (simp; done) | (simp only [decide_eq_false_iff_not]; omega) | (simp; omega)) ?_
 refine r5 (by first | (simp; done) | (simp only [decide_eq_false_iff_not]; omega) | (simp; omega)) ?_
 exact Ev.rfl
end Go.Proofs.Ytohofoampalhoaa.X
