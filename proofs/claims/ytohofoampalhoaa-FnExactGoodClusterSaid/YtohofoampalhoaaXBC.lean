/- The law's own walk, from its core: one answer. -/
import Derived.Test.YtohofoampalhoaaXBL17c
import Derived.Test.YtohofoampalhoaaXBK
import Derived.Test.YtohofoampalhoaaXBW
set_option linter.unusedVariables false
set_option linter.unusedSimpArgs false
namespace Go.Proofs.Ytohofoampalhoaa.X
open Go
theorem GoodCluster_pure (aC_0 : Cluster) (w0 : Cluster.wf aC_0) : ∃ k, laws_FnExactGoodCluster k aC_0 = some true := by
  suffices h : Ev (fun k => laws_FnExactGoodCluster k aC_0) true by
    obtain ⟨K, h⟩ := h
    exact ⟨K, h K (Nat.le_refl _)⟩
  unfold laws_FnExactGoodCluster
  refine szr_law (szCluster_ev w0 (by omega) (by omega)) (fun c0 d0 => ?_) (by omega)
  obtain ⟨r0, hs, hi⟩ := GoodCluster_core aC_0 w0 (by omega)
  refine Ev.bind (toCluster_ev (by omega)) ?_
  refine Ev.bind hs ?_
  refine Ev.bind (toCluster_ev (by omega)) ?_
  refine Ev.bind hi ?_
  refine Ev.iteF (by first | (simp; done) | (simp only [decide_eq_false_iff_not]; omega) | (simp; omega)) ?_
  refine Ev.bind (toCluster_ev (by omega)) ?_
  refine Ev.bind (eqCluster_ev (by omega)) ?_
  refine Ev.iteF (by first | (simp; done) | (simp only [decide_eq_false_iff_not]; omega) | (simp; omega)) ?_
  exact Ev.rfl
end Go.Proofs.Ytohofoampalhoaa.X
