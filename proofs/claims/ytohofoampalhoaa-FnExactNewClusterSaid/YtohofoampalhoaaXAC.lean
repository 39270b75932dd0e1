/- The law's own walk, from its core: one answer. -/
import Derived.Test.YtohofoampalhoaaXAL17n
import Derived.Test.YtohofoampalhoaaXAK
import Derived.Test.YtohofoampalhoaaXAW
set_option linter.unusedVariables false
set_option linter.unusedSimpArgs false
namespace Go.Proofs.Ytohofoampalhoaa.X
open Go
theorem NewCluster_pure (aNodes_0 : Int) (w0 : inI aNodes_0) : ∃ k, laws_FnExactNewCluster k aNodes_0 = some true := by
  suffices h : Ev (fun k => laws_FnExactNewCluster k aNodes_0) true by
    obtain ⟨K, h⟩ := h
    exact ⟨K, h K (Nat.le_refl _)⟩
  unfold laws_FnExactNewCluster
  obtain ⟨⟨r0, r1⟩, hs, hi, s0⟩ := NewCluster_core aNodes_0 w0
  dsimp only at s0
  refine Ev.bind hs ?_
  refine Ev.bind hi ?_
  refine Ev.bind (eqCluster_ev (by omega)) ?_
  refine Ev.iteF (by first | (simp; done) | (simp only [decide_eq_false_iff_not]; omega) | (simp; omega)) ?_
  have e0 : Cluster.en r0 (1) ≤ 1 + 100 * r0.nn := Cluster.en_le (by omega)
  refine Ev.bind (markCluster_ev (x := r0) (n := 1) (by omega) (by omega)) ?_
  refine Ev.bind (heldCluster_ev (x := r0) (n := 1) (by omega) (by omega)) ?_
  refine Ev.iteF (by first | (simp; done) | (simp only [decide_eq_false_iff_not]; omega) | (simp; omega)) ?_
  refine Ev.iteF (by first | (simp; done) | (simp only [decide_eq_false_iff_not]; omega) | (simp; omega)) ?_
  refine Ev.bind hi ?_
  refine Ev.bind (eqCluster_ev (by omega)) ?_
  refine Ev.iteF (by first | (simp; done) | (simp only [decide_eq_false_iff_not]; omega) | (simp; omega)) ?_
  refine Ev.bind (heldCluster_ev (x := r0) (n := 1) (by omega) (by omega)) ?_
  refine Ev.iteF (by first | (simp; done) | (simp only [decide_eq_false_iff_not]; omega) | (simp; omega)) ?_
  refine Ev.iteF (by first | (simp; done) | (simp only [decide_eq_false_iff_not]; omega) | (simp; omega)) ?_
  exact Ev.rfl
end Go.Proofs.Ytohofoampalhoaa.X
