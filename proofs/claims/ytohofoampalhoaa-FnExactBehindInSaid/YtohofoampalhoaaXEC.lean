/- The law's own walk, from its core: one answer. -/
import Derived.Test.YtohofoampalhoaaXEL17e
import Derived.Test.YtohofoampalhoaaXEK
import Derived.Test.YtohofoampalhoaaXEW
set_option linter.unusedVariables false
set_option linter.unusedSimpArgs false
namespace Go.Proofs.Ytohofoampalhoaa.X
open Go
theorem BehindIn_pure (v_0 : Cluster) (w0 : Cluster.wf v_0) : ∃ k, laws_FnExactBehindIn k v_0 = some true := by
  suffices h : Ev (fun k => laws_FnExactBehindIn k v_0) true by
    obtain ⟨K, h⟩ := h
    exact ⟨K, h K (Nat.le_refl _)⟩
  unfold laws_FnExactBehindIn
  refine szr_law (szCluster_ev w0 (by omega) (by omega)) (fun c0 d0 => ?_) (by omega)
  obtain ⟨⟨r0, r1⟩, hs, hi, s0⟩ := BehindIn_core v_0 w0 (by omega)
  dsimp only at s0
  refine Ev.bind (toCluster_ev (by omega)) ?_
  refine Ev.bind hs ?_
  refine Ev.bind (toCluster_ev (by omega)) ?_
  refine Ev.bind hi ?_
  refine Ev.bind (eqIntS_ev (by omega)) ?_
  refine Ev.iteF (by first | (simp; done) | (simp only [decide_eq_false_iff_not]; omega) | (simp; omega)) ?_
  refine Ev.bind (toCluster_ev (by omega)) ?_
  refine Ev.bind (eqCluster_ev (by omega)) ?_
  refine Ev.iteF (by first | (simp; done) | (simp only [decide_eq_false_iff_not]; omega) | (simp; omega)) ?_
  have e0 : Cluster.en v_0 (1) ≤ 1 + 100 * v_0.nn := Cluster.en_le (by omega)
  refine Ev.bind (markCluster_ev (x := v_0) (n := 1) (by omega) (by omega)) ?_
  refine Ev.bind (a := false) (Ev.iteF (by first | (simp; done) | (simp only [decide_eq_false_iff_not]; omega) | (simp; omega)) ?_) ?_
  · skip
    refine Ev.bind (eqIntS_ev (by omega)) ?_
    exact Ev.of (by simp)
  refine Ev.iteF (by first | (simp; done) | (simp only [decide_eq_false_iff_not]; omega) | (simp; omega)) ?_
  have e1 : sumN (fun _ => 1) r0 = 1 * r0.length := sumN_const
  refine Ev.bind (markIntS_ev (l := r0) (n := 1) (by omega) (by omega)) ?_
  refine Ev.bind (heldIntS_ev (l := r0) (n := 1) (by omega) (by omega)) ?_
  refine Ev.iteF (by first | (simp; done) | (simp only [decide_eq_false_iff_not]; omega) | (simp; omega)) ?_
  refine Ev.iteF (by first | (simp; done) | (simp only [decide_eq_false_iff_not]; omega) | (simp; omega)) ?_
  refine Ev.bind (toCluster_ev (by omega)) ?_
  refine Ev.bind hi ?_
  refine Ev.bind (eqIntS_ev (by omega)) ?_
  refine Ev.iteF (by first | (simp; done) | (simp only [decide_eq_false_iff_not]; omega) | (simp; omega)) ?_
  refine Ev.bind (heldIntS_ev (l := r0) (n := 1) (by omega) (by omega)) ?_
  refine Ev.iteF (by first | (simp; done) | (simp only [decide_eq_false_iff_not]; omega) | (simp; omega)) ?_
  refine Ev.iteF (by first | (simp; done) | (simp only [decide_eq_false_iff_not]; omega) | (simp; omega)) ?_
  exact Ev.rfl
end Go.Proofs.Ytohofoampalhoaa.X
