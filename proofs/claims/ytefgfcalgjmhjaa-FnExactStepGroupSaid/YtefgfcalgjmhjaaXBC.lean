/- The law's own walk, from its core: one answer. -/
import Derived.Test.YtefgfcalgjmhjaaXBL11e
import Derived.Test.YtefgfcalgjmhjaaXBK
import Derived.Test.YtefgfcalgjmhjaaXBW
set_option linter.unusedVariables false
set_option linter.unusedSimpArgs false
namespace Go.Proofs.Ytefgfcalgjmhjaa.X
open Go
theorem StepGroup_pure (v_0 : Group) (w0 : Group.wf v_0) (v_1 : IsrStep) (w1 : IsrStep.wf v_1) : ∃ k, laws_FnExactStepGroup k v_0 v_1 = some true := by
  suffices h : Ev (fun k => laws_FnExactStepGroup k v_0 v_1) true by
    obtain ⟨K, h⟩ := h
    exact ⟨K, h K (Nat.le_refl _)⟩
  unfold laws_FnExactStepGroup
  refine szr_law (szGroup_ev w0 (by omega) (by omega)) (fun c0 d0 => ?_) (by omega)
  obtain ⟨⟨r0, r1⟩, hs, hi, s0⟩ := StepGroup_core v_0 v_1 w0 w1 (by omega)
  dsimp only at s0
  refine Ev.bind (toGroup_ev (by omega)) ?_
  refine Ev.bind hs ?_
  refine Ev.bind (toGroup_ev (by omega)) ?_
  refine Ev.bind hi ?_
  refine Ev.bind (eqGroup_ev (by omega)) ?_
  refine Ev.iteF (by first | (simp; done) | (simp only [decide_eq_false_iff_not]; omega) | (simp; omega)) ?_
  refine Ev.bind (toGroup_ev (by omega)) ?_
  refine Ev.bind (eqGroup_ev (by omega)) ?_
  refine Ev.iteF (by first | (simp; done) | (simp only [decide_eq_false_iff_not]; omega) | (simp; omega)) ?_
  have e0 : Group.en v_0 (1) ≤ 1 + 100 * v_0.nn := Group.en_le (by omega)
  refine Ev.bind (markGroup_ev (x := v_0) (n := 1) (by omega) (by omega)) ?_
  refine Ev.bind (a := false) (Ev.iteF (by first | (simp; done) | (simp only [decide_eq_false_iff_not]; omega) | (simp; omega)) ?_) ?_
  · skip
    refine Ev.bind (eqGroup_ev (by omega)) ?_
    exact Ev.of (by simp)
  refine Ev.iteF (by first | (simp; done) | (simp only [decide_eq_false_iff_not]; omega) | (simp; omega)) ?_
  have e1 : Group.en r0 (1) ≤ 1 + 100 * r0.nn := Group.en_le (by omega)
  refine Ev.bind (markGroup_ev (x := r0) (n := 1) (by omega) (by omega)) ?_
  refine Ev.bind (heldGroup_ev (x := r0) (n := 1) (by omega) (by omega)) ?_
  refine Ev.iteF (by first | (simp; done) | (simp only [decide_eq_false_iff_not]; omega) | (simp; omega)) ?_
  refine Ev.iteF (by first | (simp; done) | (simp only [decide_eq_false_iff_not]; omega) | (simp; omega)) ?_
  refine Ev.bind (toGroup_ev (by omega)) ?_
  refine Ev.bind hi ?_
  refine Ev.bind (eqGroup_ev (by omega)) ?_
  refine Ev.iteF (by first | (simp; done) | (simp only [decide_eq_false_iff_not]; omega) | (simp; omega)) ?_
  refine Ev.bind (heldGroup_ev (x := r0) (n := 1) (by omega) (by omega)) ?_
  refine Ev.iteF (by first | (simp; done) | (simp only [decide_eq_false_iff_not]; omega) | (simp; omega)) ?_
  refine Ev.iteF (by first | (simp; done) | (simp only [decide_eq_false_iff_not]; omega) | (simp; omega)) ?_
  exact Ev.rfl
end Go.Proofs.Ytefgfcalgjmhjaa.X
