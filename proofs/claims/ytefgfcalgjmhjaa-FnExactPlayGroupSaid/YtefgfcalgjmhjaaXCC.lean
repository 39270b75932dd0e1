/- The law's own walk, from its core: one answer. -/
import Derived.Test.YtefgfcalgjmhjaaXCL11f
import Derived.Test.YtefgfcalgjmhjaaXCK
import Derived.Test.YtefgfcalgjmhjaaXCW
set_option linter.unusedVariables false
set_option linter.unusedSimpArgs false
namespace Go.Proofs.Ytefgfcalgjmhjaa.X
open Go
theorem PlayGroup_pure (v_0 : Int) (w0 : inI v_0) (v_1 : List IsrStep) (w1 : (wfL 24 IsrStep.wf) v_1) : ∃ k, laws_FnExactPlayGroup k v_0 v_1 = some true := by
  suffices h : Ev (fun k => laws_FnExactPlayGroup k v_0 v_1) true by
    obtain ⟨K, h⟩ := h
    exact ⟨K, h K (Nat.le_refl _)⟩
  unfold laws_FnExactPlayGroup
  refine szr_law (szIsrStepS_ev (by have := w1.1; omega) (by omega) (by omega)) (fun c0 d0 => ?_) (by omega)
  obtain ⟨⟨r0, r1, r2⟩, hs, hi, s0, s1⟩ := PlayGroup_core v_0 v_1 w0 w1 (by omega)
  dsimp only at s0 s1
  refine Ev.bind (toIsrStepS_ev (by omega)) ?_
  refine Ev.bind hs ?_
  refine Ev.bind (toIsrStepS_ev (by omega)) ?_
  refine Ev.bind hi ?_
  refine Ev.bind (eqGroup_ev (by omega)) ?_
  refine Ev.bind (a := false) (Ev.iteF (by first | (simp; done) | (simp only [decide_eq_false_iff_not]; omega) | (simp; omega)) ?_) ?_
  · skip
    refine Ev.bind (eqBoolS_ev (by omega)) ?_
    exact Ev.of (by simp)
  refine Ev.iteF (by first | (simp; done) | (simp only [decide_eq_false_iff_not]; omega) | (simp; omega)) ?_
  refine Ev.bind (toIsrStepS_ev (by omega)) ?_
  refine Ev.bind (eqIsrStepS_ev (by omega)) ?_
  refine Ev.iteF (by first | (simp; done) | (simp only [decide_eq_false_iff_not]; omega) | (simp; omega)) ?_
  have e0 : sumN IsrStep.mce v_1 = 3 * v_1.length := sumN_const
  refine Ev.bind (markIsrStepS_ev (l := v_1) (n := 1) (by omega) (by omega)) ?_
  refine Ev.bind (a := false) (Ev.iteF (by first | (simp; done) | (simp only [decide_eq_false_iff_not]; omega) | (simp; omega)) ?_) ?_
  · skip
    refine Ev.bind (eqGroup_ev (by omega)) ?_
    exact Ev.of (by simp)
  refine Ev.bind (a := false) (Ev.iteF (by first | (simp; done) | (simp only [decide_eq_false_iff_not]; omega) | (simp; omega)) ?_) ?_
  · skip
    refine Ev.bind (eqBoolS_ev (by omega)) ?_
    exact Ev.of (by simp)
  refine Ev.iteF (by first | (simp; done) | (simp only [decide_eq_false_iff_not]; omega) | (simp; omega)) ?_
  have e1 : Group.en r0 (1) ≤ 1 + 100 * r0.nn := Group.en_le (by omega)
  refine Ev.bind (markGroup_ev (x := r0) (n := 1) (by omega) (by omega)) ?_
  have e2 : sumN (fun _ => 1) r1 = 1 * r1.length := sumN_const
  refine Ev.bind (markBoolS_ev (l := r1) (n := Group.en r0 (1)) (by omega) (by omega)) ?_
  refine Ev.bind (heldGroup_ev (x := r0) (n := 1) (by omega) (by omega)) ?_
  refine Ev.iteF (by first | (simp; done) | (simp only [decide_eq_false_iff_not]; omega) | (simp; omega)) ?_
  refine Ev.bind (heldBoolS_ev (l := r1) (n := Group.en r0 (1)) (by omega) (by omega)) ?_
  refine Ev.iteF (by first | (simp; done) | (simp only [decide_eq_false_iff_not]; omega) | (simp; omega)) ?_
  refine Ev.iteF (by first | (simp; done) | (simp only [decide_eq_false_iff_not]; omega) | (simp; omega)) ?_
  refine Ev.bind (toIsrStepS_ev (by omega)) ?_
  refine Ev.bind hi ?_
  refine Ev.bind (eqGroup_ev (by omega)) ?_
  refine Ev.bind (a := false) (Ev.iteF (by first | (simp; done) | (simp only [decide_eq_false_iff_not]; omega) | (simp; omega)) ?_) ?_
  · skip
    refine Ev.bind (eqBoolS_ev (by omega)) ?_
    exact Ev.of (by simp)
  refine Ev.iteF (by first | (simp; done) | (simp only [decide_eq_false_iff_not]; omega) | (simp; omega)) ?_
  refine Ev.bind (heldGroup_ev (x := r0) (n := 1) (by omega) (by omega)) ?_
  refine Ev.iteF (by first | (simp; done) | (simp only [decide_eq_false_iff_not]; omega) | (simp; omega)) ?_
  refine Ev.bind (heldBoolS_ev (l := r1) (n := Group.en r0 (1)) (by omega) (by omega)) ?_
  refine Ev.iteF (by first | (simp; done) | (simp only [decide_eq_false_iff_not]; omega) | (simp; omega)) ?_
  refine Ev.iteF (by first | (simp; done) | (simp only [decide_eq_false_iff_not]; omega) | (simp; omega)) ?_
  exact Ev.rfl
end Go.Proofs.Ytefgfcalgjmhjaa.X
