/- The law's own walk, from its core: one answer. -/
import Derived.Test.YtpkiieniipenjaaXAL8e
import Derived.Test.YtpkiieniipenjaaXAK
import Derived.Test.YtpkiieniipenjaaXAW
set_option linter.unusedVariables false
set_option linter.unusedSimpArgs false
namespace Go.Proofs.Ytpkiieniipenjaa.X
open Go
theorem PlaySnap_pure (v_0 : Int) (w0 : inI v_0) (v_1 : Int) (w1 : inI v_1) (v_2 : List SnapStep) (w2 : (wfL 24 SnapStep.wf) v_2) : ∃ k, laws_FnExactPlaySnap k v_0 v_1 v_2 = some true := by
  suffices h : Ev (fun k => laws_FnExactPlaySnap k v_0 v_1 v_2) true by
    obtain ⟨K, h⟩ := h
    exact ⟨K, h K (Nat.le_refl _)⟩
  unfold laws_FnExactPlaySnap
  refine szr_law (szSnapStepS_ev (by have := w2.1; omega) (by omega) (by omega)) (fun c0 d0 => ?_) (by omega)
  obtain ⟨⟨r0, r1, r2⟩, hs, hi, s0, s1⟩ := PlaySnap_core v_0 v_1 v_2 w0 w1 w2 (by omega)
  dsimp only at s0 s1
  refine Ev.bind (toSnapStepS_ev (by omega)) ?_
  refine Ev.bind hs ?_
  refine Ev.bind (toSnapStepS_ev (by omega)) ?_
  refine Ev.bind hi ?_
  refine Ev.bind (eqSnap_ev (by omega)) ?_
  refine Ev.bind (a := false) (Ev.iteF (by first | (simp; done) | (simp only [decide_eq_false_iff_not]; omega) | (simp; omega)) ?_) ?_
  · skip
    refine Ev.bind (eqBoolS_ev (by omega)) ?_
    exact Ev.of (by simp)
  refine Ev.iteF (by first | (simp; done) | (simp only [decide_eq_false_iff_not]; omega) | (simp; omega)) ?_
  refine Ev.bind (toSnapStepS_ev (by omega)) ?_
  refine Ev.bind (eqSnapStepS_ev (by omega)) ?_
  refine Ev.iteF (by first | (simp; done) | (simp only [decide_eq_false_iff_not]; omega) | (simp; omega)) ?_
  have e0 : sumN SnapStep.mce v_2 = 3 * v_2.length := sumN_const
  refine Ev.bind (markSnapStepS_ev (l := v_2) (n := 1) (by omega) (by omega)) ?_
  refine Ev.bind (a := false) (Ev.iteF (by first | (simp; done) | (simp only [decide_eq_false_iff_not]; omega) | (simp; omega)) ?_) ?_
  · skip
    refine Ev.bind (eqSnap_ev (by omega)) ?_
    exact Ev.of (by simp)
  refine Ev.bind (a := false) (Ev.iteF (by first | (simp; done) | (simp only [decide_eq_false_iff_not]; omega) | (simp; omega)) ?_) ?_
  · skip
    refine Ev.bind (eqBoolS_ev (by omega)) ?_
    exact Ev.of (by simp)
  refine Ev.iteF (by first | (simp; done) | (simp only [decide_eq_false_iff_not]; omega) | (simp; omega)) ?_
  have e1 : Snap.en r0 (1) ≤ 1 + 100 * r0.nn := Snap.en_le (by omega)
  refine Ev.bind (markSnap_ev (x := r0) (n := 1) (by omega) (by omega)) ?_
  have e2 : sumN (fun _ => 1) r1 = 1 * r1.length := sumN_const
  refine Ev.bind (markBoolS_ev (l := r1) (n := Snap.en r0 (1)) (by omega) (by omega)) ?_
  refine Ev.bind (heldSnap_ev (x := r0) (n := 1) (by omega) (by omega)) ?_
  refine Ev.iteF (by first | (simp; done) | (simp only [decide_eq_false_iff_not]; omega) | (simp; omega)) ?_
  refine Ev.bind (heldBoolS_ev (l := r1) (n := Snap.en r0 (1)) (by omega) (by omega)) ?_
  refine Ev.iteF (by first | (simp; done) | (simp only [decide_eq_false_iff_not]; omega) | (simp; omega)) ?_
  refine Ev.iteF (by first | (simp; done) | (simp only [decide_eq_false_iff_not]; omega) | (simp; omega)) ?_
  refine Ev.bind (toSnapStepS_ev (by omega)) ?_
  refine Ev.bind hi ?_
  refine Ev.bind (eqSnap_ev (by omega)) ?_
  refine Ev.bind (a := false) (Ev.iteF (by first | (simp; done) | (simp only [decide_eq_false_iff_not]; omega) | (simp; omega)) ?_) ?_
  · skip
    refine Ev.bind (eqBoolS_ev (by omega)) ?_
    exact Ev.of (by simp)
  refine Ev.iteF (by first | (simp; done) | (simp only [decide_eq_false_iff_not]; omega) | (simp; omega)) ?_
  refine Ev.bind (heldSnap_ev (x := r0) (n := 1) (by omega) (by omega)) ?_
  refine Ev.iteF (by first | (simp; done) | (simp only [decide_eq_false_iff_not]; omega) | (simp; omega)) ?_
  refine Ev.bind (heldBoolS_ev (l := r1) (n := Snap.en r0 (1)) (by omega) (by omega)) ?_
  refine Ev.iteF (by first | (simp; done) | (simp only [decide_eq_false_iff_not]; omega) | (simp; omega)) ?_
  refine Ev.iteF (by first | (simp; done) | (simp only [decide_eq_false_iff_not]; omega) | (simp; omega)) ?_
  exact Ev.rfl
end Go.Proofs.Ytpkiieniipenjaa.X
