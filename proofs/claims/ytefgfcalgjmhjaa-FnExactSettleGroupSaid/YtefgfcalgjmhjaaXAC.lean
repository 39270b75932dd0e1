/- The law's own walk, from its core: one answer. -/
import Derived.Test.YtefgfcalgjmhjaaXAL11b
import Derived.Test.YtefgfcalgjmhjaaXAK
import Derived.Test.YtefgfcalgjmhjaaXAW
set_option linter.unusedVariables false
set_option linter.unusedSimpArgs false
namespace Go.Proofs.Ytefgfcalgjmhjaa.X
open Go
theorem SettleGroup_pure (v_0 : Group) (w0 : Group.wf v_0) : ∃ k, laws_FnExactSettleGroup k v_0 = some true := by
  suffices h : Ev (fun k => laws_FnExactSettleGroup k v_0) true by
    obtain ⟨K, h⟩ := h
    exact ⟨K, h K (Nat.le_refl _)⟩
  unfold laws_FnExactSettleGroup
  refine szr_law (szGroup_ev w0 (by omega) (by omega)) (fun c0 d0 => ?_) (by omega)
  obtain ⟨⟨r0, r1, r2⟩, hs, hi, s0⟩ := SettleGroup_core v_0 w0 (by omega)
  dsimp only at s0
  refine Ev.bind (toGroup_ev (by omega)) ?_
  refine Ev.bind hs ?_
  refine Ev.bind (toGroup_ev (by omega)) ?_
  refine Ev.bind hi ?_
  refine Ev.bind (eqGroup_ev (by omega)) ?_
  refine Ev.iteF (by first | (simp; done) | (simp only [decide_eq_false_iff_not]; omega) | (simp; omega)) ?_
  refine Ev.bind (toGroup_ev (by omega)) ?_
  refine Ev.bind (eqGroup_ev (by omega)) ?_
  refine Ev.iteF (by first | (simp; done) | (simp only [decide_eq_false_iff_not]; omega) | (simp; omega)) ?_
  have e0 : Group.en v_0 (1) ≤ 1 + 100 * v_0.nn := Group.en_le (by omega)
  refine Ev.bind (markGroup_ev (x := v_0) (n := 1) (by omega) (by omega)) ?_
  refine Ev.bind (a := false) (Ev.iteF (by first | (simp; done) | (simp only [decide_eq_false_iff_not]; omega) | (simp; omega)) ?_) ?_
  · skip
    refine Ev.bind (eqGroup_ev (by omega)) ?_
    exact Ev.of (by simp)
  refine Ev.iteF (by first | (simp; done) | (simp only [decide_eq_false_iff_not]; omega) | (simp; omega)) ?_
  have e1 : Group.en r0 (1) ≤ 1 + 100 * r0.nn := Group.en_le (by omega)
  refine Ev.bind (markGroup_ev (x := r0) (n := 1) (by omega) (by omega)) ?_
  refine Ev.bind (heldGroup_ev (x := r0) (n := 1) (by omega) (by omega)) ?_
  refine Ev.iteF (by first | (simp; done) | (simp only [decide_eq_false_iff_not]; omega) | (simp; omega)) ?_
  refine Ev.iteF (by first | (simp; done) | (simp only [decide_eq_false_iff_not]; omega) | (simp; omega)) ?_
  refine Ev.bind (toGroup_ev (by omega)) ?_
  refine Ev.bind hi ?_
  refine Ev.bind (eqGroup_ev (by omega)) ?_
  refine Ev.iteF (by first | (simp; done) | (simp only [decide_eq_false_iff_not]; omega) | (simp; omega)) ?_
  refine Ev.bind (heldGroup_ev (x := r0) (n := 1) (by omega) (by omega)) ?_
  refine Ev.iteF (by first | (simp; done) | (simp only [decide_eq_false_iff_not]; omega) | (simp; omega)) ?_
  refine Ev.iteF (by first | (simp; done) | (simp only [decide_eq_false_iff_not]; omega) | (simp; omega)) ?_
  exact Ev.rfl
end Go.Proofs.Ytefgfcalgjmhjaa.X
