/- The law's own walk, from its core: one answer. -/
import Derived.Test.YtdhibknhejhfaaaXAL14c
import Derived.Test.YtdhibknhejhfaaaXAK
import Derived.Test.YtdhibknhejhfaaaXAW
set_option linter.unusedVariables false
set_option linter.unusedSimpArgs false
namespace Go.Proofs.Ytdhibknhejhfaaa.X
open Go
theorem PlayReaders_pure (v_0 : Int) (w0 : inI v_0) (v_1 : List Int) (w1 : (wfL 8 inI) v_1) (v_2 : List GroupStep) (w2 : (wfL 32 GroupStep.wf) v_2) : ∃ k, laws_FnExactPlayReaders k v_0 v_1 v_2 = some true := by
  suffices h : Ev (fun k => laws_FnExactPlayReaders k v_0 v_1 v_2) true by
    obtain ⟨K, h⟩ := h
    exact ⟨K, h K (Nat.le_refl _)⟩
  unfold laws_FnExactPlayReaders
  refine iteS (fun c0 => ?_)
  simp only [decide_eq_false_iff_not] at c0
  refine szr_law (szGroupStepS_ev (by have := w2.1; omega) (by omega) (by omega)) (fun c1 d1 => ?_) (by omega)
  obtain ⟨⟨r0, r1, r2⟩, hs, hi, s0, s1⟩ := PlayReaders_core v_0 v_1 v_2 w0 w1 w2 (by omega) (by omega)
  dsimp only at s0 s1
  refine Ev.bind (toIntS_ev (by omega)) ?_
  refine Ev.bind (toGroupStepS_ev (by omega)) ?_
  refine Ev.bind hs ?_
  refine Ev.bind (toIntS_ev (by omega)) ?_
  refine Ev.bind (toGroupStepS_ev (by omega)) ?_
  refine Ev.bind hi ?_
  refine Ev.bind (eqReaders_ev (by omega)) ?_
  refine Ev.bind (a := false) (Ev.iteF (by first | (simp; done) | (simp only [decide_eq_false_iff_not]; omega) | (simp; omega)) ?_) ?_
  · skip
    refine Ev.bind (eqBoolS_ev (by omega)) ?_
    exact Ev.of (by simp)
  refine Ev.iteF (by first | (simp; done) | (simp only [decide_eq_false_iff_not]; omega) | (simp; omega)) ?_
  refine Ev.bind (toIntS_ev (by omega)) ?_
  refine Ev.bind (eqIntS_ev (by omega)) ?_
  refine Ev.iteF (by first | (simp; done) | (simp only [decide_eq_false_iff_not]; omega) | (simp; omega)) ?_
  refine Ev.bind (toGroupStepS_ev (by omega)) ?_
  refine Ev.bind (eqGroupStepS_ev (by omega)) ?_
  refine Ev.iteF (by first | (simp; done) | (simp only [decide_eq_false_iff_not]; omega) | (simp; omega)) ?_
  have e0 : sumN (fun _ => 1) v_1 = 1 * v_1.length := sumN_const
  refine Ev.bind (markIntS_ev (l := v_1) (n := 1) (by omega) (by omega)) ?_
  have e1 : sumN GroupStep.mce v_2 = 4 * v_2.length := sumN_const
  refine Ev.bind (markGroupStepS_ev (l := v_2) (n := 1 + sumN (fun _ => 1) v_1) (by omega) (by omega)) ?_
  refine Ev.bind (a := false) (Ev.iteF (by first | (simp; done) | (simp only [decide_eq_false_iff_not]; omega) | (simp; omega)) ?_) ?_
  · skip
    refine Ev.bind (eqReaders_ev (by omega)) ?_
    exact Ev.of (by simp)
  refine Ev.bind (a := false) (Ev.iteF (by first | (simp; done) | (simp only [decide_eq_false_iff_not]; omega) | (simp; omega)) ?_) ?_
  · skip
    refine Ev.bind (eqBoolS_ev (by omega)) ?_
    exact Ev.of (by simp)
  refine Ev.iteF (by first | (simp; done) | (simp only [decide_eq_false_iff_not]; omega) | (simp; omega)) ?_
  have e2 : Readers_.en r0 (1) ≤ 1 + 100 * r0.nn := Readers_.en_le (by omega)
  refine Ev.bind (markReaders_ev (x := r0) (n := 1) (by omega) (by omega)) ?_
  have e3 : sumN (fun _ => 1) r1 = 1 * r1.length := sumN_const
  refine Ev.bind (markBoolS_ev (l := r1) (n := Readers_.en r0 (1)) (by omega) (by omega)) ?_
  refine Ev.bind (heldReaders_ev (x := r0) (n := 1) (by omega) (by omega)) ?_
  refine Ev.iteF (by first | (simp; done) | (simp only [decide_eq_false_iff_not]; omega) | (simp; omega)) ?_
  refine Ev.bind (heldBoolS_ev (l := r1) (n := Readers_.en r0 (1)) (by omega) (by omega)) ?_
  refine Ev.iteF (by first | (simp; done) | (simp only [decide_eq_false_iff_not]; omega) | (simp; omega)) ?_
  refine Ev.iteF (by first | (simp; done) | (simp only [decide_eq_false_iff_not]; omega) | (simp; omega)) ?_
  refine Ev.bind (toIntS_ev (by omega)) ?_
  refine Ev.bind (toGroupStepS_ev (by omega)) ?_
  refine Ev.bind hi ?_
  refine Ev.bind (eqReaders_ev (by omega)) ?_
  refine Ev.bind (a := false) (Ev.iteF (by first | (simp; done) | (simp only [decide_eq_false_iff_not]; omega) | (simp; omega)) ?_) ?_
  · skip
    refine Ev.bind (eqBoolS_ev (by omega)) ?_
    exact Ev.of (by simp)
  refine Ev.iteF (by first | (simp; done) | (simp only [decide_eq_false_iff_not]; omega) | (simp; omega)) ?_
  refine Ev.bind (heldReaders_ev (x := r0) (n := 1) (by omega) (by omega)) ?_
  refine Ev.iteF (by first | (simp; done) | (simp only [decide_eq_false_iff_not]; omega) | (simp; omega)) ?_
  refine Ev.bind (heldBoolS_ev (l := r1) (n := Readers_.en r0 (1)) (by omega) (by omega)) ?_
  refine Ev.iteF (by first | (simp; done) | (simp only [decide_eq_false_iff_not]; omega) | (simp; omega)) ?_
  refine Ev.iteF (by first | (simp; done) | (simp only [decide_eq_false_iff_not]; omega) | (simp; omega)) ?_
  exact Ev.rfl
end Go.Proofs.Ytdhibknhejhfaaa.X
