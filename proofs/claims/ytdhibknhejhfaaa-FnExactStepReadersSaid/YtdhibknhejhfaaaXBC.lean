/- The law's own walk, from its core: one answer. -/
import Derived.Test.YtdhibknhejhfaaaXBL14e
import Derived.Test.YtdhibknhejhfaaaXBK
import Derived.Test.YtdhibknhejhfaaaXBW
set_option linter.unusedVariables false
set_option linter.unusedSimpArgs false
namespace Go.Proofs.Ytdhibknhejhfaaa.X
open Go
theorem StepReaders_pure (v_0 : Readers_) (w0 : Readers_.wf v_0) (v_1 : GroupStep) (w1 : GroupStep.wf v_1) : ∃ k, laws_FnExactStepReaders k v_0 v_1 = some true := by
  suffices h : Ev (fun k => laws_FnExactStepReaders k v_0 v_1) true by
    obtain ⟨K, h⟩ := h
    exact ⟨K, h K (Nat.le_refl _)⟩
  unfold laws_FnExactStepReaders
  refine szr_law (szReaders_ev w0 (by omega) (by omega)) (fun c0 d0 => ?_) (by omega)
  obtain ⟨⟨r0, r1⟩, hs, hi, s0⟩ := StepReaders_core v_0 v_1 w0 w1 (by omega)
  dsimp only at s0
  refine Ev.bind (toReaders_ev (by omega)) ?_
  refine Ev.bind hs ?_
  refine Ev.bind (toReaders_ev (by omega)) ?_
  refine Ev.bind hi ?_
  refine Ev.bind (eqReaders_ev (by omega)) ?_
  refine Ev.iteF (by first | (simp; done) | (simp only [decide_eq_false_iff_not]; omega) | (simp; omega)) ?_
  refine Ev.bind (toReaders_ev (by omega)) ?_
  refine Ev.bind (eqReaders_ev (by omega)) ?_
  refine Ev.iteF (by first | (simp; done) | (simp only [decide_eq_false_iff_not]; omega) | (simp; omega)) ?_
  have e0 : Readers_.en v_0 (1) ≤ 1 + 100 * v_0.nn := Readers_.en_le (by omega)
  refine Ev.bind (markReaders_ev (x := v_0) (n := 1) (by omega) (by omega)) ?_
  refine Ev.bind (a := false) (Ev.iteF (by first | (simp; done) | (simp only [decide_eq_false_iff_not]; omega) | (simp; omega)) ?_) ?_
  · skip
    refine Ev.bind (eqReaders_ev (by omega)) ?_
    exact Ev.of (by simp)
  refine Ev.iteF (by first | (simp; done) | (simp only [decide_eq_false_iff_not]; omega) | (simp; omega)) ?_
  have e1 : Readers_.en r0 (1) ≤ 1 + 100 * r0.nn := Readers_.en_le (by omega)
  refine Ev.bind (markReaders_ev (x := r0) (n := 1) (by omega) (by omega)) ?_
  refine Ev.bind (heldReaders_ev (x := r0) (n := 1) (by omega) (by omega)) ?_
  refine Ev.iteF (by first | (simp; done) | (simp only [decide_eq_false_iff_not]; omega) | (simp; omega)) ?_
  refine Ev.iteF (by first | (simp; done) | (simp only [decide_eq_false_iff_not]; omega) | (simp; omega)) ?_
  refine Ev.bind (toReaders_ev (by omega)) ?_
  refine Ev.bind hi ?_
  refine Ev.bind (eqReaders_ev (by omega)) ?_
  refine Ev.iteF (by first | (simp; done) | (simp only [decide_eq_false_iff_not]; omega) | (simp; omega)) ?_
  refine Ev.bind (heldReaders_ev (x := r0) (n := 1) (by omega) (by omega)) ?_
  refine Ev.iteF (by first | (simp; done) | (simp only [decide_eq_false_iff_not]; omega) | (simp; omega)) ?_
  refine Ev.iteF (by first | (simp; done) | (simp only [decide_eq_false_iff_not]; omega) | (simp; omega)) ?_
  exact Ev.rfl
end Go.Proofs.Ytdhibknhejhfaaa.X
