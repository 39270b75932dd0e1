/- The law's own walk, from its core: one answer. -/
import Derived.Test.YtddkoiapboeemaaXL1L15m2
import Derived.Test.YtddkoiapboeemaaXL1K
import Derived.Test.YtddkoiapboeemaaXL1W
set_option linter.unusedVariables false
set_option linter.unusedSimpArgs false
namespace Go.Proofs.Ytddkoiapboeemaa.X
open Go
theorem IsLegal_pure (aL_0 : List Call) (w0 : (wfL 48 Call.wf) aL_0) (aOrder_1 : List Int) (w1 : (wfL 8 inI) aOrder_1) : ∃ k, laws_FnExactIsLegal k aL_0 aOrder_1 = some true := by
  suffices h : Ev (fun k => laws_FnExactIsLegal k aL_0 aOrder_1) true by
    obtain ⟨K, h⟩ := h
    exact ⟨K, h K (Nat.le_refl _)⟩
  unfold laws_FnExactIsLegal
  refine iteS (fun c0 => ?_)
  simp only [decide_eq_false_iff_not] at c0
  refine szr_law (szCallS_ev (by have := w0.1; omega) (by omega) (by omega)) (fun c1 d1 => ?_) (by omega)
  obtain ⟨⟨r0, r1⟩, hs, hi⟩ := IsLegal_core aL_0 aOrder_1 w0 w1 (by omega) (by omega)
  refine Ev.bind (toCallS_ev (by omega)) ?_
  refine Ev.bind (toIntS_ev (by omega)) ?_
  refine Ev.bind hs ?_
  refine Ev.bind (toCallS_ev (by omega)) ?_
  refine Ev.bind (toIntS_ev (by omega)) ?_
  refine Ev.bind hi ?_
  refine Ev.iteF (by first | (simp; done) | (simp only [decide_eq_false_iff_not]; omega) | (simp; omega)) ?_
  refine Ev.bind (toCallS_ev (by omega)) ?_
  refine Ev.bind (eqCallS_ev (by omega)) ?_
  refine Ev.iteF (by first | (simp; done) | (simp only [decide_eq_false_iff_not]; omega) | (simp; omega)) ?_
  refine Ev.bind (toIntS_ev (by omega)) ?_
  refine Ev.bind (eqIntS_ev (by omega)) ?_
  refine Ev.iteF (by first | (simp; done) | (simp only [decide_eq_false_iff_not]; omega) | (simp; omega)) ?_
  exact Ev.rfl
end Go.Proofs.Ytddkoiapboeemaa.X
