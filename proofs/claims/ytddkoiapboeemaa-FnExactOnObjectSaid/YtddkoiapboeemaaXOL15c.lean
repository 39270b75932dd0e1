/- OnObject's law, plain. -/
import Derived.Test.YtddkoiapboeemaaXOL15b
import Derived.Test.YtddkoiapboeemaaXOW
set_option linter.unusedVariables false
set_option linter.unusedSimpArgs false
namespace Go.Proofs.Ytddkoiapboeemaa.X
open Go

theorem OnObject_pure (l : List Call) (w : wfL 48 Call.wf l) (o : Int) (w1 : inI o) : ∃ k, laws_FnExactOnObject k l o = some true := by
  have hl := w.1
  suffices h : Ev (fun k => laws_FnExactOnObject k l o) true by
    obtain ⟨K, h⟩ := h
    exact ⟨K, h K (Nat.le_refl _)⟩
  unfold laws_FnExactOnObject
  refine Ev.bindp (szCallS_some (by omega)) ?_
  by_cases hs : (1048576 : Int) < l.length
  · rw [if_pos hs]
    exact Ev.iteT rfl Ev.rfl
  · rw [if_neg hs]
    have hl : l.length ≤ 1048576 := by omega
    refine Ev.iteF (by simp only [decide_eq_false_iff_not]; omega) ?_
    have hr : (if good l = true ∧ spec_l1In o 0 2 = true then (l.filter (fun c => decide (c.Object = o)), true) else ([], false)).1.length ≤ 1048576 := by
      split
      · exact Nat.le_trans (List.length_filter_le ..) hl
      · simp
    have hsp := spec_OnObject_eq hl o
    have him := impl_OnObject_ev hl o
    generalize (if good l = true ∧ spec_l1In o 0 2 = true then (l.filter (fun c => decide (c.Object = o)), true) else ([], false)) = R at hr hsp him
    obtain ⟨r, b⟩ := R
    simp only at hr
    refine Ev.bind (toCallS_ev hl) ?_
    refine Ev.bindp hsp ?_
    refine Ev.bind (toCallS_ev hl) ?_
    refine Ev.bind him ?_
    refine Ev.bind (eqCallS_ev hr) ?_
    refine Ev.iteF (by simp) ?_
    refine Ev.bind (toCallS_ev hl) ?_
    refine Ev.bind (eqCallS_ev hl) ?_
    refine Ev.iteF (by simp) ?_
    refine Ev.bind (markCallS_ev hl) ?_
    refine Ev.bind (a := false) (Ev.iteF (by simp only [decide_eq_false_iff_not]; omega) (Ev.bind (eqCallS_ev hr) (Ev.of (by simp)))) ?_
    refine Ev.iteF (by simp) ?_
    refine Ev.bind (markCallS_ev hr) ?_
    refine Ev.bind (heldCallS_ev hr) ?_
    refine Ev.iteF (by simp only [decide_eq_false_iff_not]; omega) ?_
    refine Ev.iteF (by simp) ?_
    refine Ev.bind (toCallS_ev hl) ?_
    refine Ev.bind him ?_
    refine Ev.bind (eqCallS_ev hr) ?_
    refine Ev.iteF (by simp) ?_
    refine Ev.bind (heldCallS_ev hr) ?_
    refine Ev.iteF (by simp only [decide_eq_false_iff_not]; omega) ?_
    refine Ev.iteF (by simp) ?_
    exact Ev.rfl
end Go.Proofs.Ytddkoiapboeemaa.X
