/- StepGroup: one answer. -/
import Derived.Test.YtefgfcalgjmhjaaXBL11t
import Derived.Test.YtefgfcalgjmhjaaXBW
set_option linter.unusedVariables false
set_option linter.unusedSimpArgs false
namespace Go.Proofs.Ytefgfcalgjmhjaa.X
open Go

theorem StepGroup_all {v_0 : Group} {v_1 : IsrStep} (b0 : v_0.nn ≤ 1048576) : ∃ b : Bool, Is (fun k => spec_GoodGroup k v_0) (groupP v_0) ∧ (b = true ↔ groupP v_0) ∧ Ev (fun k => spec_StepGroup k v_0 v_1) (if b = true then (match gstep v_0 v_1 with | some g' => (g', true) | none => (⟨0, 0, [], 0, []⟩, false)) else (⟨0, 0, [], 0, []⟩, false)) ∧ Ev (fun k => impl_StepGroup k v_0 v_1) (if b = true then (match gstep v_0 v_1 with | some g' => (g', true) | none => (⟨0, 0, [], 0, []⟩, false)) else (⟨0, 0, [], 0, []⟩, false)) := by
  obtain ⟨b, e1, hb⟩ := spec_gg_is b0
  obtain ⟨b', e0, e2⟩ := (spec_gg_is b0).two (impl_gg_is b0)
  have := e1.two e0
  subst this
  refine ⟨b, spec_gg_is b0, hb, ?_, ?_⟩
  · unfold spec_StepGroup
    cases b with
    | false => exact Ev.bind e1 (Ev.iteT rfl Ev.rfl)
    | true =>
      have hg := hb.1 rfl
      refine Ev.bind e1 (Ev.iteF rfl (Ev.bind (own_spec b0) (Ev.bind (step_s (x := v_1) hg.fit) ?_)))
      cases h : gstep v_0 v_1 with
      | none => exact Ev.iteT rfl Ev.rfl
      | some g' => exact Ev.iteF rfl (Ev.bind (own_spec (step_good hg h).nn) Ev.rfl)
  · unfold impl_StepGroup
    cases b with
    | false => exact Ev.bind e2 (Ev.iteT rfl Ev.rfl)
    | true =>
      have hg := hb.1 rfl
      refine Ev.bind e2 (Ev.iteF rfl (Ev.bind (own_impl b0) (Ev.bind (step_i (x := v_1) hg.fit) ?_)))
      cases h : gstep v_0 v_1 with
      | none => exact Ev.iteT rfl Ev.rfl
      | some g' => exact Ev.iteF rfl Ev.rfl
theorem StepGroup_core (v_0 : Group) (v_1 : IsrStep) (w0 : Group.wf v_0) (w1 : IsrStep.wf v_1) (b0 : v_0.nn ≤ 1048576) : ∃ (r : Group × Bool), Ev (fun k => spec_StepGroup k v_0 v_1) r ∧ Ev (fun k => impl_StepGroup k v_0 v_1) r ∧ r.1.nn ≤ 1048576 := by
  obtain ⟨b, _, hb, e1, e2⟩ := StepGroup_all (v_1 := v_1) b0
  refine ⟨_, e1, e2, ?_⟩
  cases b with
  | false => show Group.nn ⟨0, 0, [], 0, []⟩ ≤ 1048576; decide
  | true =>
    simp only [if_true]
    cases h : gstep v_0 v_1 with
    | none => show Group.nn ⟨0, 0, [], 0, []⟩ ≤ 1048576; decide
    | some g' => exact (step_good (hb.1 rfl) h).nn
end Go.Proofs.Ytefgfcalgjmhjaa.X
