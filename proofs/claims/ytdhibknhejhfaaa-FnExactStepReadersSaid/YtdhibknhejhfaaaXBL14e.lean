/- StepReaders: one answer. -/
import Derived.Test.YtdhibknhejhfaaaXBL14d
import Derived.Test.YtdhibknhejhfaaaXBW
set_option linter.unusedVariables false
set_option linter.unusedSimpArgs false
namespace Go.Proofs.Ytdhibknhejhfaaa.X
open Go
theorem own_impl {r : Readers_} (h : r.nn ≤ 1048576) : Ev (fun _ => impl_copyReaders r) r := by
  obtain ⟨h1, h2, h3, h4⟩ := rd_nn h
  unfold impl_copyReaders
  refine Ev.bindp (appN_nil (by omega)) (Ev.bindp (appN_nil (by omega)) (Ev.jn (own_loop h (fun i x s hx hs => ?_)) Ev.rfl))
  obtain ⟨a1, a2⟩ := h4 i x hx
  unfold impl_copyReaders_b1
  rw [appN_nil (by omega), Option.bind_some, appN_nil (by omega), Option.bind_some]
  unfold appN
  rw [if_pos (by simp; omega)]
  rfl
theorem StepReaders_core (v_0 : Readers_) (v_1 : GroupStep) (w0 : Readers_.wf v_0) (w1 : GroupStep.wf v_1) (b0 : v_0.nn ≤ 1048576) : ∃ (r : Readers_ × Bool), Ev (fun k => spec_StepReaders v_0 v_1) r ∧ Ev (fun k => impl_StepReaders v_0 v_1) r ∧ r.1.nn ≤ 1048576 := by
  obtain ⟨b, e1, hb⟩ := spec_group_is b0
  obtain ⟨b', e0, e2⟩ := (spec_group_is b0).two (impl_group_is b0)
  have := e1.two e0
  subst this
  unfold spec_StepReaders impl_StepReaders
  cases b with
  | false => exact ⟨(⟨0, [], [], []⟩, false), Ev.bind e1 (Ev.iteT rfl Ev.rfl), Ev.bind e2 (Ev.iteT rfl Ev.rfl), by decide⟩
  | true =>
    have hg := grP_ok (hb.1 rfl)
    obtain ⟨c, r', f1, ⟨s, f2, hs⟩, hf, h'⟩ := step_ok (x := v_1) hg w1.2.1
    cases c with
    | false => exact ⟨(⟨0, [], [], []⟩, false), Ev.bind e1 (Ev.iteF rfl (Ev.bind (own_spec b0) (Ev.bind f2 (Ev.iteT rfl Ev.rfl)))), Ev.bind e2 (Ev.iteF rfl (Ev.bind (own_impl b0) (Ev.bind f1 (Ev.iteT rfl Ev.rfl)))), by decide⟩
    | true =>
      have := hs rfl
      subst this
      exact ⟨(s, true), Ev.bind e1 (Ev.iteF rfl (Ev.bind (own_spec b0) (Ev.bind f2 (Ev.iteF rfl (Ev.bind (own_spec (Nat.le_trans h'.nn_le (by omega))) Ev.rfl))))), Ev.bind e2 (Ev.iteF rfl (Ev.bind (own_impl b0) (Ev.bind f1 (Ev.iteF rfl Ev.rfl)))), Nat.le_trans h'.nn_le (by omega)⟩
end Go.Proofs.Ytdhibknhejhfaaa.X
