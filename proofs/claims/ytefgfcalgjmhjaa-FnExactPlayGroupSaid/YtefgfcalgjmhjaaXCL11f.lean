/- PlayGroup: one answer. -/
import Derived.Test.YtefgfcalgjmhjaaXCL11n
import Derived.Test.YtefgfcalgjmhjaaXCW
set_option linter.unusedVariables false
set_option linter.unusedSimpArgs false
namespace Go.Proofs.Ytefgfcalgjmhjaa.X
open Go

theorem PlayGroup_all (v_0 : Int) (v_1 : List IsrStep) : (∃ n : Nat, v_0 = n ∧ 2 ≤ n ∧ n ≤ 4 ∧ v_1.length ≤ 100 ∧ Ev (fun k => spec_PlayGroup k v_0 v_1) ((runG (newG n) v_1 []).1, (runG (newG n) v_1 []).2, true) ∧ Ev (fun k => impl_PlayGroup k v_0 v_1) ((runG (newG n) v_1 []).1, (runG (newG n) v_1 []).2, true)) ∨ (Ev (fun k => spec_PlayGroup k v_0 v_1) (⟨0, 0, [], 0, []⟩, [], false) ∧ Ev (fun k => impl_PlayGroup k v_0 v_1) (⟨0, 0, [], 0, []⟩, [], false)) := by
  rcases new_spec (n := v_0) with ⟨m, rfl, ⟨h1, h2⟩, e⟩ | ⟨hn, e⟩
  · by_cases hl : v_1.length ≤ 100
    · exact .inl ⟨m, rfl, h1, h2, hl, play_spec h1 h2 e hl, play_impl h1 h2 hl⟩
    · exact .inr ⟨play_spec_no e (.inr (by omega)), play_impl_no (.inr (by omega))⟩
  · exact .inr ⟨play_spec_no e (.inl rfl), play_impl_no (.inl hn)⟩
theorem PlayGroup_core (v_0 : Int) (v_1 : List IsrStep) (w0 : inI v_0) (w1 : (wfL 24 IsrStep.wf) v_1) (b0 : v_1.length ≤ 1048576) : ∃ (r : Group × List Bool × Bool), Ev (fun k => spec_PlayGroup k v_0 v_1) r ∧ Ev (fun k => impl_PlayGroup k v_0 v_1) r ∧ r.1.nn ≤ 1048576 ∧ r.2.1.length ≤ 1048576 := by
  rcases PlayGroup_all v_0 v_1 with ⟨n, rfl, h1, h2, hl, e1, e2⟩ | ⟨e1, e2⟩
  · have hg := runG_good (l := v_1) (d := []) (newG_good h1 h2)
    refine ⟨_, e1, e2, hg.1.nn, ?_⟩
    have h3 := hg.2
    have h4 : ([] : List Bool).length = 0 := rfl
    show (runG (newG n) v_1 []).2.length ≤ 1048576
    omega
  · exact ⟨_, e1, e2, by decide, by decide⟩
end Go.Proofs.Ytefgfcalgjmhjaa.X
