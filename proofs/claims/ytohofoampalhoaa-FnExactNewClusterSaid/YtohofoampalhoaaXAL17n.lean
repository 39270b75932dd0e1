/- NewCluster: one answer. -/
import Derived.Test.YtohofoampalhoaaXAD
import Derived.Test.YtohofoampalhoaaXAK
import Derived.Test.YtohofoampalhoaaXFit
import Derived.Test.YtohofoampalhoaaXLib3
set_option linter.unusedVariables false
set_option linter.unusedSimpArgs false
namespace Go.Proofs.Ytohofoampalhoaa.X
open Go
theorem NewCluster_core (aNodes_0 : Int) (w0 : inI aNodes_0) : ∃ (r : Cluster × Bool), Ev (fun k => spec_NewCluster k aNodes_0) r ∧ Ev (fun k => impl_NewCluster aNodes_0) r ∧ r.1.nn ≤ 1048576 := by
  by_cases h : 2 ≤ aNodes_0 ∧ aNodes_0 ≤ 4
  · have : aNodes_0 = 2 ∨ aNodes_0 = 3 ∨ aNodes_0 = 4 := by omega
    have up : ∀ {α : Type} {F : Nat → Option α} {r : α}, (∀ k, F (k + 10) = some r) → Ev F r := fun h => ⟨10, fun k hk => by
      obtain ⟨j, rfl⟩ : ∃ j, k = j + 10 := ⟨k - 10, by omega⟩
      exact h j⟩
    rcases this with rfl | rfl | rfl
    · exact ⟨(⟨⟨0, 0, [0, 1]⟩, [⟨⟨0, 0, [0, 1]⟩, [], [0, 0], 0⟩, ⟨⟨0, 0, [0, 1]⟩, [], [0, 0], 0⟩], []⟩, true), up (fun k => rfl), Ev.of rfl, by decide⟩
    · exact ⟨(⟨⟨0, 0, [0, 1, 2]⟩, [⟨⟨0, 0, [0, 1, 2]⟩, [], [0, 0, 0], 0⟩, ⟨⟨0, 0, [0, 1, 2]⟩, [], [0, 0, 0], 0⟩, ⟨⟨0, 0, [0, 1, 2]⟩, [], [0, 0, 0], 0⟩], []⟩, true), up (fun k => rfl), Ev.of rfl, by decide⟩
    · exact ⟨(⟨⟨0, 0, [0, 1, 2, 3]⟩, [⟨⟨0, 0, [0, 1, 2, 3]⟩, [], [0, 0, 0, 0], 0⟩, ⟨⟨0, 0, [0, 1, 2, 3]⟩, [], [0, 0, 0, 0], 0⟩, ⟨⟨0, 0, [0, 1, 2, 3]⟩, [], [0, 0, 0, 0], 0⟩, ⟨⟨0, 0, [0, 1, 2, 3]⟩, [], [0, 0, 0, 0], 0⟩], []⟩, true), up (fun k => rfl), Ev.of rfl, by decide⟩
  · have e1 : spec_l1In aNodes_0 2 4 = false := by
      unfold spec_l1In; simp only [Bool.and_eq_false_iff, decide_eq_false_iff_not]; omega
    have e2 : impl_in aNodes_0 2 4 = false := by
      unfold impl_in; simp only [Bool.and_eq_false_iff, decide_eq_false_iff_not]; omega
    refine ⟨(⟨⟨0, 0, []⟩, [], []⟩, false), ?_, ?_, by decide⟩
    · unfold spec_NewCluster
      rw [e1]
      exact Ev.iteT rfl Ev.rfl
    · unfold impl_NewCluster
      rw [e2]
      exact Ev.iteT rfl Ev.rfl
end Go.Proofs.Ytohofoampalhoaa.X
