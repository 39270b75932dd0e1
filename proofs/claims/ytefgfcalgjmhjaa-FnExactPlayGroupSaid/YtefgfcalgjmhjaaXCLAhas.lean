/- Whether a row has a number: what is asked on both sides. -/
import Derived.Test.YtefgfcalgjmhjaaXCD
import Derived.Test.YtefgfcalgjmhjaaZLib3
set_option linter.unusedVariables false
set_option linter.unusedSimpArgs false
namespace Go.Proofs.Ytefgfcalgjmhjaa.X
open Go
theorem l1Has_is {l : List Int} {v : Int} (hl : l.length ≤ 4611686018427387904) : Is (fun _ => spec_l1Has l v) (v ∈ l) := by
  unfold spec_l1Has
  refine (Is.any (Q := fun _ x => x = v) hl (fun i x hx => ?_)).iff ?_
  · unfold spec_l1Has_b1
    exact ite_body (by simp)
  · constructor
    · rintro ⟨i, x, h, rfl⟩; exact List.mem_of_getElem? h
    · intro h
      obtain ⟨i, hi⟩ := List.getElem?_of_mem h
      exact ⟨i, v, hi, rfl⟩
end Go.Proofs.Ytefgfcalgjmhjaa.X
