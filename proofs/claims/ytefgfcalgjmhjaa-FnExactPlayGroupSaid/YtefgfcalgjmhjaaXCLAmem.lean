/- Members of a row that rises: what is asked on both sides. -/
import Derived.Test.YtefgfcalgjmhjaaXCD
import Derived.Test.YtefgfcalgjmhjaaZLib3
set_option linter.unusedVariables false
set_option linter.unusedSimpArgs false
namespace Go.Proofs.Ytefgfcalgjmhjaa.X
open Go
theorem not_all2 {α : Type} {A B C : α → Prop} (h : ¬ ∀ y, A y → B y → C y) : ∃ y, A y ∧ B y ∧ ¬ C y := by
  obtain ⟨y, hy⟩ := Classical.not_forall.1 h
  obtain ⟨h1, h2⟩ := Classical.not_imp.1 hy
  obtain ⟨h2, h3⟩ := Classical.not_imp.1 h2
  exact ⟨y, h1, h2, h3⟩
theorem prev_is {α : Type} {l : List α} {i : Nat} {g : α → Bool} (hl : l.length ≤ 4611686018427387904) (hi : i < l.length) : Is (fun _ => ((if (decide ((0 : Int) < (i : Int))) = true then ((geti l (IntKind.wrap .i64 ((i : Int) - 1))).bind fun x => (some (g x))) else (some false)).bind fun v => (some v))) (∃ y, 0 < i ∧ l[i - 1]? = some y ∧ g y = true) := by
  by_cases h : 0 < i
  · rw [if_pos (by simpa using h)]
    have hy : l[i - 1]? = some (l[i - 1]'(by omega)) := List.getElem?_eq_getElem _
    rw [show IntKind.wrap .i64 ((i : Int) - 1) = ((i - 1 : Nat) : Int) by rw [i64_id (by omega) (by omega)]; omega, geti_nat hy]
    exact Is.of ⟨fun e => ⟨_, h, hy, e⟩, fun ⟨y, _, e, e2⟩ => by rw [hy] at e; cases e; exact e2⟩
  · rw [if_neg (by simpa using h)]
    exact Is.F (fun ⟨y, h1, _⟩ => h h1)

def memP (l : List Int) (n : Int) : Prop := ∀ (i : Nat) (x : Int), l[i]? = some x → 0 ≤ x ∧ x < n ∧ ∀ y, 0 < i → l[i - 1]? = some y → y < x
end Go.Proofs.Ytefgfcalgjmhjaa.X
