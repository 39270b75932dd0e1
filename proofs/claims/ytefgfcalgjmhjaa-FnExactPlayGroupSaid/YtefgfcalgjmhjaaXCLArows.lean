/- Rows of a log: what is asked on both sides. -/
import Derived.Test.YtefgfcalgjmhjaaXCD
import Derived.Test.YtefgfcalgjmhjaaXCLAmem
set_option linter.unusedVariables false
set_option linter.unusedSimpArgs false
namespace Go.Proofs.Ytefgfcalgjmhjaa.X
open Go
/-! rows of a log -/
def rowsP (l : List Row) (most : Int) : Prop := (∀ (i : Nat) (x : Row), l[i]? = some x → 0 ≤ x.Epoch ∧ x.Epoch ≤ most ∧ 0 ≤ x.Value ∧ x.Value ≤ 99 ∧ ∀ y, 0 < i → l[i - 1]? = some y → y.Epoch ≤ x.Epoch) ∧ l.length ≤ 30
theorem rowsP_take {l : List Row} {n m : Int} {k : Nat} (h : rowsP l n) (hm : n ≤ m) : rowsP (l.take k) m := by
  refine ⟨fun i x hx => ?_, by have := h.2; rw [List.length_take]; omega⟩
  have hi : i < k := by
    have := (List.getElem?_eq_some_iff.1 hx).1
    rw [List.length_take] at this; omega
  rw [List.getElem?_take_of_lt hi] at hx
  obtain ⟨a, b, c, d, e⟩ := h.1 i x hx
  refine ⟨a, by omega, c, d, fun y h1 h2 => e y h1 ?_⟩
  rwa [List.getElem?_take_of_lt (by omega)] at h2

end Go.Proofs.Ytefgfcalgjmhjaa.X
