/- Marks on calls, as they are held. -/
import Derived.Test.YtddkoiapboeemaaXOL15m
set_option linter.unusedVariables false
set_option linter.unusedSimpArgs false
namespace Go.Proofs.Ytddkoiapboeemaa.X
open Go

theorem heldCallS_ev {m : Nat} (hl : m ≤ 1048576) : Ev (fun k => laws_heldCallS k (marked (6 : Nat) markCall (1 : Nat) m) 1) ((1 + 6 * m : Nat) : Int) := by
  refine Ev.eqv (F := fun k => jn (loopF (fun s71 => laws_heldCallS_b1 (marked (6 : Nat) markCall (1 : Nat) m) s71.1 s71.2) k (1, 0)) (fun s80 => laws_heldCallS_j1 s80.1 s80.2)) ?_ (fun k => rfl)
  refine Ev.jn (heldS_ev (c := 6) (n0 := 1) hl (by omega) (by omega) (fun i hi => ?_) (fun n => ?_)) (Ev.of rfl)
  · simp only [laws_heldCallS_b1, marked_length]
    rw [if_pos (by simpa using hi), geti_nat (marked_get m hi)]
    simp only [Option.bind_some]
    have e : ((1 : Nat) : Int) + ((6 : Nat) : Int) * (i : Int) = ((1 + 6 * i : Nat) : Int) := by omega
    rw [e]
    generalize hn : 1 + 6 * i = n
    simp (disch := omega) only [i64_id, markCall]
    have e2 : 1 + 6 * (i + 1) = n + 6 := by omega
    rw [e2]
    have e3 : (n : Int) + 1 + 1 = n + 2 := by omega
    have e4 : (n : Int) + 2 + 1 = n + 3 := by omega
    have e5 : (n : Int) + 3 + 1 = n + 4 := by omega
    have e6 : (n : Int) + 4 + 1 = n + 5 := by omega
    have e7 : (n : Int) + 5 + 1 = n + 6 := by omega
    simp [e3, e4, e5, e6, e7]
  · simp only [laws_heldCallS_b1, marked_length]
    rw [if_neg (by simp)]
end Go.Proofs.Ytddkoiapboeemaa.X
