/- Marks on calls. -/
import Derived.Test.YtddkoiapboeemaaXOL15a
set_option linter.unusedVariables false
set_option linter.unusedSimpArgs false
namespace Go.Proofs.Ytddkoiapboeemaa.X
open Go

def markCall (n : Int) : Call := ⟨n, n + 1, decide (Int.tmod (n + 2) 3 = 0), n + 3, n + 4, n + 5⟩
theorem markCallS_ev {l : List Call} (hl : l.length ≤ 1048576) : Ev (fun k => laws_markCallS k l 1) (((1 + 6 * l.length : Nat) : Int), marked (6 : Nat) markCall (1 : Nat) l.length) := by
  refine Ev.eqv (F := fun k => jn (loopF (fun s70 => laws_markCallS_b1 s70.1 s70.2.1 s70.2.2) k (1, 0, l)) (fun s82 => laws_markCallS_j1 s82.1 s82.2.1 s82.2.2)) ?_ (fun k => rfl)
  refine Ev.jn (markS_ev (c := 6) (M := markCall) (n0 := 1) hl (by omega) (by omega) (fun n i s x hn hi hx hs => ?_) (fun n s hs => ?_)) (Ev.of rfl)
  · simp only [laws_markCallS_b1]
    rw [if_pos (by rw [hs]; simpa using hi), geti_nat hx, Option.bind_some]
    simp (disch := omega) only [i64_id, markCall, Int.toNat_natCast]
    congr 4
  · simp only [laws_markCallS_b1]
    rw [if_neg (by rw [hs]; simp)]
end Go.Proofs.Ytddkoiapboeemaa.X
