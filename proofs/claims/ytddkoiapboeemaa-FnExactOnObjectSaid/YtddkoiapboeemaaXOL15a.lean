/- The plain functions of the linear laws: copies, comparisons, marks, good calls. -/
import Derived.Test.YtddkoiapboeemaaXOD
import Derived.Test.YtddkoiapboeemaaXLib
set_option linter.unusedVariables false
set_option linter.unusedSimpArgs false
namespace Go.Proofs.Ytddkoiapboeemaa.X
open Go

theorem szCallS_some {l : List Call} (h : l.length ≤ 4611686018427387904) : laws_szCallS l 1048576 = some (if (1048576 : Int) < l.length then -1 else 1048576 - (l.length : Int)) := by
  unfold laws_szCallS
  rw [i64_id (by omega) (by omega)]
  by_cases h1 : (1048576 : Int) < l.length
  · rw [if_pos (by simp only [decide_eq_true_eq]; omega), if_pos h1]
  · rw [if_neg (by simp only [decide_eq_true_eq]; omega), if_neg h1]
theorem toCallS_ev {l : List Call} (hl : l.length ≤ 1048576) : Ev (fun k => laws_toCallS k l) l := by
  refine Ev.eqv (F := fun k => (mkN 48 (l.length : Int) (Call.mk 0 0 false 0 0 0)).bind fun l1 => jn (loopF (fun s55 => laws_toCallS_b1 l s55.1 s55.2) k (0, l1)) (fun s66 => laws_toCallS_j1 s66.1 s66.2)) ?_ (fun k => rfl)
  refine Ev.bindp (a := List.replicate l.length (Call.mk 0 0 false 0 0 0)) (by unfold mkN; rw [if_pos ⟨by omega, by omega⟩]; simp) ?_
  refine Ev.jn (s := ((l.length : Int), l)) (toS_ev hl (fun i s x y hx hy => ?_) (fun s => ?_)) (Ev.of rfl)
  · simp only [laws_toCallS_b1]
    have : i < l.length := (List.getElem?_eq_some_iff.1 hx).1
    rw [if_pos (by simpa using this), geti_nat hx, Option.bind_some, geti_nat hy]
    rfl
  · simp [laws_toCallS_b1]
theorem eqCall_eq (a b : Call) : laws_eqCall a b = some (decide (a = b)) := by
  rcases a with ⟨a1, a2, a3, a4, a5, a6⟩
  rcases b with ⟨b1, b2, b3, b4, b5, b6⟩
  simp only [laws_eqCall, Call.mk.injEq]
  repeat' split
  all_goals simp_all
theorem eqCallS_ev {a b : List Call} (hl : a.length ≤ 1048576) : Ev (fun k => laws_eqCallS k a b) (decide (a = b)) := by
  refine Ev.eqv (F := fun k => if (decide ((a.length : Int) ≠ (b.length : Int))) = true then some false else jn (loopF (fun s41 => laws_eqCallS_b1 a b s41) k 0) (fun s49 => laws_eqCallS_j1 s49)) ?_ (fun k => rfl)
  by_cases hab : a.length = b.length
  · refine Ev.iteF (by simp [hab]) ?_
    have hL := eqS_ev (B := fun s41 => laws_eqCallS_b1 a b s41) hl hab (fun i x y hx hy => ?_) ?_
    · by_cases e : a = b
      · rw [if_pos e] at hL
        rw [decide_eq_true e]
        exact Ev.jn hL Ev.rfl
      · rw [if_neg e] at hL
        rw [decide_eq_false e]
        exact Ev.jn_ret hL
    · have : i < a.length := (List.getElem?_eq_some_iff.1 hx).1
      simp only [laws_eqCallS_b1]
      rw [if_pos (by simpa using this), geti_nat hx, Option.bind_some, geti_nat hy, Option.bind_some, eqCall_eq, Option.bind_some]
      by_cases e : x = y <;> simp [e]
    · simp [laws_eqCallS_b1]
  · refine Ev.iteT (by simp only [ne_eq, decide_eq_true_eq]; omega) ?_
    rw [decide_eq_false (fun e => hab (by rw [e]))]
    exact Ev.rfl
def markCall (n : Int) : Call := ⟨n, n + 1, decide (Int.tmod (n + 2) 3 = 0), n + 3, n + 4, n + 5⟩
theorem markCallS_ev {l : List Call} (hl : l.length ≤ 1048576) : Ev (fun k => laws_markCallS k l 1) (((1 + 6 * l.length : Nat) : Int), marked (6 : Nat) markCall (1 : Nat) l.length) := by
  refine Ev.eqv (F := fun k => jn (loopF (fun s70 => laws_markCallS_b1 s70.1 s70.2.1 s70.2.2) k (1, 0, l)) (fun s82 => laws_markCallS_j1 s82.1 s82.2.1 s82.2.2)) ?_ (fun k => rfl)
  refine Ev.jn (markS_ev (c := 6) (M := markCall) (n0 := 1) hl (by omega) (by omega) (fun n i s x hn hi hx hs => ?_) (fun n s hs => ?_)) (Ev.of rfl)
  · simp only [laws_markCallS_b1]
    rw [if_pos (by rw [hs]; simpa using hi), geti_nat hx, Option.bind_some]
    simp (disch := omega) only [i64_id, markCall, Int.toNat_natCast]
    congr 4
  · simp only [laws_markCallS_b1]
    rw [if_neg (by rw [hs]; simp)]
theorem heldCallS_ev {m : Nat} (hl : m ≤ 1048576) : Ev (fun k => laws_heldCallS k (marked (6 : Nat) markCall (1 : Nat) m) 1) ((1 + 6 * m : Nat) : Int) := by
  refine Ev.eqv (F := fun k => jn (loopF (fun s71 => laws_heldCallS_b1 (marked (6 : Nat) markCall (1 : Nat) m) s71.1 s71.2) k (1, 0)) (fun s80 => laws_heldCallS_j1 s80.1 s80.2)) ?_ (fun k => rfl)
  refine Ev.jn (heldS_ev (c := 6) (n0 := 1) hl (by omega) (by omega) (fun i hi => ?_) (fun n => ?_)) (Ev.of rfl)
  · simp only [laws_heldCallS_b1, marked_length]
    rw [if_pos (by simpa using hi), geti_nat (marked_get m hi)]
    simp only [Option.bind_some]
    have e : ((1 : Nat) : Int) + ((6 : Nat) : Int) * (i : Int) = ((1 + 6 * i : Nat) : Int) := by omega
    rw [e]
    generalize hn : 1 + 6 * i = n
    simp (disch := omega) only [i64_id, markCall]
    have e2 : 1 + 6 * (i + 1) = n + 6 := by omega
    rw [e2]
    have e3 : (n : Int) + 1 + 1 = n + 2 := by omega
    have e4 : (n : Int) + 2 + 1 = n + 3 := by omega
    have e5 : (n : Int) + 3 + 1 = n + 4 := by omega
    have e6 : (n : Int) + 4 + 1 = n + 5 := by omega
    have e7 : (n : Int) + 5 + 1 = n + 6 := by omega
    simp [e3, e4, e5, e6, e7]
  · simp only [laws_heldCallS_b1, marked_length]
    rw [if_neg (by simp)]
end Go.Proofs.Ytddkoiapboeemaa.X
