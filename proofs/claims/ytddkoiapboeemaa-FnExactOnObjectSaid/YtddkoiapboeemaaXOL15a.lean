/- The plain functions of the linear laws: copies, comparisons, marks, good calls. -/
import Derived.Test.YtddkoiapboeemaaXOD
import Derived.Test.YtddkoiapboeemaaXLib
set_option linter.unusedVariables false
set_option linter.unusedSimpArgs false
namespace Go.Proofs.Ytddkoiapboeemaa.X
open Go

theorem szCallS_some {l : List Call} (h : l.length ≤ 4611686018427387904) : laws_szCallS l 1048576 = some (if (1048576 : Int) < l.length then -1 else 1048576 - (l.length : Int)) := by
  unfold laws_szCallS
  rw [i64_id (by omega) (by omega)]
  by_cases h1 : (1048576 : Int) < l.length
  · rw [if_pos (by simp only [decide_eq_true_eq]; omega), if_pos h1]
  · rw [if_neg (by simp only [decide_eq_true_eq]; omega), if_neg h1]
theorem toCallS_ev {l : List Call} (hl : l.length ≤ 1048576) : Ev (fun k => laws_toCallS k l) l := by
  refine Ev.eqv (F := fun k => (mkN 48 (l.length : Int) (Call.mk 0 0 false 0 0 0)).bind fun l1 => jn (loopF (fun s55 => laws_toCallS_b1 l s55.1 s55.2) k (0, l1)) (fun s66 => laws_toCallS_j1 s66.1 s66.2)) ?_ (fun k => rfl)
  refine Ev.bindp (a := List.replicate l.length (Call.mk 0 0 false 0 0 0)) (by unfold mkN; rw [if_pos ⟨by omega, by omega⟩]; simp) ?_
  refine Ev.jn (s := ((l.length : Int), l)) (toS_ev hl (fun i s x y hx hy => ?_) (fun s => ?_)) (Ev.of rfl)
  · simp only [laws_toCallS_b1]
    have : i < l.length := (List.getElem?_eq_some_iff.1 hx).1
    rw [if_pos (by simpa using this), geti_nat hx, Option.bind_some, geti_nat hy]
    rfl
  · simp [laws_toCallS_b1]
theorem eqCall_eq (a b : Call) : laws_eqCall a b = some (decide (a = b)) := by
  rcases a with ⟨a1, a2, a3, a4, a5, a6⟩
  rcases b with ⟨b1, b2, b3, b4, b5, b6⟩
  simp only [laws_eqCall, Call.mk.injEq]
  repeat' split
  all_goals simp_all
theorem eqCallS_ev {a b : List Call} (hl : a.length ≤ 1048576) : Ev (fun k => laws_eqCallS k a b) (decide (a = b)) := by
  refine Ev.eqv (F := fun k => if (decide ((a.length : Int) ≠ (b.length : Int))) = true then some false else jn (loopF (fun s41 => laws_eqCallS_b1 a b s41) k 0) (fun s49 => laws_eqCallS_j1 s49)) ?_ (fun k => rfl)
  by_cases hab : a.length = b.length
  · refine Ev.iteF (by simp [hab]) ?_
    have hL := eqS_ev (B := fun s41 => laws_eqCallS_b1 a b s41) hl hab (fun i x y hx hy => ?_) ?_
    · by_cases e : a = b
      · rw [if_pos e] at hL
        rw [decide_eq_true e]
        exact Ev.jn hL Ev.rfl
      · rw [if_neg e] at hL
        rw [decide_eq_false e]
        exact Ev.jn_ret hL
    · have : i < a.length := (List.getElem?_eq_some_iff.1 hx).1
      simp only [laws_eqCallS_b1]
      rw [if_pos (by simpa using this), geti_nat hx, Option.bind_some, geti_nat hy, Option.bind_some, eqCall_eq, Option.bind_some]
      by_cases e : x = y <;> simp [e]
    · simp [laws_eqCallS_b1]
  · refine Ev.iteT (by simp only [ne_eq, decide_eq_true_eq]; omega) ?_
    rw [decide_eq_false (fun e => hab (by rw [e]))]
    exact Ev.rfl
end Go.Proofs.Ytddkoiapboeemaa.X
