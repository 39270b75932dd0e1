/- What OrderFor answers. -/
import Derived.Test.YtddkoiapboeemaaXNL15t
set_option linter.unusedVariables false
set_option linter.unusedSimpArgs false
namespace Go.Proofs.Ytddkoiapboeemaa.X
open Go

def ordAns (l : List Call) : List Int × Bool := if good l = true then (match timeBest l with | some o => (o, true) | none => ([], false)) else ([], false)
theorem ordAns_len (l : List Call) : (ordAns l).1.length ≤ l.length := by
  unfold ordAns
  split
  · cases hb : timeBest l with
    | some o => exact Nat.le_of_eq (best_some _ _ _ hb).1.1
    | none => simp
  · simp
theorem spec_ord_ev {l : List Call} (hl : l.length ≤ 1048576) : Ev (fun k => spec_OrderFor k l) (ordAns l) := by
  refine Ev.eqv (F := fun k => (spec_GoodCalls l).bind fun v1 => (if (!v1) = true then (some (([] : List Int), false)) else ((spec_l15Find k l [] false).bind fun v5 => (if (decide ((v5.length : Int) ≠ (l.length : Int))) = true then (some ([], false)) else (some (v5, true)))))) ?_ (fun k => rfl)
  refine Ev.bindp (GoodCalls_eq hl) ?_
  unfold ordAns
  rcases Bool.eq_false_or_eq_true (good l) with h | h
  · rw [h]
    refine Ev.iteF rfl ?_
    refine Ev.bind (find_time h) (Ev.of ?_)
    have hlen := best_len (R := relT l) (n := l.length) (legal_nil l)
    rw [if_pos rfl]
    unfold timeBest
    cases hb : best l.length (legalB l) (relT l) l.length [] with
    | some o =>
      rw [hb] at hlen
      rw [if_neg]
      · rfl
      · simp only [Option.isSome_some, decide_eq_true_eq] at hlen
        simp only [Option.getD_some] at hlen
        simp [hlen]
    | none =>
      rw [hb] at hlen
      rw [if_pos]
      simp only [Option.isSome_none, decide_eq_false_iff_not] at hlen
      simpa using hlen
  · rw [h]
    exact Ev.iteT rfl Ev.rfl
theorem impl_ord_ev {l : List Call} (hl : l.length ≤ 1048576) : Ev (fun k => impl_OrderFor k l) (ordAns l) := by
  refine Ev.eqv (F := fun k => (impl_areCalls l).bind fun v1 => (if (!v1) = true then (some (([] : List Int), false)) else ((impl_orderFor k l (fun a0 a1 => impl_byTime_1 a0 a1 l)).bind fun v5 => (some (v5.1, v5.2))))) ?_ (fun k => rfl)
  refine Ev.bindp (a := good l) (by rw [areCalls_eq]; exact GoodCalls_eq hl) ?_
  unfold ordAns
  rcases Bool.eq_false_or_eq_true (good l) with h | h
  · rw [h]
    refine Ev.iteF rfl ?_
    refine Ev.bind (order_time h) (Ev.of ?_)
    rw [if_pos rfl]
    cases timeBest l <;> rfl
  · rw [h]
    exact Ev.iteT rfl Ev.rfl
end Go.Proofs.Ytddkoiapboeemaa.X
