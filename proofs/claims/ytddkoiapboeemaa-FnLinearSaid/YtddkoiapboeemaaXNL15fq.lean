/- What IsLinear answers. -/
import Derived.Test.YtddkoiapboeemaaXNL15t
set_option linter.unusedVariables false
set_option linter.unusedSimpArgs false
namespace Go.Proofs.Ytddkoiapboeemaa.X
open Go

def linAns (l : List Call) : Bool × Bool := if good l = true then ((timeBest l).isSome, true) else (false, false)
theorem spec_lin_ev {l : List Call} (hl : l.length ≤ 1048576) : Ev (fun k => spec_IsLinear k l) (linAns l) := by
  refine Ev.eqv (F := fun k => (spec_GoodCalls l).bind fun v1 => (if (!v1) = true then (some (false, false)) else ((spec_l15Find k l [] false).bind fun v5 => (some ((decide ((v5.length : Int) = (l.length : Int))), true))))) ?_ (fun k => rfl)
  refine Ev.bindp (GoodCalls_eq hl) ?_
  unfold linAns
  rcases Bool.eq_false_or_eq_true (good l) with h | h
  · rw [h]
    refine Ev.iteF rfl ?_
    refine Ev.bind (find_time h) (Ev.of ?_)
    unfold timeBest
    rw [if_pos rfl, best_len (legal_nil l)]
  · rw [h]
    exact Ev.iteT rfl Ev.rfl
theorem impl_lin_ev {l : List Call} (hl : l.length ≤ 1048576) : Ev (fun k => impl_IsLinear k l) (linAns l) := by
  refine Ev.eqv (F := fun k => (impl_areCalls l).bind fun v1 => (if (!v1) = true then (some (false, false)) else ((impl_orderFor k l (fun a0 a1 => impl_byTime_1 a0 a1 l)).bind fun v5 => (some (v5.2, true))))) ?_ (fun k => rfl)
  refine Ev.bindp (a := good l) (by rw [areCalls_eq]; exact GoodCalls_eq hl) ?_
  unfold linAns
  rcases Bool.eq_false_or_eq_true (good l) with h | h
  · rw [h]
    refine Ev.iteF rfl ?_
    refine Ev.bind (order_time h) (Ev.of ?_)
    rw [if_pos rfl]
    cases timeBest l <;> rfl
  · rw [h]
    exact Ev.iteT rfl Ev.rfl
end Go.Proofs.Ytddkoiapboeemaa.X
