/- Good calls, and those on an object. -/
import Derived.Test.YtddkoiapboeemaaXL1D
import Derived.Test.YtddkoiapboeemaaZLib
set_option linter.unusedVariables false
set_option linter.unusedSimpArgs false
namespace Go.Proofs.Ytddkoiapboeemaa.X
open Go

theorem areCalls_b1_eq (x : Call) (i : Nat) (y : Call) : impl_areCalls_b1 x i y = spec_GoodCalls_b1 x i y := by
  unfold impl_areCalls_b1 spec_GoodCalls_b1
  congr 1
  simp only [Bool.and_eq_true, decide_eq_true_eq, eq_iff_iff]
  omega
theorem areCalls_b2_eq (l : List Call) (i : Nat) (x : Call) : impl_areCalls_b2 l i x = spec_GoodCalls_b2 l i x := by
  have hb : (fun (i125 : Nat) (x126 : Call) (_ : Unit) => impl_areCalls_b1 x i125 x126) = (fun i38 x39 _ => spec_GoodCalls_b1 x i38 x39) := by
    funext a b c
    exact areCalls_b1_eq x a b
  rcases x with ⟨x1, x2, x3, x4, x5, x6⟩
  cases x3
  · simp only [impl_areCalls_b2, Bool.false_eq_true, if_false, Option.bind_some, impl_areCalls_j1, spec_GoodCalls_b2, hb]
    congr 1
    simp only [impl_in, spec_l15Call, spec_l1In, Bool.or_eq_true, Bool.and_eq_true, Bool.not_eq_true', decide_eq_true_eq, eq_iff_iff, Bool.not_and, Bool.not_eq_eq_eq_not, Bool.not_true, Bool.and_eq_false_imp, Bool.not_false, true_or, and_true, decide_eq_false_iff_not, Bool.or_eq_false_iff]
    grind
  · simp only [impl_areCalls_b2, if_true, Option.bind_some, impl_areCalls_j1, spec_GoodCalls_b2, hb]
    congr 1
    simp only [impl_in, spec_l15Call, spec_l1In, Bool.or_eq_true, Bool.and_eq_true, Bool.not_eq_true', decide_eq_true_eq, eq_iff_iff, Bool.not_and, Bool.not_eq_eq_eq_not, Bool.not_true, Bool.and_eq_false_imp, Bool.not_false, true_or, and_true, decide_eq_false_iff_not, Bool.or_eq_false_iff]
    grind
theorem areCalls_eq : impl_areCalls = spec_GoodCalls := by
  funext l
  unfold impl_areCalls spec_GoodCalls
  simp only [areCalls_b2_eq]
  rfl
/-- A call at its place among the ones before it is amiss. -/
def badAt (l : List Call) (i : Nat) (x : Call) : Bool := !(spec_l15Call x) || (l.take i).zipIdx.any (fun c => (decide (c.1.Client = x.Client) && decide (x.Begin < c.1.End)) && decide (c.1.Begin < x.End))
def good (l : List Call) : Bool := !(l.zipIdx.any fun c => badAt l c.2 c.1) && decide (l.length ≤ 7)
theorem GoodCalls_eq {l : List Call} (hl : l.length ≤ 1048576) : spec_GoodCalls l = some (good l) := by
  unfold spec_GoodCalls
  rw [rangeL_any (p := badAt l) (q := false) (by omega) (fun j x hx => ?_)]
  · unfold good
    rcases Bool.eq_false_or_eq_true (l.zipIdx.any fun c => badAt l c.2 c.1) with h | h
    · rw [if_pos h, h]
      rfl
    · rw [if_neg (by rw [h]; exact Bool.false_ne_true), h]
      simp only [jn, jnO, Option.bind_some, spec_GoodCalls_j2, Bool.not_false, Bool.true_and, Option.some.injEq, decide_eq_decide]
      omega
  · have hj : j < l.length := (List.getElem?_eq_some_iff.1 hx).1
    simp only [spec_GoodCalls_b2, sl_take (Nat.le_of_lt hj), Option.bind_some]
    rcases Bool.eq_false_or_eq_true (spec_l15Call x) with h | h
    · have e : badAt l j x = (l.take j).zipIdx.any (fun c => (decide (c.1.Client = x.Client) && decide (x.Begin < c.1.End)) && decide (c.1.Begin < x.End)) := by
        unfold badAt
        rw [h]
        rfl
      rw [h, e, if_neg (by simp)]
      rw [rangeL_any (p := fun _ y => (decide (y.Client = x.Client) && decide (x.Begin < y.End)) && decide (y.Begin < x.End)) (q := .ret false) (by rw [List.length_take]; omega) (fun i y hy => ?_)]
      · split <;> rfl
      · unfold spec_GoodCalls_b1
        split <;> rfl
    · have e : badAt l j x = true := by
        unfold badAt
        rw [h]
        rfl
      rw [h, e]
      rfl
theorem good_call {l : List Call} (h : good l = true) {x : Call} (hx : x ∈ l) : spec_l15Call x = true := by
  unfold good at h
  simp only [Bool.and_eq_true, Bool.not_eq_true', List.any_eq_false] at h
  obtain ⟨i, hi, rfl⟩ := List.mem_iff_getElem.1 hx
  have := h.1 (l[i], i) (by rw [List.mem_zipIdx_iff_getElem?]; simp)
  unfold badAt at this
  rcases Bool.eq_false_or_eq_true (spec_l15Call l[i]) with h' | h'
  · exact h'
  · simp [h'] at this

end Go.Proofs.Ytddkoiapboeemaa.X
