/- What an order is, as both sides ask. -/
import Derived.Test.YtddkoiapboeemaaXL1LAput
import Derived.Test.YtddkoiapboeemaaXL1L15t
import Derived.Test.YtddkoiapboeemaaZIns
set_option linter.unusedVariables false
set_option linter.unusedSimpArgs false
namespace Go.Proofs.Ytddkoiapboeemaa.X
open Go

/-- Each number below n once. -/
def ordP (n : Nat) (o : List Int) : Prop := o.length = n ∧ o.Nodup ∧ Inl n o
instance (n : Nat) (o : List Int) : Decidable (ordP n o) := by unfold ordP Inl; infer_instance
theorem sort_memP {o : List Int} {n : Nat} : memP (o.mergeSort fun x y => decide (x ≤ y)) n ↔ o.Nodup ∧ Inl n o := by
  have hp : (o.mergeSort fun x y => decide (x ≤ y)).Perm o := List.mergeSort_perm o _
  have hs : (o.mergeSort fun x y => decide (x ≤ y)).Pairwise (fun x y => decide (x ≤ y) = true) := List.pairwise_mergeSort (fun a b c h1 h2 => by simp at *; omega) (fun a b => by simp; omega) o
  rw [memP_iff]
  constructor
  · rintro ⟨h1, h2⟩
    refine ⟨hp.nodup_iff.1 (h1.imp fun h => by omega), fun x hx => h2 x (hp.mem_iff.2 hx)⟩
  · rintro ⟨h1, h2⟩
    refine ⟨?_, fun x hx => h2 x (hp.mem_iff.1 hx)⟩
    have h3 := hp.nodup_iff.2 h1
    rw [List.Nodup] at h3
    exact (hs.and h3).imp fun {a b} h => by
      have := h.1
      have := h.2
      simp at this
      simp at *
      omega
theorem isOrder_is {l : List Call} {o : List Int} (hl : l.length ≤ 1048576) (ho : o.length ≤ 1048576) : Is (fun _ => impl_isOrder l o) (ordP l.length o) := by
  have ea : appN 8 ([] : List Int) o = some o := by
    unfold appN
    rw [if_pos (by simp only [List.length_nil]; omega)]
    rfl
  have hs : slices_Sort_int o = some (o.mergeSort fun x y => decide (x ≤ y)) := by
    unfold slices_Sort_int srtN
    rw [if_pos (by omega)]
  unfold impl_isOrder
  refine Is.bindv (Ev.of ea) (Is.bindv (Ev.of hs) ?_)
  by_cases h : o.length = l.length
  · obtain ⟨b, e, hb⟩ := areMembers_is (l := o.mergeSort fun x y => decide (x ≤ y)) (n := (l.length : Int)) (by rw [List.length_mergeSort]; omega) (by omega) (by omega)
    refine ⟨b, Ev.bind (a := b) (Ev.iteT (by simp only [decide_eq_true_eq]; omega) (Ev.bind e Ev.rfl)) Ev.rfl, ?_⟩
    rw [hb, sort_memP]
    exact ⟨fun h2 => ⟨h, h2⟩, fun h2 => h2.2⟩
  · refine ⟨false, Ev.bind (a := false) (Ev.iteF (by simp only [decide_eq_false_iff_not]; omega) Ev.rfl) Ev.rfl, ?_⟩
    simp only [Bool.false_eq_true, false_iff]
    exact fun h2 => h h2.1
theorem nodup_take {o : List Int} : (∀ (i : Nat) x, o[i]? = some x → x ∉ o.take i) ↔ o.Nodup := by
  rw [List.Nodup, List.pairwise_iff_getElem]
  constructor
  · intro h i j hi hj hij e
    refine h j o[j] (List.getElem?_eq_getElem hj) ?_
    rw [← e]
    exact List.mem_iff_getElem.2 ⟨i, by simp; omega, by simp⟩
  · intro h i x hx hm
    obtain ⟨hi, rfl⟩ := List.getElem?_eq_some_iff.1 hx
    obtain ⟨j, hj, e⟩ := List.mem_iff_getElem.1 hm
    simp at hj e
    exact h j i (by omega) hi (by omega) e
theorem l15Order_is {n : Nat} {o : List Int} (hn : n ≤ 1048576) (ho : o.length ≤ 1048576) : Is (fun _ => spec_l15Order (n : Int) o) (ordP n o) := by
  unfold spec_l15Order
  refine Is.all (l := o) (Q := fun (i : Nat) (x : Int) => (0 ≤ x ∧ x < n) ∧ x ∉ o.take i) (by omega) (fun i x hx => ?_) (fun hq => ?_) (fun hq h => hq ?_)
  · have hi := (List.getElem?_eq_some_iff.1 hx).1
    have hs : sl o 0 (i : Int) = some (o.take i) := by
      unfold sl
      rw [if_pos ⟨by omega, by omega, by omega⟩]
      simp
    unfold spec_l15Order_b1
    by_cases hr : 0 ≤ x ∧ x < n
    · refine ⟨decide (x ∈ o.take i), Ev.bind (a := decide (x ∈ o.take i)) (Ev.iteF ?_ (Ev.bindp hs (Ev.bindp (l1Has_eq (by simp; omega) x) Ev.rfl))) ?_, by simp only [decide_eq_true_eq, hr, not_and, and_self, true_implies, Classical.not_not, forall_const]⟩
      · simp; omega
      · cases decide (x ∈ o.take i) <;> exact Ev.rfl
    · exact ⟨true, Ev.bind (a := true) (Ev.iteT (by simp; omega) Ev.rfl) Ev.rfl, by simp only [true_iff]; exact fun h => hr h.1⟩
  · unfold spec_l15Order_j1
    refine Is.of ?_
    simp only [decide_eq_true_eq]
    constructor
    · intro h
      exact ⟨by omega, nodup_take.1 fun i x hx => (hq i x hx).2, fun x hx => by
        obtain ⟨i, hi⟩ := List.getElem?_of_mem hx
        exact (hq i x hi).1⟩
    · intro h
      have := h.1
      omega
  · intro i x hx
    exact ⟨h.2.2 x (List.mem_of_getElem? hx), nodup_take.2 h.2.1 i x hx⟩
/-- What both ask ahead. -/
theorem ord_ev {l : List Call} {o : List Int} {F G : Nat → Option (Bool × Bool)} (hl : l.length ≤ 1048576) (ho : o.length ≤ 1048576) (hs : ∀ k, F k = (spec_GoodCalls l).bind fun v1 => ((if (!v1) = true then (some true) else ((spec_l15Order (List.length l : Int) o).bind fun v7 => (some (!v7)))).bind fun v7 => (if v7 = true then (some (false, false)) else G k)))
    {b : Bool} (hG : good l = true → ordP l.length o → Ev G (b, true)) : Ev F (if good l = true ∧ ordP l.length o then (b, true) else (false, false)) := by
  refine Ev.eqv ?_ hs
  refine Ev.bindp (GoodCalls_eq hl) ?_
  cases hg : good l with
  | false => exact Ev.bind (a := true) (Ev.iteT rfl Ev.rfl) (Ev.to (Ev.iteT rfl Ev.rfl) (by simp))
  | true =>
    obtain ⟨c, e, hc⟩ := l15Order_is (n := l.length) (o := o) (by omega) ho
    cases c with
    | true =>
      have hq := hc.1 rfl
      exact Ev.bind (a := false) (Ev.iteF rfl (Ev.bind e Ev.rfl)) (Ev.to (Ev.iteF rfl (hG hg hq)) (by rw [if_pos ⟨rfl, hq⟩]))
    | false =>
      have hq : ¬ ordP l.length o := fun h => by have := hc.2 h; cases this
      exact Ev.bind (a := true) (Ev.iteF rfl (Ev.bind e Ev.rfl)) (Ev.to (Ev.iteT rfl Ev.rfl) (by rw [if_neg (fun h => hq h.2)]))
theorem ord_ev' {l : List Call} {o : List Int} {F G : Nat → Option (Bool × Bool)} (hl : l.length ≤ 1048576) (ho : o.length ≤ 1048576) (hs : ∀ k, F k = (impl_areCalls l).bind fun v1 => ((if (!v1) = true then (some true) else ((impl_isOrder l o).bind fun v7 => (some (!v7)))).bind fun v7 => (if v7 = true then (some (false, false)) else G k)))
    {b : Bool} (hG : good l = true → ordP l.length o → Ev G (b, true)) : Ev F (if good l = true ∧ ordP l.length o then (b, true) else (false, false)) := by
  refine Ev.eqv ?_ hs
  rw [areCalls_eq]
  refine Ev.bindp (GoodCalls_eq hl) ?_
  cases hg : good l with
  | false => exact Ev.bind (a := true) (Ev.iteT rfl Ev.rfl) (Ev.to (Ev.iteT rfl Ev.rfl) (by simp))
  | true =>
    obtain ⟨c, e, hc⟩ := isOrder_is (l := l) (o := o) (by omega) ho
    cases c with
    | true =>
      have hq := hc.1 rfl
      exact Ev.bind (a := false) (Ev.iteF rfl (Ev.bind e Ev.rfl)) (Ev.to (Ev.iteF rfl (hG hg hq)) (by rw [if_pos ⟨rfl, hq⟩]))
    | false =>
      have hq : ¬ ordP l.length o := fun h => by have := hc.2 h; cases this
      exact Ev.bind (a := true) (Ev.iteF rfl (Ev.bind e Ev.rfl)) (Ev.to (Ev.iteT rfl Ev.rfl) (by rw [if_neg (fun h => hq h.2)]))
def ansL (l : List Call) (o : List Int) : Bool × Bool := if good l = true ∧ ordP l.length o then (legalB l o, true) else (false, false)
theorem IsLegal_s {l : List Call} {o : List Int} (hl : l.length ≤ 1048576) (ho : o.length ≤ 1048576) : Ev (fun k => spec_IsLegal l o) (ansL l o) := by
  refine Ev.to (ord_ev (b := legalB l o) (G := fun _ => (spec_l15Legal l o).bind fun v22 => (some (v22, true))) hl ho (fun k => rfl) (fun hg hq => ?_)) (by unfold ansL; congr)
  exact Ev.bindp (legal_spec (good_oks hg) hq.2.2 ho).1 Ev.rfl
theorem IsLegal_i {l : List Call} {o : List Int} (hl : l.length ≤ 1048576) (ho : o.length ≤ 1048576) : Ev (fun k => impl_IsLegal l o) (ansL l o) := by
  refine Ev.to (ord_ev' (b := legalB l o) (G := fun _ => (impl_isLegal l o).bind fun v22 => (some (v22, true))) hl ho (fun k => rfl) (fun hg hq => ?_)) (by unfold ansL; congr)
  exact Ev.bindp (legal_spec (good_oks hg) hq.2.2 ho).2 Ev.rfl
end Go.Proofs.Ytddkoiapboeemaa.X
