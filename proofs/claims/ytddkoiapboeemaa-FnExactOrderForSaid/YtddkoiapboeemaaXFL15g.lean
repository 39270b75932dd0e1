/- OrderFor's law, plain. -/
import Derived.Test.YtddkoiapboeemaaXFL15t
import Derived.Test.YtddkoiapboeemaaXFL15m
import Derived.Test.YtddkoiapboeemaaXFW
set_option linter.unusedVariables false
set_option linter.unusedSimpArgs false
namespace Go.Proofs.Ytddkoiapboeemaa.X
open Go

theorem eqIntS_ev {a b : List Int} (hl : a.length ≤ 1048576) : Ev (fun k => laws_eqIntS k a b) (decide (a = b)) := by
  refine Ev.eqv (F := fun k => if (decide ((a.length : Int) ≠ (b.length : Int))) = true then some false else jn (loopF (fun s41 => laws_eqIntS_b1 a b s41) k 0) (fun s49 => laws_eqIntS_j1 s49)) ?_ (fun k => rfl)
  by_cases hab : a.length = b.length
  · refine Ev.iteF (by simp [hab]) ?_
    have hL := eqS_ev (B := fun s41 => laws_eqIntS_b1 a b s41) hl hab (fun i x y hx hy => ?_) ?_
    · by_cases e : a = b
      · rw [if_pos e] at hL
        rw [decide_eq_true e]
        exact Ev.jn hL Ev.rfl
      · rw [if_neg e] at hL
        rw [decide_eq_false e]
        exact Ev.jn_ret hL
    · have : i < a.length := (List.getElem?_eq_some_iff.1 hx).1
      simp only [laws_eqIntS_b1]
      rw [if_pos (by simpa using this), geti_nat hx, Option.bind_some, geti_nat hy, Option.bind_some]
      by_cases e : x = y <;> simp [e]
    · simp [laws_eqIntS_b1]
  · refine Ev.iteT (by simp only [ne_eq, decide_eq_true_eq]; omega) ?_
    rw [decide_eq_false (fun e => hab (by rw [e]))]
    exact Ev.rfl
theorem markIntS_ev {l : List Int} (hl : l.length ≤ 1048576) : Ev (fun k => laws_markIntS k l 1) (((1 + 1 * l.length : Nat) : Int), marked (1 : Nat) (fun n => n) (1 : Nat) l.length) := by
  refine Ev.eqv (F := fun k => jn (loopF (fun s45 => laws_markIntS_b1 s45.1 s45.2.1 s45.2.2) k (1, 0, l)) (fun s57 => laws_markIntS_j1 s57.1 s57.2.1 s57.2.2)) ?_ (fun k => rfl)
  refine Ev.jn (markS_ev (c := 1) (M := fun n => n) (n0 := 1) hl (by omega) (by omega) (fun n i s x hn hi hx hs => ?_) (fun n s hs => ?_)) (Ev.of rfl)
  · simp only [laws_markIntS_b1]
    rw [if_pos (by rw [hs]; simpa using hi), geti_nat hx, Option.bind_some]
    simp (disch := omega) only [i64_id, Int.toNat_natCast]
    congr 4
  · simp only [laws_markIntS_b1]
    rw [if_neg (by rw [hs]; simp)]
theorem heldIntS_ev {m : Nat} (hl : m ≤ 1048576) : Ev (fun k => laws_heldIntS k (marked (1 : Nat) (fun n => n) (1 : Nat) m) 1) ((1 + 1 * m : Nat) : Int) := by
  refine Ev.eqv (F := fun k => jn (loopF (fun s36 => laws_heldIntS_b1 (marked (1 : Nat) (fun n => n) (1 : Nat) m) s36.1 s36.2) k (1, 0)) (fun s45 => laws_heldIntS_j1 s45.1 s45.2)) ?_ (fun k => rfl)
  refine Ev.jn (heldS_ev (c := 1) (n0 := 1) hl (by omega) (by omega) (fun i hi => ?_) (fun n => ?_)) (Ev.of rfl)
  · simp only [laws_heldIntS_b1, marked_length]
    rw [if_pos (by simpa using hi), geti_nat (marked_get m hi)]
    simp only [Option.bind_some]
    have e : ((1 : Nat) : Int) + ((1 : Nat) : Int) * (i : Int) = ((1 + 1 * i : Nat) : Int) := by omega
    rw [e, if_neg (by simp)]
    rw [i64_id (n := ((1 + 1 * i : Nat) : Int) + 1) (by omega) (by omega), i64_id (n := (i : Int) + 1) (by omega) (by omega)]
    congr 2
  · simp only [laws_heldIntS_b1, marked_length]
    rw [if_neg (by simp)]
def ordAns (l : List Call) : List Int × Bool := if good l = true then (match timeBest l with | some o => (o, true) | none => ([], false)) else ([], false)
theorem ordAns_len (l : List Call) : (ordAns l).1.length ≤ l.length := by
  unfold ordAns
  split
  · cases hb : timeBest l with
    | some o => exact Nat.le_of_eq (best_some _ _ _ hb).1.1
    | none => simp
  · simp
theorem spec_ord_ev {l : List Call} (hl : l.length ≤ 1048576) : Ev (fun k => spec_OrderFor k l) (ordAns l) := by
  refine Ev.eqv (F := fun k => (spec_GoodCalls l).bind fun v1 => (if (!v1) = true then (some (([] : List Int), false)) else ((spec_l15Find k l [] false).bind fun v5 => (if (decide ((v5.length : Int) ≠ (l.length : Int))) = true then (some ([], false)) else (some (v5, true)))))) ?_ (fun k => rfl)
  refine Ev.bindp (GoodCalls_eq hl) ?_
  unfold ordAns
  rcases Bool.eq_false_or_eq_true (good l) with h | h
  · rw [h]
    refine Ev.iteF rfl ?_
    refine Ev.bind (find_time h) (Ev.of ?_)
    have hlen := best_len (R := relT l) (n := l.length) (legal_nil l)
    rw [if_pos rfl]
    unfold timeBest
    cases hb : best l.length (legalB l) (relT l) l.length [] with
    | some o =>
      rw [hb] at hlen
      rw [if_neg]
      · rfl
      · simp only [Option.isSome_some, decide_eq_true_eq] at hlen
        simp only [Option.getD_some] at hlen
        simp [hlen]
    | none =>
      rw [hb] at hlen
      rw [if_pos]
      simp only [Option.isSome_none, decide_eq_false_iff_not] at hlen
      simpa using hlen
  · rw [h]
    exact Ev.iteT rfl Ev.rfl
theorem impl_ord_ev {l : List Call} (hl : l.length ≤ 1048576) : Ev (fun k => impl_OrderFor k l) (ordAns l) := by
  refine Ev.eqv (F := fun k => (impl_areCalls l).bind fun v1 => (if (!v1) = true then (some (([] : List Int), false)) else ((impl_orderFor k l (fun a0 a1 => impl_byTime_1 a0 a1 l)).bind fun v5 => (some (v5.1, v5.2))))) ?_ (fun k => rfl)
  refine Ev.bindp (a := good l) (by rw [areCalls_eq]; exact GoodCalls_eq hl) ?_
  unfold ordAns
  rcases Bool.eq_false_or_eq_true (good l) with h | h
  · rw [h]
    refine Ev.iteF rfl ?_
    refine Ev.bind (order_time h) (Ev.of ?_)
    rw [if_pos rfl]
    cases timeBest l <;> rfl
  · rw [h]
    exact Ev.iteT rfl Ev.rfl
theorem OrderFor_pure (l : List Call) (w : wfL 48 Call.wf l) : ∃ k, laws_FnExactOrderFor k l = some true := by
  have hl := w.1
  suffices h : Ev (fun k => laws_FnExactOrderFor k l) true by
    obtain ⟨K, h⟩ := h
    exact ⟨K, h K (Nat.le_refl _)⟩
  unfold laws_FnExactOrderFor
  refine Ev.bindp (szCallS_some (by omega)) ?_
  by_cases hs : (1048576 : Int) < l.length
  · rw [if_pos hs]
    exact Ev.iteT rfl Ev.rfl
  · rw [if_neg hs]
    have hl : l.length ≤ 1048576 := by omega
    have hr : (ordAns l).1.length ≤ 1048576 := Nat.le_trans (ordAns_len l) hl
    have hsp := spec_ord_ev hl
    have him := impl_ord_ev hl
    generalize ordAns l = R at hr hsp him
    obtain ⟨r, b⟩ := R
    simp only at hr
    refine Ev.iteF (by simp only [decide_eq_false_iff_not]; omega) ?_
    refine Ev.bind (toCallS_ev hl) ?_
    refine Ev.bind hsp ?_
    refine Ev.bind (toCallS_ev hl) ?_
    refine Ev.bind him ?_
    refine Ev.bind (eqIntS_ev hr) ?_
    refine Ev.iteF (by simp) ?_
    refine Ev.bind (toCallS_ev hl) ?_
    refine Ev.bind (eqCallS_ev hl) ?_
    refine Ev.iteF (by simp) ?_
    refine Ev.bind (markCallS_ev hl) ?_
    refine Ev.bind (a := false) (Ev.iteF (by simp only [decide_eq_false_iff_not]; omega) (Ev.bind (eqIntS_ev hr) (Ev.of (by simp)))) ?_
    refine Ev.iteF (by simp) ?_
    refine Ev.bind (markIntS_ev hr) ?_
    refine Ev.bind (heldIntS_ev hr) ?_
    refine Ev.iteF (by simp only [decide_eq_false_iff_not]; omega) ?_
    refine Ev.iteF (by simp) ?_
    refine Ev.bind (toCallS_ev hl) ?_
    refine Ev.bind him ?_
    refine Ev.bind (eqIntS_ev hr) ?_
    refine Ev.iteF (by simp) ?_
    refine Ev.bind (heldIntS_ev hr) ?_
    refine Ev.iteF (by simp only [decide_eq_false_iff_not]; omega) ?_
    refine Ev.iteF (by simp) ?_
    exact Ev.rfl
end Go.Proofs.Ytddkoiapboeemaa.X
