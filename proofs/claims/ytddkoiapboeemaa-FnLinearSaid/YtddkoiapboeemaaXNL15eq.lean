/- What IsSequential answers. -/
import Derived.Test.YtddkoiapboeemaaXNL15d
set_option linter.unusedVariables false
set_option linter.unusedSimpArgs false
namespace Go.Proofs.Ytddkoiapboeemaa.X
open Go

theorem good_begin {l : List Call} (h : good l = true) {i j : Nat} {x y : Call} (hij : i < j) (hx : l[i]? = some x) (hy : l[j]? = some y) (hc : x.Client = y.Client) : x.Begin ≠ y.Begin := by
  intro hb
  have hgx := good_call h (List.mem_of_getElem? hx)
  have hgy := good_call h (List.mem_of_getElem? hy)
  unfold good at h
  simp only [Bool.and_eq_true, Bool.not_eq_true', List.any_eq_false] at h
  have := h.1 (y, j) (by rw [List.mem_zipIdx_iff_getElem?]; exact hy)
  unfold badAt at this
  simp only [Bool.or_eq_true, Bool.not_eq_true', not_or, List.any_eq_true, not_exists] at this
  have := this.2 (x, i)
  rw [List.mem_zipIdx_iff_getElem?] at this
  simp only [List.getElem?_take, hij, if_true, hx, true_and, Bool.and_eq_true, decide_eq_true_eq] at this
  simp only [spec_l15Call, spec_l1In, Bool.and_eq_true, decide_eq_true_eq] at hgx hgy
  apply this
  omega
/-- What IsSequential asks of two places. -/
def relS (l : List Call) (a b : Int) : Bool := match l[a.toNat]?, l[b.toNat]? with
  | some x, some y => decide (x.Client ≠ y.Client) || decide (x.Begin < y.Begin)
  | _, _ => false
theorem may_seq {l : List Call} (a b : Int) (h0 : 0 ≤ a) (h1 : a < l.length) (h2 : 0 ≤ b) (h3 : b < l.length) : impl_IsSequential_1 a b l = some (relS l a b) := by
  obtain ⟨x, hx, hx'⟩ := geti_in h0 h1
  obtain ⟨y, hy, hy'⟩ := geti_in h2 h3
  unfold impl_IsSequential_1 relS
  simp only [hx, hy, hx', hy', Option.bind_some]
  by_cases h : x.Client = y.Client
  · simp [h]
  · simp [h]
theorem rel_seq {l : List Call} (hg : good l = true) (a b : Int) (h0 : 0 ≤ a) (h1 : a < l.length) (h2 : 0 ≤ b) (h3 : b < l.length) (hab : a ≠ b) : rel l true a b = relS l a b := by
  obtain ⟨x, hx, hx'⟩ := geti_in h0 h1
  obtain ⟨y, hy, hy'⟩ := geti_in h2 h3
  rw [rel_eq hx' hy']
  unfold relS
  rw [hx', hy']
  have hne : x.Client = y.Client → x.Begin ≠ y.Begin := by
    intro hc
    rcases Nat.lt_or_gt_of_ne (show a.toNat ≠ b.toNat by omega) with h | h
    · exact good_begin hg h hx' hy' hc
    · exact fun e => good_begin hg h hy' hx' hc.symm e.symm
  simp only [bef, if_true]
  rw [Bool.eq_iff_iff]
  simp only [Bool.not_eq_true', Bool.and_eq_false_imp, decide_eq_true_eq, decide_eq_false_iff_not, Bool.or_eq_true]
  constructor
  · intro h
    by_cases hc : x.Client = y.Client
    · exact .inr (by have := h hc.symm; have := hne hc; omega)
    · exact .inl hc
  · rintro (h | h) hc
    · exact absurd hc.symm h
    · omega
def seqAns (l : List Call) : Bool × Bool := if good l = true then ((best l.length (legalB l) (relS l) l.length []).isSome, true) else (false, false)
theorem spec_seq_ev {l : List Call} (hl : l.length ≤ 1048576) : Ev (fun k => spec_IsSequential k l) (seqAns l) := by
  refine Ev.eqv (F := fun k => (spec_GoodCalls l).bind fun v1 => (if (!v1) = true then (some (false, false)) else ((spec_l15Find k l [] true).bind fun v5 => (some ((decide ((v5.length : Int) = (l.length : Int))), true))))) ?_ (fun k => rfl)
  refine Ev.bindp (GoodCalls_eq hl) ?_
  unfold seqAns
  rcases Bool.eq_false_or_eq_true (good l) with h | h
  · rw [h]
    have h7 := good_len h
    refine Ev.iteF rfl ?_
    refine Ev.bind (a := (best l.length (legalB l) (rel l true) l.length []).getD []) ⟨l.length + 1, fun k hk => find_eq (good_oks h) (by omega) true l.length [] k (by simp) (fun x hx => by cases hx) List.nodup_nil List.Pairwise.nil (fun a ha => by cases ha) hk⟩ (Ev.of ?_)
    rw [if_pos rfl, best_len (legal_nil l), best_congr (rel_seq h)]
  · rw [h]
    exact Ev.iteT rfl Ev.rfl
theorem impl_seq_ev {l : List Call} (hl : l.length ≤ 1048576) : Ev (fun k => impl_IsSequential k l) (seqAns l) := by
  refine Ev.eqv (F := fun k => (impl_areCalls l).bind fun v7 => (if (!v7) = true then (some (false, false)) else ((impl_orderFor k l (fun a0 a1 => impl_IsSequential_1 a0 a1 l)).bind fun v11 => (some (v11.2, true))))) ?_ (fun k => rfl)
  refine Ev.bindp (a := good l) (by rw [areCalls_eq]; exact GoodCalls_eq hl) ?_
  unfold seqAns
  rcases Bool.eq_false_or_eq_true (good l) with h | h
  · rw [h]
    have h7 := good_len h
    refine Ev.iteF rfl ?_
    refine Ev.bind (a := match best l.length (legalB l) (relS l) l.length [] with | some o => (o, true) | none => ([], false)) ⟨l.length + 1, fun k hk => ?_⟩ (Ev.of ?_)
    · change impl_orderFor k l (fun a0 a1 => impl_IsSequential_1 a0 a1 l) = _
      unfold impl_orderFor
      rw [orderFor_1_eq (good_oks h) (by omega) (fun a b h0 h1 h2 h3 => may_seq a b h0 h1 h2 h3) l.length [] k (by simp) (fun x hx => by cases hx) List.nodup_nil List.Pairwise.nil (legal_nil l) hk]
      rfl
    · rw [if_pos rfl]
      cases best l.length (legalB l) (relS l) l.length [] <;> rfl
  · rw [h]
    exact Ev.iteT rfl Ev.rfl
end Go.Proofs.Ytddkoiapboeemaa.X
