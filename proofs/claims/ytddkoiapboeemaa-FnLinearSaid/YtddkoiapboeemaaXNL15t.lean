/- Orders in time. -/
import Derived.Test.YtddkoiapboeemaaXNL15d
set_option linter.unusedVariables false
set_option linter.unusedSimpArgs false
namespace Go.Proofs.Ytddkoiapboeemaa.X
open Go

/-- What IsLinear asks of two places. -/
def relT (l : List Call) (a b : Int) : Bool := match l[a.toNat]?, l[b.toNat]? with
  | some x, some y => decide (x.Begin < y.End)
  | _, _ => false
theorem may_time {l : List Call} (a b : Int) (h0 : 0 ≤ a) (h1 : a < l.length) (h2 : 0 ≤ b) (h3 : b < l.length) : impl_byTime_1 a b l = some (relT l a b) := by
  obtain ⟨x, hx, hx'⟩ := geti_in h0 h1
  obtain ⟨y, hy, hy'⟩ := geti_in h2 h3
  unfold impl_byTime_1 relT
  simp only [hx, hy, hx', hy', Option.bind_some]
theorem rel_time {l : List Call} (a b : Int) (h0 : 0 ≤ a) (h1 : a < l.length) (h2 : 0 ≤ b) (h3 : b < l.length) (hab : a ≠ b) : rel l false a b = relT l a b := by
  obtain ⟨x, hx, hx'⟩ := geti_in h0 h1
  obtain ⟨y, hy, hy'⟩ := geti_in h2 h3
  rw [rel_eq hx' hy']
  unfold relT
  rw [hx', hy']
  simp only [bef, Bool.false_eq_true, if_false]
  rw [Bool.eq_iff_iff]
  simp only [Bool.not_eq_true', decide_eq_true_eq, decide_eq_false_iff_not]
  omega
def timeBest (l : List Call) : Option (List Int) := best l.length (legalB l) (relT l) l.length []
theorem find_time {l : List Call} (h : good l = true) : Ev (fun k => spec_l15Find k l [] false) ((timeBest l).getD []) := by
  have h7 := good_len h
  refine ⟨l.length + 1, fun k hk => ?_⟩
  have := find_eq (good_oks h) (by omega) false l.length [] k (by simp) (fun x hx => by cases hx) List.nodup_nil List.Pairwise.nil (fun a ha => by cases ha) hk
  rw [best_congr rel_time] at this
  exact this
theorem order_time {l : List Call} (h : good l = true) : Ev (fun k => impl_orderFor k l (fun a0 a1 => impl_byTime_1 a0 a1 l)) (match timeBest l with | some o => (o, true) | none => ([], false)) := by
  have h7 := good_len h
  refine ⟨l.length + 1, fun k hk => ?_⟩
  change impl_orderFor k l (fun a0 a1 => impl_byTime_1 a0 a1 l) = _
  unfold impl_orderFor
  rw [orderFor_1_eq (good_oks h) (by omega) (fun a b h0 h1 h2 h3 => may_time a b h0 h1 h2 h3) l.length [] k (by simp) (fun x hx => by cases hx) List.nodup_nil List.Pairwise.nil (legal_nil l) hk]
  rfl
end Go.Proofs.Ytddkoiapboeemaa.X
