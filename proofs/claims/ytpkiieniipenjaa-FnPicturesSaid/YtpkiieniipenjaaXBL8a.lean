/- Pictures of worlds: copies, new worlds. -/
import Derived.Test.YtpkiieniipenjaaXBK
import Derived.Test.YtpkiieniipenjaaZLib3
import Derived.WalkKit
set_option linter.unusedVariables false
set_option linter.unusedSimpArgs false
namespace Go.Proofs.Ytpkiieniipenjaa.X
open Go

theorem appN_nil {α : Type} {b : Nat} {l : List α} (h : l.length * b ≤ 70368744177664) : appN b ([] : List α) l = some l := by
  unfold appN
  rw [if_pos (by simpa using h)]
  simp
theorem get_lt {α : Type} {l : List α} {i : Nat} (h : i < l.length) : ∃ x, l[i]? = some x := ⟨l[i], List.getElem?_eq_getElem h⟩
theorem sn_nn {s : Snap} (h : s.nn ≤ 1048576) : s.Amounts.length ≤ 1048576 ∧ s.Chans.length ≤ 1048576 ∧ s.Pictures.length ≤ 1048576 ∧ (∀ (i : Nat) (x : Chan), s.Chans[i]? = some x → x.Way.length ≤ 1048576) ∧ ∀ (i : Nat) (x : Picture), s.Pictures[i]? = some x → x.In.length ≤ 1048576 ∧ x.Closed.length ≤ 1048576 := by
  have hh : s.Amounts.length + (nnL Chan.nn s.Chans + (nnL Picture.nn s.Pictures + 0)) ≤ 1048576 := h
  have h1 := nnL_len (f := Chan.nn) (l := s.Chans)
  have h2 := nnL_len (f := Picture.nn) (l := s.Pictures)
  refine ⟨by omega, by omega, by omega, fun i x hx => ?_, fun i x hx => ?_⟩
  · have := nnL_get (f := Chan.nn) hx
    have h3 : x.nn = x.Way.length + 0 := rfl
    omega
  · have := nnL_get (f := Picture.nn) hx
    have h3 : x.nn = x.In.length + (x.Closed.length + 0) := rfl
    omega
/-- A row built anew, element by element. -/
theorem grow_loop {α σ ρ : Type} {B : Nat → α → σ → Option (Oc σ ρ)} {l : List α} {mk : List α → σ} (hl : l.length ≤ 1048576) (hB : ∀ i x, l[i]? = some x → B i x (mk (l.take i)) = some (.nxt (mk (l.take i ++ [x])))) : Ev (fun _ => rangeL B l (mk [])) (.nxt (mk l)) := by
  refine rangeL_Ev (B := fun _ => B) (by omega) (fun i q s => l.drop i = q ∧ s = mk (l.take i)) ⟨rfl, by simp⟩ (fun i x q s ⟨hq, hs⟩ => .inl ?_) (fun i s ⟨hq, hs⟩ => ?_)
  · subst hs
    have hx : l[i]? = some x := by have := congrArg (fun z => z[0]?) hq; simpa using this
    refine ⟨_, Ev.of (hB i x hx), by have := congrArg (List.drop 1) hq; simpa [List.drop_drop] using this, ?_⟩
    rw [List.take_add_one, hx]
    rfl
  · subst hs
    have hi : l.length ≤ i := by have := congrArg List.length hq; simp at this; omega
    rw [List.take_of_length_le hi]
theorem own_spec {s : Snap} (h : s.nn ≤ 1048576) : Ev (fun _ => spec_l8Own s) s := by
  obtain ⟨h1, h2, h3, h4, h5⟩ := sn_nn h
  unfold spec_l8Own
  refine Ev.bindp (appN_nil (by omega)) (Ev.jn (grow_loop (mk := fun r => (⟨s.Amounts, r, [], s.Sent, s.Total⟩ : Snap)) h2 (fun i x hx => ?_)) ?_)
  · have := h4 i x hx
    unfold spec_l8Own_b1
    rw [appN_nil (by omega), Option.bind_some]
    unfold appN
    rw [if_pos (by dsimp only; rw [List.length_take]; simp; omega)]
    rfl
  · unfold spec_l8Own_j2
    dsimp only
    refine Ev.jn (grow_loop (mk := fun r => (⟨s.Amounts, s.Chans, r, s.Sent, s.Total⟩ : Snap)) h3 (fun i x hx => ?_)) Ev.rfl
    obtain ⟨a, b⟩ := h5 i x hx
    unfold spec_l8Own_b2
    rw [appN_nil (by omega), Option.bind_some, appN_nil (by omega), Option.bind_some]
    unfold appN
    rw [if_pos (by dsimp only; rw [List.length_take]; simp; omega)]
    rfl
/-- A new world. -/
def chansOf (p : Nat) : List Chan := (List.range p).flatMap fun (a : Nat) => ((List.range p).filter fun (b : Nat) => decide (a ≠ b)).map fun (b : Nat) => ⟨(a : Int), (b : Int), []⟩
def newS (p : Nat) (a : Int) : Snap := ⟨List.replicate p a, chansOf p, List.replicate p ⟨false, 0, List.replicate p 0, List.replicate p false⟩, 0, (p : Int) * a⟩
theorem up10 {α : Type} {F : Nat → Option α} {r : α} (h : ∀ k, F (k + 10) = some r) : Ev F r := ⟨10, fun k hk => by
  obtain ⟨j, rfl⟩ : ∃ j, k = j + 10 := ⟨k - 10, by omega⟩
  exact h j⟩
theorem mul_ok {n a : Int} (h1 : 2 ≤ n) (h2 : n ≤ 4) (ha : 0 ≤ a ∧ a ≤ 250) : IntKind.wrap .i64 (n * a) = n * a := by
  have h3 : 0 ≤ n * a := Int.mul_nonneg (by omega) ha.1
  have h4 : n * a ≤ 4 * 250 := Int.mul_le_mul h2 ha.2 ha.1 (by omega)
  exact i64_id (by omega) (by omega)
theorem in_ok {n a : Int} (h1 : 2 ≤ n ∧ n ≤ 4) (ha : 0 ≤ a ∧ a ≤ 250) : ((!(spec_l1In n 2 4)) || (!(spec_l1In a 0 250))) = false := by
  simp only [spec_l1In, Bool.or_eq_false_iff, Bool.not_eq_false', Bool.and_eq_true, decide_eq_true_eq]; omega
theorem new_s2 {a : Int} (ha : 0 ≤ a ∧ a ≤ 250) : Ev (fun k => spec_NewSnap k 2 a) (newS 2 a, true) := by
  unfold spec_NewSnap
  refine Ev.iteF (in_ok (by omega) ha) ?_
  rw [mul_ok (n := 2) (by omega) (by omega) ha]
  exact up10 (fun k => rfl)
theorem new_i2 {a : Int} (ha : 0 ≤ a ∧ a ≤ 250) : Ev (fun _ => impl_newSnap 2 a) (newS 2 a) := by
  unfold impl_newSnap
  rw [mul_ok (n := 2) (by omega) (by omega) ha]
  exact Ev.of rfl
theorem new_s3 {a : Int} (ha : 0 ≤ a ∧ a ≤ 250) : Ev (fun k => spec_NewSnap k 3 a) (newS 3 a, true) := by
  unfold spec_NewSnap
  refine Ev.iteF (in_ok (by omega) ha) ?_
  rw [mul_ok (n := 3) (by omega) (by omega) ha]
  exact up10 (fun k => rfl)
theorem new_i3 {a : Int} (ha : 0 ≤ a ∧ a ≤ 250) : Ev (fun _ => impl_newSnap 3 a) (newS 3 a) := by
  unfold impl_newSnap
  rw [mul_ok (n := 3) (by omega) (by omega) ha]
  exact Ev.of rfl
theorem new_s4 {a : Int} (ha : 0 ≤ a ∧ a ≤ 250) : Ev (fun k => spec_NewSnap k 4 a) (newS 4 a, true) := by
  unfold spec_NewSnap
  refine Ev.iteF (in_ok (by omega) ha) ?_
  rw [mul_ok (n := 4) (by omega) (by omega) ha]
  exact up10 (fun k => rfl)
theorem new_i4 {a : Int} (ha : 0 ≤ a ∧ a ≤ 250) : Ev (fun _ => impl_newSnap 4 a) (newS 4 a) := by
  unfold impl_newSnap
  rw [mul_ok (n := 4) (by omega) (by omega) ha]
  exact Ev.of (by kernel_rfl)
theorem new_ok (p a : Int) : (∃ n : Nat, p = n ∧ (2 ≤ n ∧ n ≤ 4) ∧ (0 ≤ a ∧ a ≤ 250) ∧ Ev (fun k => spec_NewSnap k p a) (newS n a, true) ∧ Ev (fun _ => impl_newSnap p a) (newS n a)) ∨ (¬ ((2 ≤ p ∧ p ≤ 4) ∧ (0 ≤ a ∧ a ≤ 250)) ∧ Ev (fun k => spec_NewSnap k p a) (⟨[], [], [], 0, 0⟩, false)) := by
  by_cases h : (2 ≤ p ∧ p ≤ 4) ∧ (0 ≤ a ∧ a ≤ 250)
  · refine .inl ?_
    obtain ⟨hp, ha⟩ := h
    have : p = 2 ∨ p = 3 ∨ p = 4 := by omega
    rcases this with rfl | rfl | rfl
    · exact ⟨2, rfl, by omega, ha, new_s2 ha, new_i2 ha⟩
    · exact ⟨3, rfl, by omega, ha, new_s3 ha, new_i3 ha⟩
    · exact ⟨4, rfl, by omega, ha, new_s4 ha, new_i4 ha⟩
  · refine .inr ⟨h, ?_⟩
    unfold spec_NewSnap
    refine Ev.iteT ?_ Ev.rfl
    simp only [spec_l1In, Bool.or_eq_true, Bool.not_eq_true', Bool.and_eq_false_iff, decide_eq_false_iff_not]
    omega
end Go.Proofs.Ytpkiieniipenjaa.X
