/- Plain facts on the laws' own walks: sizes, copies, comparisons, marks. -/
import Derived.Test.YtddkoiapboeemaaZLib
set_option linter.unusedVariables false
set_option linter.unusedSimpArgs false
namespace Go.Proofs.Ytddkoiapboeemaa.X
open Go
variable {α β σ ρ : Type}

/-- A loop whose round takes fuel. -/
theorem Ev.loopk {B : Nat → σ → Option (Oc σ ρ)} {o : Oc σ ρ} {s : σ} (R : σ → Prop) (m : σ → Nat) (hs : R s)
    (step : ∀ s, R s → (∃ s', Ev (fun k => B k s) (.nxt s') ∧ R s' ∧ m s' < m s) ∨ (∃ s', Ev (fun k => B k s) (.brk s') ∧ o = .nxt s') ∨ (∃ r, Ev (fun k => B k s) (.ret r) ∧ o = .ret r)) : Ev (fun k => loopF (B k) k s) o := by
  obtain ⟨o', h, e⟩ := Ev.loopQk (fun x => o = x) R m hs step
  subst e
  exact h
theorem wadd {n : Nat} (h : n < 4611686018427387904) : IntKind.wrap .i64 ((n : Int) + 1) = ((n + 1 : Nat) : Int) := by
  rw [i64_id (by omega) (by omega)]; rfl
def szr (n : Nat) (left : Int) : Int := if (n : Int) ≤ left then left - n else -1
theorem szr_flat {α : Type} {a : List α} {left : Int} (hl : a.length ≤ 4611686018427387904) (h0 : 0 ≤ left) (h1 : left ≤ 1048576) : (if (decide ((IntKind.wrap .i64 (left - (List.length a : Int))) < 0)) = true then (some (-1)) else (some (IntKind.wrap .i64 (left - (List.length a : Int))))) = some (szr a.length left) := by
  rw [i64_id (by omega) (by omega)]
  unfold szr
  by_cases h : (a.length : Int) ≤ left
  · rw [if_pos h, if_neg (by simp only [decide_eq_true_eq]; omega)]
  · rw [if_neg h, if_pos (by simp only [decide_eq_true_eq]; omega)]
theorem toS_evk {B : Nat → Int × List α → Option (Oc (Int × List α) ρ)} {l : List α} {z : α} (hl : l.length ≤ 1048576)
    (hB : ∀ (i : Nat) s x y, l[i]? = some x → s[i]? = some y → Ev (fun k => B k ((i : Int), s)) (.nxt (((i + 1 : Nat) : Int), s.set i x)))
    (hE : ∀ s, Ev (fun k => B k ((l.length : Int), s)) (.brk ((l.length : Int), s))) : Ev (fun k => loopF (B k) k (0, List.replicate l.length z)) (.nxt ((l.length : Int), l)) := by
  refine Ev.loopk (fun st => ∃ i : Nat, st.1 = i ∧ i ≤ l.length ∧ st.2.length = l.length ∧ st.2.take i = l.take i) (fun st => l.length - st.1.toNat) ⟨0, by simp⟩ ?_
  rintro ⟨i', s⟩ ⟨i, rfl, hi, hs, ht⟩
  simp only at hs ht hi ⊢
  by_cases h : i < l.length
  · have hi' : i < s.length := by omega
    refine .inl ⟨_, hB i s l[i] s[i] (by simp [h]) (by simp [hi']), ⟨i + 1, rfl, by omega, by simp [hs], ?_⟩, ?_⟩
    · rw [List.take_add_one, List.take_add_one]
      simp [List.take_set_of_le, ht, h, hs]
    · simp only [Int.toNat_natCast]; omega
  · have : i = l.length := by omega
    subst this
    refine .inr (.inl ⟨_, hE s, ?_⟩)
    have : s = l := by rw [List.take_length, ← hs, List.take_length] at ht; exact ht
    rw [this]
theorem mkN_ok {b : Nat} {n : Nat} {z : α} (h : n * b ≤ 140737488355328) : mkN b (n : Int) z = some (List.replicate n z) := by
  unfold mkN
  rw [if_pos ⟨by omega, by rw [← Int.natCast_mul]; exact Int.ofNat_le.2 h⟩, Int.toNat_natCast]

theorem eqS_evk [DecidableEq α] {B : Nat → Int → Option (Oc Int Bool)} {a b : List α} (hl : a.length ≤ 1048576) (hab : a.length = b.length)
    (hB : ∀ (i : Nat) x y, a[i]? = some x → b[i]? = some y → Ev (fun k => B k (i : Int)) (if x = y then .nxt ((i + 1 : Nat) : Int) else .ret false))
    (hE : Ev (fun k => B k (a.length : Int)) (.brk (a.length : Int))) : Ev (fun k => loopF (B k) k 0) (if a = b then .nxt (a.length : Int) else .ret false) := by
  refine Ev.loopk (fun st => ∃ i : Nat, st = i ∧ i ≤ a.length ∧ a.take i = b.take i) (fun st => a.length - st.toNat) ⟨0, by simp⟩ ?_
  rintro st ⟨i, rfl, hi, ht⟩
  by_cases h : i < a.length
  · have hb : i < b.length := by omega
    have := hB i a[i] b[i] (by simp [h]) (by simp [hb])
    by_cases e : a[i] = b[i]
    · rw [if_pos e] at this
      refine .inl ⟨_, this, ⟨i + 1, rfl, by omega, ?_⟩, by simp only [Int.toNat_natCast]; omega⟩
      rw [List.take_add_one, List.take_add_one, ht]
      simp [h, hb, e]
    · rw [if_neg e] at this
      refine .inr (.inr ⟨_, this, ?_⟩)
      rw [if_neg (fun hh => e (by subst hh; rfl))]
  · have : i = a.length := by omega
    subst this
    refine .inr (.inl ⟨_, hE, ?_⟩)
    rw [if_pos]
    rwa [List.take_length, hab, List.take_length] at ht
theorem eqL_ev [DecidableEq α] {F : Nat → Option (Oc Int Bool)} {a b : List α} (h : a.length = b.length → Ev F (if a = b then .nxt (a.length : Int) else .ret false)) :
    Ev (fun k => if (decide ((List.length a : Int) ≠ (List.length b : Int))) = true then (some false) else (jn (F k) (fun s => some true))) (decide (a = b)) := by
  by_cases hab : a.length = b.length
  · refine Ev.iteF (by simp [hab]) ?_
    have h := h hab
    by_cases e : a = b
    · rw [if_pos e] at h
      rw [decide_eq_true e]
      exact Ev.jn h Ev.rfl
    · rw [if_neg e] at h
      rw [decide_eq_false e]
      exact Ev.jn_ret h
  · refine Ev.iteT (by simp only [ne_eq, decide_eq_true_eq]; omega) ?_
    rw [decide_eq_false (fun e => hab (by rw [e]))]
    exact Ev.rfl
theorem eq_iteI {a b : Int} {G : Nat → Option Bool} {p : Prop} [Decidable p] (h : Ev G (decide p)) : Ev (fun k => if (decide (a ≠ b)) = true then some false else G k) (decide (a = b ∧ p)) := by
  by_cases e : a = b
  · refine Ev.iteF (by simp [e]) ?_
    rwa [show decide (a = b ∧ p) = decide p by simp [e]]
  · refine Ev.iteT (by simp [e]) ?_
    rw [show decide (a = b ∧ p) = false by simp [e]]
    exact Ev.rfl
theorem eq_iteB {a b : Bool} {G : Nat → Option Bool} {p : Prop} [Decidable p] (h : Ev G (decide p)) : Ev (fun k => if (!(a == b)) = true then some false else G k) (decide (a = b ∧ p)) := by
  by_cases e : a = b
  · refine Ev.iteF (by simp [e]) ?_
    rwa [show decide (a = b ∧ p) = decide p by simp [e]]
  · refine Ev.iteT (by simp [e]) ?_
    rw [show decide (a = b ∧ p) = false by simp [e]]
    exact Ev.rfl
theorem eq_end : Ev (fun _ => some true) (decide True) := Ev.rfl
theorem eq_done {F : Nat → Option Bool} {p q : Prop} [Decidable p] [Decidable q] (h : Ev F (decide p)) (e : p ↔ q) : Ev F (decide q) := by
  rwa [show decide q = decide p by simp [e]]
theorem Ev.to {F : Nat → Option α} {r r' : α} (h : Ev F r) (e : r = r') : Ev F r' := e ▸ h

theorem szr_law {F : Nat → Option Int} {G : Nat → Int → Option Bool} {n : Nat} {left : Int} (h : Ev F (szr n left)) (hG : (n : Int) ≤ left → 0 ≤ left - n → Ev (fun k => G k (left - n)) true) (h0 : 0 ≤ left) : Ev (fun k => (F k).bind fun v => if (decide (v < 0)) = true then (some true) else G k v) true := by
  refine Ev.bind h ?_
  unfold szr
  by_cases hc : (n : Int) ≤ left
  · rw [if_pos hc]
    exact Ev.iteF (by simp only [decide_eq_false_iff_not]; omega) (hG hc (by omega))
  · rw [if_neg hc]
    exact Ev.iteT (by decide) Ev.rfl
theorem iteS {G : Nat → Option Bool} {c : Bool} (h : c = false → Ev G true) : Ev (fun k => if c = true then (some true) else G k) true := by
  cases c with
  | true => exact Ev.iteT rfl Ev.rfl
  | false => exact Ev.iteF rfl (h rfl)
end Go.Proofs.Ytddkoiapboeemaa.X
