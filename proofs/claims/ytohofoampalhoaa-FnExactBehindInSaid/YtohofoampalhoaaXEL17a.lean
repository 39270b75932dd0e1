/- Members, rows of a log, prefixes: what the specification asks and what the program asks is one. -/
import Derived.Test.YtohofoampalhoaaXED
import Derived.Test.YtohofoampalhoaaXLib3
set_option linter.unusedVariables false
set_option linter.unusedSimpArgs false
namespace Go.Proofs.Ytohofoampalhoaa.X
open Go

theorem not_all2 {α : Type} {A B C : α → Prop} (h : ¬ ∀ y, A y → B y → C y) : ∃ y, A y ∧ B y ∧ ¬ C y := by
  obtain ⟨y, hy⟩ := Classical.not_forall.1 h
  obtain ⟨h1, h2⟩ := Classical.not_imp.1 hy
  obtain ⟨h2, h3⟩ := Classical.not_imp.1 h2
  exact ⟨y, h1, h2, h3⟩
theorem prev_is {α : Type} {l : List α} {i : Nat} {g : α → Bool} (hl : l.length ≤ 4611686018427387904) (hi : i < l.length) : Is (fun _ => ((if (decide ((0 : Int) < (i : Int))) = true then ((geti l (IntKind.wrap .i64 ((i : Int) - 1))).bind fun x => (some (g x))) else (some false)).bind fun v => (some v))) (∃ y, 0 < i ∧ l[i - 1]? = some y ∧ g y = true) := by
  by_cases h : 0 < i
  · rw [if_pos (by simpa using h)]
    have hy : l[i - 1]? = some (l[i - 1]'(by omega)) := List.getElem?_eq_getElem _
    rw [show IntKind.wrap .i64 ((i : Int) - 1) = ((i - 1 : Nat) : Int) by rw [i64_id (by omega) (by omega)]; omega, geti_nat hy]
    exact Is.of ⟨fun e => ⟨_, h, hy, e⟩, fun ⟨y, _, e, e2⟩ => by rw [hy] at e; cases e; exact e2⟩
  · rw [if_neg (by simpa using h)]
    exact Is.F (fun ⟨y, h1, _⟩ => h h1)

def memP (l : List Int) (n : Int) : Prop := ∀ (i : Nat) (x : Int), l[i]? = some x → 0 ≤ x ∧ x < n ∧ ∀ y, 0 < i → l[i - 1]? = some y → y < x
theorem l6Group_is {l : List Int} {n : Int} (hl : l.length ≤ 4611686018427387904) : Is (fun _ => spec_l6Group l n) (memP l n) := by
  unfold spec_l6Group
  refine Is.all (Q := fun i x => 0 ≤ x ∧ x < n ∧ ∀ y, 0 < i → l[i - 1]? = some y → y < x) hl (fun i x hx => ?_) (fun h => Is.T h) (fun h => h)
  unfold spec_l6Group_b1
  refine body1 (Is.ite (fun hb => Is.T ?_) (fun hb => (prev_is hl (List.getElem?_eq_some_iff.1 hx).1).iff ?_))
  · simp at hb; rintro ⟨a, b, c⟩; omega
  · simp at hb
    constructor
    · rintro ⟨y, h1, h2, h3⟩ ⟨_, _, h4⟩
      have := h4 y h1 h2
      simp at h3
      omega
    · intro h
      simp only [not_and] at h
      obtain ⟨y, h1, h2, h3⟩ := not_all2 (h hb.1 hb.2)
      exact ⟨y, h1, h2, by simp; omega⟩
theorem areMembers_is {l : List Int} {n : Int} (hl : l.length ≤ 4611686018427387904) (h0 : 0 ≤ n) (h1 : n ≤ 4611686018427387904) : Is (fun _ => impl_areMembers l n) (memP l n) := by
  unfold impl_areMembers
  refine Is.all (Q := fun i x => 0 ≤ x ∧ x < n ∧ ∀ y, 0 < i → l[i - 1]? = some y → y < x) hl (fun i x hx => ?_) (fun h => Is.T h) (fun h => h)
  unfold impl_areMembers_b1
  rw [i64_id (n := n - 1) (by omega) (by omega)]
  refine body1 (Is.ite (fun hb => Is.T ?_) (fun hb => (prev_is hl (List.getElem?_eq_some_iff.1 hx).1).iff ?_))
  · simp [impl_in] at hb; rintro ⟨a, b, c⟩; omega
  · simp [impl_in] at hb
    constructor
    · rintro ⟨y, h1, h2, h3⟩ ⟨_, _, h4⟩
      have := h4 y h1 h2
      simp at h3
      omega
    · intro h
      simp only [not_and] at h
      obtain ⟨y, h1, h2, h3⟩ := not_all2 (h hb.1 (by omega))
      exact ⟨y, h1, h2, by simp; omega⟩
theorem l1Has_is {l : List Int} {v : Int} (hl : l.length ≤ 4611686018427387904) : Is (fun _ => spec_l1Has l v) (v ∈ l) := by
  unfold spec_l1Has
  refine (Is.any (Q := fun _ x => x = v) hl (fun i x hx => ?_)).iff ?_
  · unfold spec_l1Has_b1
    exact ite_body (by simp)
  · constructor
    · rintro ⟨i, x, h, rfl⟩; exact List.mem_of_getElem? h
    · intro h
      obtain ⟨i, hi⟩ := List.getElem?_of_mem h
      exact ⟨i, v, hi, rfl⟩
theorem Contains_int_is {l : List Int} {v : Int} (hl : l.length ≤ 4611686018427387904) : Is (fun _ => slices_Contains_int l v) (v ∈ l) := by
  unfold slices_Contains_int slices_Index_int
  rcases first_range (B := fun _ i x _ => slices_Index_int_b1 v i x) (Q := fun _ x => v = x) (f := fun i => (i : Int)) hl (fun i x hx => by unfold slices_Index_int_b1; exact ite_body (by simp)) with ⟨i, x, h1, rfl, h3, h4⟩ | ⟨h1, h2⟩
  · refine Is.bindv (Ev.jn_ret h4) (Is.of ?_)
    simp only [decide_eq_true_eq]
    exact ⟨fun _ => List.mem_of_getElem? h1, fun _ => by omega⟩
  · refine Is.bindv (Ev.jn h2 Ev.rfl) (Is.F ?_)
    intro h
    obtain ⟨i, hi⟩ := List.getElem?_of_mem h
    exact h1 i v hi rfl

/-! rows of a log -/
def rowsP (l : List Row) (most : Int) : Prop := (∀ (i : Nat) (x : Row), l[i]? = some x → 0 ≤ x.Epoch ∧ x.Epoch ≤ most ∧ 0 ≤ x.Value ∧ x.Value ≤ 99 ∧ ∀ y, 0 < i → l[i - 1]? = some y → y.Epoch ≤ x.Epoch) ∧ l.length ≤ 30
theorem l11Log_is {l : List Row} {n : Int} (hl : l.length ≤ 4611686018427387904) : Is (fun _ => spec_l11Log l n) (rowsP l n) := by
  unfold spec_l11Log
  refine Is.all (Q := fun (i : Nat) (x : Row) => 0 ≤ x.Epoch ∧ x.Epoch ≤ n ∧ 0 ≤ x.Value ∧ x.Value ≤ 99 ∧ ∀ y, 0 < i → l[i - 1]? = some y → y.Epoch ≤ x.Epoch) hl (fun i x hx => ?_) (fun h => Is.of ?_) (fun h h2 => h h2.1)
  · unfold spec_l11Log_b1
    by_cases he : (!(spec_l1In x.Epoch 0 n)) = true
    · refine ⟨true, ?_, ?_⟩
      · exact Ev.iteT he Ev.rfl
      · simp [spec_l1In] at he; simp only [true_iff]; rintro ⟨a, b, _⟩; omega
    · simp only [if_neg he]
      simp [spec_l1In] at he
      refine body1 (Is.ite (fun hb => Is.T ?_) (fun hb => (prev_is hl (List.getElem?_eq_some_iff.1 hx).1).iff ?_))
      · simp [spec_l1In] at hb; rintro ⟨_, _, a, b, _⟩; omega
      · simp [spec_l1In] at hb
        constructor
        · rintro ⟨y, h1, h2, h3⟩ ⟨_, _, _, _, h4⟩
          have := h4 y h1 h2
          simp at h3
          omega
        · intro h
          simp only [not_and] at h
          obtain ⟨y, h1, h2, h3⟩ := not_all2 (h he.1 he.2 hb.1 hb.2)
          exact ⟨y, h1, h2, by simp; omega⟩
  · unfold rowsP
    simp only [decide_eq_true_eq]
    exact ⟨fun e => ⟨h, by omega⟩, fun e => by have := e.2; omega⟩
theorem isRows_is {l : List Row} {n : Int} (hl : l.length ≤ 4611686018427387904) : Is (fun _ => impl_isRows l n) (rowsP l n) := by
  unfold impl_isRows
  have key : ∃ o : Oc Int Bool, rangeL (fun i3 x4 s53 => impl_isRows_b1 n i3 x4 s53) l 0 = some o ∧ ((∃ s, o = .nxt s) ∧ (∀ (i : Nat) (x : Row), l[i]? = some x → 0 ≤ x.Epoch ∧ x.Epoch ≤ n ∧ 0 ≤ x.Value ∧ x.Value ≤ 99 ∧ ∀ y, 0 < i → l[i - 1]? = some y → y.Epoch ≤ x.Epoch) ∨ o = .ret false ∧ ¬ (∀ (i : Nat) (x : Row), l[i]? = some x → 0 ≤ x.Epoch ∧ x.Epoch ≤ n ∧ 0 ≤ x.Value ∧ x.Value ≤ 99 ∧ ∀ y, 0 < i → l[i - 1]? = some y → y.Epoch ≤ x.Epoch)) := by
    have gen : ∀ (r : List Row) (i : Nat) (s : Int), l.drop i = r → 0 ≤ s → (∀ y, 0 < i → l[i - 1]? = some y → y.Epoch = s) → (i = 0 → s = 0) → (∀ (j : Nat) (x : Row), j < i → l[j]? = some x → 0 ≤ x.Epoch ∧ x.Epoch ≤ n ∧ 0 ≤ x.Value ∧ x.Value ≤ 99 ∧ ∀ y, 0 < j → l[j - 1]? = some y → y.Epoch ≤ x.Epoch) →
        ∃ o : Oc Int Bool, rangeG (fun i3 x4 s53 => impl_isRows_b1 n i3 x4 s53) r i s = some o ∧ ((∃ s, o = .nxt s) ∧ (∀ (i : Nat) (x : Row), l[i]? = some x → 0 ≤ x.Epoch ∧ x.Epoch ≤ n ∧ 0 ≤ x.Value ∧ x.Value ≤ 99 ∧ ∀ y, 0 < i → l[i - 1]? = some y → y.Epoch ≤ x.Epoch) ∨ o = .ret false ∧ ¬ (∀ (i : Nat) (x : Row), l[i]? = some x → 0 ≤ x.Epoch ∧ x.Epoch ≤ n ∧ 0 ≤ x.Value ∧ x.Value ≤ 99 ∧ ∀ y, 0 < i → l[i - 1]? = some y → y.Epoch ≤ x.Epoch)) := by
      intro r
      induction r with
      | nil =>
        intro i s hr h0 hs hz hp
        refine ⟨_, rfl, .inl ⟨⟨s, rfl⟩, fun j x hx => hp j x ?_ hx⟩⟩
        have hj : j < l.length := (List.getElem?_eq_some_iff.1 hx).1
        have := congrArg List.length hr
        simp at this
        omega
      | cons x r ih =>
        intro i s hr h0 hs hz hp
        have hx : l[i]? = some x := by have := congrArg (fun z => z[0]?) hr; simpa using this
        simp only [rangeG, impl_isRows_b1]
        by_cases hb : ((!(impl_in x.Epoch s n)) || (!(impl_in x.Value 0 99))) = true
        · simp only [if_pos hb]
          refine ⟨_, rfl, .inr ⟨rfl, fun h => ?_⟩⟩
          obtain ⟨a1, a2, a3, a4, a5⟩ := h i x hx
          simp [impl_in] at hb
          by_cases hi : i = 0
          · have := hz hi; omega
          · have hy : l[i - 1]? = some (l[i - 1]'(by have := (List.getElem?_eq_some_iff.1 hx).1; omega)) := List.getElem?_eq_getElem _
            have := a5 _ (by omega) hy
            have := hs _ (by omega) hy
            omega
        · simp only [if_neg hb]
          simp [impl_in] at hb
          refine ih (i + 1) x.Epoch (by have := congrArg (List.drop 1) hr; simpa [List.drop_drop] using this) (by omega) (fun y _ hy => by rw [Nat.add_sub_cancel, hx] at hy; cases hy; rfl) (by omega) (fun j y hj hy => ?_)
          rcases Nat.lt_or_ge j i with h1 | h1
          · exact hp j y h1 hy
          · have : j = i := by omega
            subst this
            rw [hx] at hy; cases hy
            exact ⟨by omega, by omega, by omega, by omega, fun z h2 h3 => by have := hs z h2 h3; omega⟩
    unfold rangeL
    rw [if_pos hl]
    exact gen l 0 0 (by simp) (by omega) (fun y h => by omega) (fun _ => rfl) (fun j x h => by omega)
  obtain ⟨o, e, ho⟩ := key
  rw [e]
  rcases ho with ⟨⟨s, rfl⟩, hq⟩ | ⟨rfl, hq⟩
  · refine Is.of ?_
    unfold rowsP
    simp only [decide_eq_true_eq]
    exact ⟨fun e => ⟨hq, by omega⟩, fun e => by have := e.2; omega⟩
  · exact Is.F (fun h => hq h.1)
theorem rowsP_take {l : List Row} {n m : Int} {k : Nat} (h : rowsP l n) (hm : n ≤ m) : rowsP (l.take k) m := by
  refine ⟨fun i x hx => ?_, by have := h.2; rw [List.length_take]; omega⟩
  have hi : i < k := by
    have := (List.getElem?_eq_some_iff.1 hx).1
    rw [List.length_take] at this; omega
  rw [List.getElem?_take_of_lt hi] at hx
  obtain ⟨a, b, c, d, e⟩ := h.1 i x hx
  refine ⟨a, by omega, c, d, fun y h1 h2 => e y h1 ?_⟩
  rwa [List.getElem?_take_of_lt (by omega)] at h2

/-! prefixes -/
theorem l11Same_ev {a b : List Row} (hl : a.length ≤ 1048576) : ∃ n : Nat, Ev (fun k => spec_l11Same k a b) (n : Int) ∧ n ≤ a.length ∧ n ≤ b.length ∧ a.take n = b.take n ∧ (n < a.length → n < b.length → a[n]? ≠ b[n]?) := by
  unfold spec_l11Same
  obtain ⟨o, e, n, rfl, h1, h2, h3, h4⟩ := Ev.loopQ (B := fun s58 => spec_l11Same_b1 a b s58) (s := 0) (fun o => ∃ n : Nat, o = .nxt (n : Int) ∧ n ≤ a.length ∧ n ≤ b.length ∧ a.take n = b.take n ∧ (n < a.length → n < b.length → a[n]? ≠ b[n]?)) (fun s => ∃ n : Nat, s = (n : Int) ∧ n ≤ a.length ∧ n ≤ b.length ∧ a.take n = b.take n) (fun s => a.length - s.toNat) ⟨0, rfl, by omega, by omega, by simp⟩ (fun s hs => by
    obtain ⟨n, rfl, h1, h2, h3⟩ := hs
    unfold spec_l11Same_b1
    by_cases hc : n < a.length ∧ n < b.length
    · have ha : a[n]? = some a[n] := List.getElem?_eq_getElem hc.1
      have hb : b[n]? = some b[n] := List.getElem?_eq_getElem hc.2
      rw [if_pos (by simp; omega), geti_nat ha, geti_nat hb]
      simp only [Option.bind_some]
      by_cases he : a[n] = b[n]
      · refine .inl ⟨((n + 1 : Nat) : Int), ?_, ⟨n + 1, rfl, by omega, by omega, ?_⟩, ?_⟩
        · rw [if_pos (by simp [he]), wadd (by omega)]
        · rw [List.take_add_one, List.take_add_one, h3, ha, hb, he]
        · simp only [Int.toNat_natCast]; omega
      · refine .inr (.inl ⟨(n : Int), ?_, n, rfl, h1, h2, h3, fun _ _ => by rw [ha, hb]; exact fun h => he (Option.some.inj h)⟩)
        rw [if_neg (fun h => he (by
          simp at h
          cases hh : a[n]; cases hh2 : b[n]
          rw [hh, hh2] at h
          simp at h
          rw [h.1, h.2]))]
    · rw [if_neg (by simp; omega)]
      exact .inr (.inl ⟨(n : Int), rfl, n, rfl, h1, h2, h3, fun x y => absurd ⟨x, y⟩ hc⟩))
  exact ⟨n, Ev.jn e Ev.rfl, h1, h2, h3, h4⟩
theorem l11Same_pre {a b : List Row} (hl : a.length ≤ 1048576) : Is (fun k => (spec_l11Same k a b).bind fun v => some (decide (v = (List.length a : Int)))) (a <+: b) := by
  obtain ⟨n, e, h1, h2, h3, h4⟩ := l11Same_ev (b := b) hl
  refine Is.bindv e (Is.of ?_)
  simp only [decide_eq_true_eq]
  constructor
  · intro h
    have : n = a.length := by omega
    subst this
    rw [List.take_length] at h3
    rw [h3]
    exact List.take_prefix _ _
  · rintro ⟨t, rfl⟩
    by_cases hn : n = a.length
    · rw [hn]
    · exfalso
      have hlt : n < a.length := by omega
      refine h4 hlt (by simp; omega) ?_
      rw [List.getElem?_append_left hlt]
theorem Equal_Row_is {a b : List Row} (hl : a.length ≤ 4611686018427387904) : Is (fun _ => slices_Equal_Row a b) (a = b) := by
  unfold slices_Equal_Row
  by_cases hab : a.length = b.length
  · rw [if_neg (by simp [hab])]
    refine Is.all (Q := fun i x => b[i]? = some x) hl (fun i x hx => ?_) (fun h => Is.T ?_) (fun h => ?_)
    · unfold slices_Equal_Row_b1
      have hi : i < b.length := by rw [← hab]; exact (List.getElem?_eq_some_iff.1 hx).1
      have hb : b[i]? = some b[i] := List.getElem?_eq_getElem hi
      rw [geti_nat hb]
      simp only [Option.bind_some]
      refine ite_body ?_
      rw [hb]
      cases x; cases hh : b[i]
      simp
      constructor
      · rintro (h | h) e1 e2
        · exact h e1.symm
        · exact h e2.symm
      · intro h
        refine Classical.byContradiction fun hn => ?_
        simp only [not_or, Classical.not_not] at hn
        exact h hn.1.symm hn.2.symm
    · apply List.ext_getElem?
      intro i
      by_cases hi : i < a.length
      · have ha : a[i]? = some a[i] := List.getElem?_eq_getElem hi
        rw [ha, h i _ ha]
      · rw [List.getElem?_eq_none (by omega), List.getElem?_eq_none (by omega)]
    · rintro rfl
      exact h (fun i x hx => hx)
  · rw [if_pos (by simp; omega)]
    exact Is.F (fun h => hab (by rw [h]))
end Go.Proofs.Ytohofoampalhoaa.X
