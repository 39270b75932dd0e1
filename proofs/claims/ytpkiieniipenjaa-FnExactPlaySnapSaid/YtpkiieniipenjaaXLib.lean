/- Plain facts on the loops of plain functions. -/
import Derived.Test.YtpkiieniipenjaaXP
set_option linter.unusedVariables false
set_option linter.unusedSimpArgs false
namespace Go.Proofs.Ytpkiieniipenjaa.X
open Go
variable {α β σ ρ : Type}

/-- From some fuel on, the answer. -/
def Ev (F : Nat → Option α) (r : α) : Prop := ∃ K, ∀ k, K ≤ k → F k = some r
theorem Ev.of {x : Option α} {r : α} (h : x = some r) : Ev (fun _ => x) r := ⟨0, fun _ _ => h⟩
theorem Ev.rfl {r : α} : Ev (fun _ => some r) r := ⟨0, fun _ _ => Eq.refl _⟩
theorem Ev.eqv {F G : Nat → Option α} {r : α} (h : Ev F r) (e : ∀ k, G k = F k) : Ev G r := by
  obtain ⟨K, h⟩ := h
  exact ⟨K, fun k hk => (e k).trans (h k hk)⟩
theorem Ev.bind {F : Nat → Option α} {G : Nat → α → Option β} {a : α} {r : β} (h1 : Ev F a) (h2 : Ev (fun k => G k a) r) : Ev (fun k => (F k).bind (G k)) r := by
  obtain ⟨K1, h1⟩ := h1
  obtain ⟨K2, h2⟩ := h2
  refine ⟨max K1 K2, fun k hk => ?_⟩
  show (F k).bind (G k) = some r
  rw [h1 k (by omega)]
  exact h2 k (by omega)
theorem Ev.bindp {x : Option α} {G : Nat → α → Option β} {a : α} {r : β} (h1 : x = some a) (h2 : Ev (fun k => G k a) r) : Ev (fun k => x.bind (G k)) r := Ev.bind (Ev.of h1) h2
theorem Ev.jn {F : Nat → Option (Oc σ ρ)} {G : Nat → σ → Option ρ} {s : σ} {r : ρ} (h1 : Ev F (.nxt s)) (h2 : Ev (fun k => G k s) r) : Ev (fun k => X.jn (F k) (G k)) r := Ev.bind h1 h2
theorem Ev.jn_ret {F : Nat → Option (Oc σ ρ)} {G : Nat → σ → Option ρ} {r : ρ} (h1 : Ev F (.ret r)) : Ev (fun k => X.jn (F k) (G k)) r := Ev.bind h1 Ev.rfl
theorem Ev.iteT {F G : Nat → Option α} {b : Bool} {r : α} (hb : b = true) (h : Ev F r) : Ev (fun k => if b = true then F k else G k) r := by
  subst hb
  exact h
theorem Ev.iteF {F G : Nat → Option α} {b : Bool} {r : α} (hb : b = false) (h : Ev G r) : Ev (fun k => if b = true then F k else G k) r := by
  subst hb
  exact h
theorem Ev.two {F : Nat → Option α} {r r' : α} (h : Ev F r) (h' : Ev F r') : r = r' := by
  obtain ⟨K, h⟩ := h
  obtain ⟨K', h'⟩ := h'
  exact Option.some.inj ((h (max K K') (by omega)).symm.trans (h' _ (by omega)))
theorem Ev.loop {B : σ → Option (Oc σ ρ)} {o : Oc σ ρ} {s : σ} (R : σ → Prop) (m : σ → Nat) (hs : R s)
    (step : ∀ s, R s → (∃ s', B s = some (.nxt s') ∧ R s' ∧ m s' < m s) ∨ (∃ s', B s = some (.brk s') ∧ o = .nxt s') ∨ (∃ r, B s = some (.ret r) ∧ o = .ret r)) : Ev (fun k => loopF B k s) o := by
  have key : ∀ n s, m s < n → R s → ∀ k, n ≤ k → loopF B k s = some o := by
    intro n
    induction n with
    | zero => intro s h; omega
    | succ n ih =>
      intro s hm hs k hk
      obtain ⟨k, rfl⟩ : ∃ k', k = k' + 1 := ⟨k - 1, by omega⟩
      rcases step s hs with ⟨s', e, h', hlt⟩ | ⟨s', e, rfl⟩ | ⟨r, e, rfl⟩
      · simp only [loopF, e]
        exact ih s' (by omega) h' k (by omega)
      · simp only [loopF, e]
      · simp only [loopF, e]
  exact ⟨m s + 1, fun k hk => key _ s (by omega) hs k hk⟩
theorem Ev.loopQ {B : σ → Option (Oc σ ρ)} {s : σ} (Q : Oc σ ρ → Prop) (R : σ → Prop) (m : σ → Nat) (hs : R s)
    (step : ∀ s, R s → (∃ s', B s = some (.nxt s') ∧ R s' ∧ m s' < m s) ∨ (∃ s', B s = some (.brk s') ∧ Q (.nxt s')) ∨ (∃ r, B s = some (.ret r) ∧ Q (.ret r))) : ∃ o, Ev (fun k => loopF B k s) o ∧ Q o := by
  have key : ∀ n s, m s < n → R s → ∃ o, Q o ∧ ∀ k, n ≤ k → loopF B k s = some o := by
    intro n
    induction n with
    | zero => intro s h; omega
    | succ n ih =>
      intro s hm hs
      rcases step s hs with ⟨s', e, h', hlt⟩ | ⟨s', e, hq⟩ | ⟨r, e, hq⟩
      · obtain ⟨o, ho, hk⟩ := ih s' (by omega) h'
        refine ⟨o, ho, fun k hk' => ?_⟩
        obtain ⟨k, rfl⟩ : ∃ k', k = k' + 1 := ⟨k - 1, by omega⟩
        simp only [loopF, e]
        exact hk k (by omega)
      · refine ⟨_, hq, fun k hk' => ?_⟩
        obtain ⟨k, rfl⟩ : ∃ k', k = k' + 1 := ⟨k - 1, by omega⟩
        simp only [loopF, e]
      · refine ⟨_, hq, fun k hk' => ?_⟩
        obtain ⟨k, rfl⟩ : ∃ k', k = k' + 1 := ⟨k - 1, by omega⟩
        simp only [loopF, e]
  obtain ⟨o, ho, hk⟩ := key (m s + 1) s (by omega) hs
  exact ⟨o, ⟨m s + 1, hk⟩, ho⟩
/-- The same, where a round takes fuel of its own. -/
theorem Ev.loopQk {B : Nat → σ → Option (Oc σ ρ)} {s : σ} (Q : Oc σ ρ → Prop) (R : σ → Prop) (m : σ → Nat) (hs : R s)
    (step : ∀ s, R s → (∃ s', Ev (fun k => B k s) (.nxt s') ∧ R s' ∧ m s' < m s) ∨ (∃ s', Ev (fun k => B k s) (.brk s') ∧ Q (.nxt s')) ∨ (∃ r, Ev (fun k => B k s) (.ret r) ∧ Q (.ret r))) : ∃ o, Ev (fun k => loopF (B k) k s) o ∧ Q o := by
  have key : ∀ n s, m s < n → R s → ∃ o, Q o ∧ ∃ K, ∀ k j, K ≤ k → n ≤ j → loopF (B k) j s = some o := by
    intro n
    induction n with
    | zero => intro s h; omega
    | succ n ih =>
      intro s hm hs
      rcases step s hs with ⟨s', ⟨K1, e⟩, h', hlt⟩ | ⟨s', ⟨K1, e⟩, hq⟩ | ⟨r, ⟨K1, e⟩, hq⟩
      · obtain ⟨o, ho, K, hk⟩ := ih s' (by omega) h'
        refine ⟨o, ho, max K K1, fun k j hk' hj => ?_⟩
        obtain ⟨j, rfl⟩ : ∃ j', j = j' + 1 := ⟨j - 1, by omega⟩
        have := e k (by omega)
        simp only at this
        simp only [loopF, this]
        exact hk k j (by omega) (by omega)
      · refine ⟨_, hq, K1, fun k j hk' hj => ?_⟩
        obtain ⟨j, rfl⟩ : ∃ j', j = j' + 1 := ⟨j - 1, by omega⟩
        have := e k hk'
        simp only at this
        simp only [loopF, this]
      · refine ⟨_, hq, K1, fun k j hk' hj => ?_⟩
        obtain ⟨j, rfl⟩ : ∃ j', j = j' + 1 := ⟨j - 1, by omega⟩
        have := e k hk'
        simp only at this
        simp only [loopF, this]
  obtain ⟨o, ho, K, hk⟩ := key (m s + 1) s (by omega) hs
  exact ⟨o, ⟨max K (m s + 1), fun k h => hk k k (by omega) (by omega)⟩, ho⟩
theorem rangeG_to {B : Nat → α → σ → Option (Oc σ ρ)} {o : Oc σ ρ} (R : Nat → List α → σ → Prop)
    (step : ∀ i x r s, R i (x :: r) s → (∃ s', B i x s = some (.nxt s') ∧ R (i + 1) r s') ∨ (∃ s', B i x s = some (.brk s') ∧ o = .nxt s') ∨ (∃ q, B i x s = some (.ret q) ∧ o = .ret q))
    (fin : ∀ i s, R i [] s → o = .nxt s) : ∀ (l : List α) (i : Nat) (s : σ), R i l s → rangeG B l i s = some o := by
  intro l
  induction l with
  | nil => intro i s h; rw [fin i s h]; exact Eq.refl _
  | cons x r ih =>
    intro i s h
    rcases step i x r s h with ⟨s', e, h'⟩ | ⟨s', e, rfl⟩ | ⟨q, e, rfl⟩
    · simp only [rangeG, e]; exact ih _ _ h'
    · simp only [rangeG, e]
    · simp only [rangeG, e]
theorem rangeL_to {B : Nat → α → σ → Option (Oc σ ρ)} {o : Oc σ ρ} {l : List α} {s : σ} (hl : l.length ≤ 4611686018427387904) (R : Nat → List α → σ → Prop) (h0 : R 0 l s)
    (step : ∀ i x r s, R i (x :: r) s → (∃ s', B i x s = some (.nxt s') ∧ R (i + 1) r s') ∨ (∃ s', B i x s = some (.brk s') ∧ o = .nxt s') ∨ (∃ q, B i x s = some (.ret q) ∧ o = .ret q))
    (fin : ∀ i s, R i [] s → o = .nxt s) : rangeL B l s = some o := by
  unfold rangeL
  rw [if_pos hl]
  exact rangeG_to R step fin l 0 s h0
/-- A range that folds. -/
theorem rangeG_fold {B : Nat → α → σ → Option (Oc σ ρ)} {f : Nat → α → σ → σ} : ∀ (l : List α) (i : Nat) (s : σ), (∀ (j : Nat) x s, l[j]? = some x → B (i + j) x s = some (.nxt (f (i + j) x s))) → rangeG B l i s = some (.nxt ((l.zipIdx i).foldl (fun s p => f p.2 p.1 s) s)) := by
  intro l
  induction l with
  | nil => intro i s h; exact Eq.refl _
  | cons x r ih =>
    intro i s h
    have h0 := h 0 x s (Eq.refl _)
    simp only [Nat.add_zero] at h0
    simp only [rangeG, h0]
    rw [ih (i + 1) _ (fun j y s hy => by
      have := h (j + 1) y s (by simpa using hy)
      rwa [show i + (j + 1) = i + 1 + j by omega] at this)]
    exact Eq.refl _
/-- A range that looks for a first one. -/
theorem rangeG_any {B : Nat → α → Unit → Option (Oc Unit ρ)} {p : Nat → α → Bool} {q : ρ} : ∀ (l : List α) (i : Nat), (∀ (j : Nat) x, l[j]? = some x → B (i + j) x () = some (if p (i + j) x = true then .ret q else .nxt ())) → rangeG B l i () = some (if (l.zipIdx i).any (fun c => p c.2 c.1) = true then .ret q else .nxt ()) := by
  intro l
  induction l with
  | nil => intro i h; exact Eq.refl _
  | cons x r ih =>
    intro i h
    have h0 := h 0 x (Eq.refl _)
    simp only [Nat.add_zero] at h0
    have hr := ih (i + 1) (fun j y hy => by
      have := h (j + 1) y (by simpa using hy)
      rwa [show i + (j + 1) = i + 1 + j by omega] at this)
    simp only [List.zipIdx_cons, List.any_cons, rangeG, h0]
    rcases Bool.eq_false_or_eq_true (p i x) with hp | hp
    · simp [hp]
    · rw [if_neg (by rw [hp]; exact Bool.false_ne_true)]
      refine hr.trans ?_
      congr 2
      rw [hp, Bool.false_or]
theorem rangeL_any {B : Nat → α → Unit → Option (Oc Unit ρ)} {p : Nat → α → Bool} {q : ρ} {l : List α} (hl : l.length ≤ 4611686018427387904) (h : ∀ (j : Nat) x, l[j]? = some x → B j x () = some (if p j x = true then .ret q else .nxt ())) : rangeL B l () = some (if l.zipIdx.any (fun c => p c.2 c.1) = true then .ret q else .nxt ()) := by
  unfold rangeL
  rw [if_pos hl]
  exact rangeG_any l 0 (fun j x hx => by simpa using h j x hx)
theorem rangeL_fold {B : Nat → α → σ → Option (Oc σ ρ)} {f : Nat → α → σ → σ} {l : List α} {s : σ} (hl : l.length ≤ 4611686018427387904) (h : ∀ (j : Nat) x s, l[j]? = some x → B j x s = some (.nxt (f j x s))) : rangeL B l s = some (.nxt (l.zipIdx.foldl (fun s p => f p.2 p.1 s) s)) := by
  unfold rangeL
  rw [if_pos hl]
  exact rangeG_fold l 0 s (fun j x s hx => by simpa using h j x s hx)
theorem rangeG_congr {B B' : Nat → α → σ → Option (Oc σ ρ)} : ∀ (l : List α) (i : Nat) (s : σ), (∀ (j : Nat) x s, l[j]? = some x → B (i + j) x s = B' (i + j) x s) → rangeG B l i s = rangeG B' l i s := by
  intro l
  induction l with
  | nil => intro i s h; exact Eq.refl _
  | cons x r ih =>
    intro i s h
    have h0 := h 0 x s (Eq.refl _)
    simp only [Nat.add_zero] at h0
    simp only [rangeG, h0]
    have hr : ∀ s, rangeG B r (i + 1) s = rangeG B' r (i + 1) s := fun s => ih (i + 1) s (fun j y s hy => by
      have := h (j + 1) y s (by simpa using hy)
      rwa [show i + (j + 1) = i + 1 + j by omega] at this)
    simp only [hr]

theorem rangeN_to {B : Nat → σ → Option (Oc σ ρ)} {o : Oc σ ρ} (R : Nat → Nat → σ → Prop)
    (step : ∀ i m s, R i (m + 1) s → (∃ s', B i s = some (.nxt s') ∧ R (i + 1) m s') ∨ (∃ s', B i s = some (.brk s') ∧ o = .nxt s') ∨ (∃ q, B i s = some (.ret q) ∧ o = .ret q))
    (fin : ∀ i s, R i 0 s → o = .nxt s) : ∀ (m i : Nat) (s : σ), R i m s → rangeN B m i s = some o := by
  intro m
  induction m with
  | zero => intro i s h; rw [fin i s h]; exact Eq.refl _
  | succ m ih =>
    intro i s h
    rcases step i m s h with ⟨s', e, h'⟩ | ⟨s', e, rfl⟩ | ⟨q, e, rfl⟩
    · simp only [rangeN, e]; exact ih _ _ h'
    · simp only [rangeN, e]
    · simp only [rangeN, e]
theorem rangeI_to {B : Nat → σ → Option (Oc σ ρ)} {o : Oc σ ρ} {n : Nat} {s : σ} (hn : n ≤ 4611686018427387904) (R : Nat → Nat → σ → Prop) (h0 : R 0 n s)
    (step : ∀ i m s, R i (m + 1) s → (∃ s', B i s = some (.nxt s') ∧ R (i + 1) m s') ∨ (∃ s', B i s = some (.brk s') ∧ o = .nxt s') ∨ (∃ q, B i s = some (.ret q) ∧ o = .ret q))
    (fin : ∀ i s, R i 0 s → o = .nxt s) : rangeI B (n : Int) s = some o := by
  unfold rangeI
  rw [if_pos (by omega), Int.toNat_natCast]
  exact rangeN_to R step fin n 0 s h0
theorem rangeG_pre {B : Nat → α → σ → Option (Oc σ ρ)} {q : ρ} : ∀ (l l' : List α) (i : Nat) (s : σ), rangeG B l i s = some (.ret q) → rangeG B (l ++ l') i s = some (.ret q) := by
  intro l l'
  induction l with
  | nil => intro i s h; simp [rangeG] at h
  | cons x r ih =>
    intro i s h
    simp only [rangeG, List.cons_append] at h ⊢
    split at h
    · exact ih _ _ h
    · simp at h
    · exact h
    · cases h
/-- A range with a flag that is put out. -/
theorem rangeL_off {B : Nat → α → Bool → Option (Oc Bool ρ)} {c : Nat → α → Bool} {l : List α} {s : Bool} (hl : l.length ≤ 4611686018427387904) (h : ∀ (j : Nat) x s, l[j]? = some x → B j x s = some (.nxt (if c j x = true then false else s))) : rangeL B l s = some (.nxt (s && !(l.zipIdx.any fun p => c p.2 p.1))) := by
  have := rangeL_fold (f := fun j x s => if c j x = true then false else s) (s := s) hl h
  rw [this]
  congr 2
  clear this h hl
  have key : ∀ (l : List (α × Nat)) (s : Bool), l.foldl (fun s p => if c p.2 p.1 = true then false else s) s = (s && !(l.any fun p => c p.2 p.1)) := by
    intro l
    induction l with
    | nil => intro s; simp
    | cons a r ih =>
      intro s
      simp only [List.foldl_cons, List.any_cons, ih]
      rcases Bool.eq_false_or_eq_true (c a.2 a.1) with h | h
      · rw [if_pos h, h]; simp
      · rw [if_neg (by rw [h]; exact Bool.false_ne_true), h]; simp
  exact key _ _

theorem geti_nat {l : List α} {i : Nat} {x : α} (h : l[i]? = some x) : geti l (i : Int) = some x := by simp [geti, h]
theorem geti_in {l : List α} {i : Int} (h0 : 0 ≤ i) (h1 : i < l.length) : ∃ x, geti l i = some x ∧ l[i.toNat]? = some x := by
  have : i.toNat < l.length := by omega
  exact ⟨l[i.toNat], by simp [geti, h0, this], by simp [this]⟩
theorem sl_take {l : List α} {i : Nat} (h : i ≤ l.length) : sl l 0 (i : Int) = some (l.take i) := by
  unfold sl
  rw [if_pos ⟨by omega, by omega, by omega⟩]
  simp
theorem sl_drop {l : List α} {i : Nat} (h : i ≤ l.length) : sl l (i : Int) (l.length : Nat) = some (l.drop i) := by
  unfold sl
  rw [if_pos ⟨by omega, by omega, by omega⟩]
  simp
theorem i64_id {n : Int} (h0 : -9223372036854775808 ≤ n) (h1 : n ≤ 9223372036854775807) : IntKind.wrap .i64 n = n := IntWalk.i64_in _ (by omega)

/-! ### the laws' own walks -/
/-- A copy, element by element. -/
theorem toS_ev {B : Int × List α → Option (Oc (Int × List α) ρ)} {l : List α} {z : α} (hl : l.length ≤ 1048576)
    (hB : ∀ (i : Nat) s x y, l[i]? = some x → s[i]? = some y → B ((i : Int), s) = some (.nxt (IntKind.wrap .i64 ((i : Int) + 1), s.set i x)))
    (hE : ∀ s, B ((l.length : Int), s) = some (.brk ((l.length : Int), s))) : Ev (fun k => loopF B k (0, List.replicate l.length z)) (.nxt ((l.length : Int), l)) := by
  refine Ev.loop (fun st => ∃ i : Nat, st.1 = i ∧ i ≤ l.length ∧ st.2.length = l.length ∧ st.2.take i = l.take i) (fun st => l.length - st.1.toNat) ⟨0, by simp⟩ ?_
  rintro ⟨i', s⟩ ⟨i, rfl, hi, hs, ht⟩
  simp only at hs ht hi ⊢
  by_cases h : i < l.length
  · have hi' : i < s.length := by omega
    refine .inl ⟨_, hB i s l[i] s[i] (by simp [h]) (by simp [hi']), ⟨i + 1, ?_, by omega, by simp [hs], ?_⟩, ?_⟩
    · rw [i64_id (by omega) (by omega)]
      exact Eq.refl _
    · rw [List.take_add_one, List.take_add_one]
      simp [List.take_set_of_le, ht, h, hs]
    · rw [i64_id (by omega) (by omega)]
      omega
  · have : i = l.length := by omega
    subst this
    refine .inr (.inl ⟨_, hE s, ?_⟩)
    have : s = l := by rw [List.take_length, ← hs, List.take_length] at ht; exact ht
    rw [this]
/-- A comparison, element by element. -/
theorem eqS_ev [DecidableEq α] {B : Int → Option (Oc Int Bool)} {a b : List α} (hl : a.length ≤ 1048576) (hab : a.length = b.length)
    (hB : ∀ (i : Nat) x y, a[i]? = some x → b[i]? = some y → B (i : Int) = some (if x = y then .nxt (IntKind.wrap .i64 ((i : Int) + 1)) else .ret false))
    (hE : B (a.length : Int) = some (.brk (a.length : Int))) : Ev (fun k => loopF B k 0) (if a = b then .nxt (a.length : Int) else .ret false) := by
  refine Ev.loop (fun st => ∃ i : Nat, st = i ∧ i ≤ a.length ∧ a.take i = b.take i) (fun st => a.length - st.toNat) ⟨0, by simp⟩ ?_
  rintro i' ⟨i, rfl, hi, ht⟩
  by_cases h : i < a.length
  · have hi' : i < b.length := by omega
    have hb := hB i a[i] b[i] (by simp [h]) (by simp [hi'])
    by_cases hx : a[i] = b[i]
    · rw [if_pos hx] at hb
      refine .inl ⟨_, hb, ⟨i + 1, ?_, by omega, ?_⟩, ?_⟩
      · rw [i64_id (by omega) (by omega)]
        exact Eq.refl _
      · rw [List.take_add_one, List.take_add_one, ht]
        simp [h, hi', hx]
      · rw [i64_id (by omega) (by omega)]
        omega
    · rw [if_neg hx] at hb
      refine .inr (.inr ⟨_, hb, ?_⟩)
      rw [if_neg]
      intro e
      subst e
      exact hx (Eq.refl _)
  · have : i = a.length := by omega
    subst this
    refine .inr (.inl ⟨_, hE, ?_⟩)
    rw [if_pos]
    rwa [List.take_length, hab, List.take_length] at ht
/-- Marks, element by element. -/
def marked (c : Int) (M : Int → α) (n : Int) : Nat → List α
  | 0 => []
  | m + 1 => M n :: marked c M (n + c) m
theorem marked_length {c : Int} {M : Int → α} : ∀ (m : Nat) {n : Int}, (marked c M n m).length = m := by
  intro m
  induction m with
  | zero => intro n; exact Eq.refl _
  | succ m ih => intro n; simp [marked, ih]
theorem marked_get {c : Int} {M : Int → α} : ∀ (m : Nat) {n : Int} {i : Nat}, i < m → (marked c M n m)[i]? = some (M (n + c * i)) := by
  intro m
  induction m with
  | zero => intro n i h; omega
  | succ m ih =>
    intro n i h
    cases i with
    | zero => simp [marked]
    | succ i =>
      simp only [marked, List.getElem?_cons_succ]
      rw [ih (by omega)]
      congr 2
      push_cast
      rw [Int.mul_add]
      omega
theorem markS_ev {B : Int × Int × List α → Option (Oc (Int × Int × List α) ρ)} {l : List α} {c : Nat} {M : Int → α} {n0 : Nat} (hl : l.length ≤ 1048576) (hc : c ≤ 1000000) (hn : n0 ≤ 1000000)
    (hB : ∀ (n i : Nat) s x, n ≤ 4398046511104 → i < l.length → s[i]? = some x → s.length = l.length → B ((n : Int), (i : Int), s) = some (.nxt (((n + c : Nat) : Int), ((i + 1 : Nat) : Int), s.set i (M n))))
    (hE : ∀ (n : Nat) s, s.length = l.length → B ((n : Int), (l.length : Int), s) = some (.brk ((n : Int), (l.length : Int), s))) :
    Ev (fun k => loopF B k ((n0 : Int), 0, l)) (.nxt (((n0 + c * l.length : Nat) : Int), (l.length : Int), marked c M n0 l.length)) := by
  refine Ev.loop (fun st => ∃ i : Nat, st.1 = ((n0 + c * i : Nat) : Int) ∧ st.2.1 = i ∧ i ≤ l.length ∧ st.2.2.length = l.length ∧ st.2.2.take i = (marked c M n0 l.length).take i) (fun st => l.length - st.2.1.toNat) ⟨0, by simp⟩ ?_
  rintro ⟨n', i', s⟩ ⟨i, e1, e2, hi, hs, ht⟩
  simp only at hs ht hi e1 e2 ⊢
  subst e1 e2
  have hci : c * i ≤ 1000000 * 1048576 := Nat.mul_le_mul hc (by omega)
  by_cases h : i < l.length
  · have hi' : i < s.length := by omega
    refine .inl ⟨_, hB _ i s s[i] (by omega) h (by simp [hi']) hs, ⟨i + 1, ?_, Eq.refl _, by omega, by simp [hs], ?_⟩, ?_⟩
    · rw [Nat.mul_add]; simp [Nat.add_assoc]
    · rw [List.take_add_one, List.take_add_one, marked_get _ h]
      simp [List.take_set_of_le, ht, hi']
    · simp only [Int.toNat_natCast]
      omega
  · have : i = l.length := by omega
    subst this
    refine .inr (.inl ⟨_, hE _ s hs, ?_⟩)
    have : s = marked c M n0 l.length := by
      rw [List.take_of_length_le (by omega), List.take_of_length_le (by rw [marked_length]; exact Nat.le_refl _)] at ht
      exact ht
    rw [this]
theorem heldS_ev {B : Int × Int → Option (Oc (Int × Int) ρ)} {m : Nat} {c n0 : Nat} (hl : m ≤ 1048576) (hc : c ≤ 1000000) (hn : n0 ≤ 1000000)
    (hB : ∀ (i : Nat), i < m → B (((n0 + c * i : Nat) : Int), (i : Int)) = some (.nxt (((n0 + c * (i + 1) : Nat) : Int), ((i + 1 : Nat) : Int))))
    (hE : ∀ (n : Nat), B ((n : Int), (m : Int)) = some (.brk ((n : Int), (m : Int)))) :
    Ev (fun k => loopF B k ((n0 : Int), 0)) (.nxt (((n0 + c * m : Nat) : Int), (m : Int))) := by
  refine Ev.loop (fun st => ∃ i : Nat, st = (((n0 + c * i : Nat) : Int), (i : Int)) ∧ i ≤ m) (fun st => m - st.2.toNat) ⟨0, by simp, by omega⟩ ?_
  rintro st ⟨i, rfl, hi⟩
  by_cases h : i < m
  · refine .inl ⟨_, hB i h, ⟨i + 1, Eq.refl _, by omega⟩, ?_⟩
    simp only [Int.toNat_natCast]
    omega
  · have : i = m := by omega
    subst this
    exact .inr (.inl ⟨_, hE _, Eq.refl _⟩)
end Go.Proofs.Ytpkiieniipenjaa.X
