/- The least order: two searches that find the same one. -/
import Derived.Test.YtddkoiapboeemaaXL1L15b
set_option linter.unusedVariables false
set_option linter.unusedSimpArgs false
namespace Go.Proofs.Ytddkoiapboeemaa.X
open Go

/-- A whole order, as it is looked for. -/
def Full (n : Nat) (leg : List Int → Bool) (R : Int → Int → Bool) (o : List Int) : Prop := o.length = n ∧ o.Nodup ∧ (∀ x ∈ o, 0 ≤ x ∧ x < n) ∧ leg o = true ∧ o.Pairwise (fun a b => R a b = true)
instance (n : Nat) (leg : List Int → Bool) (R : Int → Int → Bool) (o : List Int) : Decidable (Full n leg R o) := by unfold Full; infer_instance
section
variable {n : Nat} {leg : List Int → Bool} {R : Int → Int → Bool}
theorem nodup_len : ∀ (n : Nat) (l : List Nat), l.Nodup → (∀ x ∈ l, x < n) → l.length ≤ n := by
  intro n
  induction n with
  | zero =>
    intro l _ h
    cases l with
    | nil => simp
    | cons a r => exact absurd (h a (by simp)) (by omega)
  | succ n ih =>
    intro l hn h
    have h1 := ih (l.erase n) (hn.erase n) (fun x hx => by
      rw [hn.mem_erase_iff] at hx
      have := h x hx.2
      omega)
    rw [List.length_erase] at h1
    split at h1 <;> omega
/-- A whole order bears every number. -/
theorem Full.all {o : List Int} (h : Full n leg R o) {j : Int} (h0 : 0 ≤ j) (h1 : j < n) : j ∈ o := by
  have hsub : (o.map Int.toNat).Nodup := by
    rw [List.Nodup, List.pairwise_map]
    exact (List.pairwise_iff_forall_sublist.2 fun {a b} hab => by
      have hn : a ≠ b := List.pairwise_iff_forall_sublist.1 h.2.1 hab
      have ha := h.2.2.1 a (hab.subset (by simp))
      have hb := h.2.2.1 b (hab.subset (by simp))
      omega)
  have hall : ∀ x ∈ o.map Int.toNat, x < n := by
    intro x hx
    obtain ⟨y, hy, rfl⟩ := List.mem_map.1 hx
    have := h.2.2.1 y hy
    omega
  have hlen : (o.map Int.toNat).length = n := by rw [List.length_map, h.1]
  have : j.toNat ∈ o.map Int.toNat := by
    apply Classical.byContradiction
    intro hno
    have hnd : (j.toNat :: o.map Int.toNat).Nodup := List.nodup_cons.2 ⟨hno, hsub⟩
    have := nodup_len n _ hnd (by
      intro x hx
      rcases List.mem_cons.1 hx with rfl | hx
      · omega
      · exact hall x hx)
    rw [List.length_cons] at this
    omega
  obtain ⟨y, hy, e⟩ := List.mem_map.1 this
  have := h.2.2.1 y hy
  have : y = j := by omega
  exact this ▸ hy
end

theorem l1Has_eq {l : List Int} (hl : l.length ≤ 1048576) (n : Int) : spec_l1Has l n = some (decide (n ∈ l)) := by
  unfold spec_l1Has
  rw [rangeL_any (p := fun _ x => decide (x = n)) (q := true) (by omega) (fun j x hx => ?_)]
  · have : (l.zipIdx.any fun c => decide (c.1 = n)) = decide (n ∈ l) := by
      rw [Bool.eq_iff_iff, List.any_eq_true, decide_eq_true_eq]
      constructor
      · rintro ⟨⟨x, i⟩, hx, e⟩
        rw [decide_eq_true_eq] at e
        simp only at e
        subst e
        rw [List.mem_zipIdx_iff_getElem?] at hx
        exact List.mem_of_getElem? hx
      · intro h
        obtain ⟨i, hi, rfl⟩ := List.mem_iff_getElem.1 h
        exact ⟨(l[i], i), by rw [List.mem_zipIdx_iff_getElem?]; simp, by simp⟩
    rw [this]
    rcases Bool.eq_false_or_eq_true (decide (n ∈ l)) with h | h
    · rw [h]; rfl
    · rw [h]; rfl
  · unfold spec_l1Has_b1
    rcases Bool.eq_false_or_eq_true (decide (x = n)) with h | h
    · rw [h]; rfl
    · rw [h]; rfl
/-- In place: the numbers of an order are calls' places. -/
def Inl (n : Nat) (p : List Int) : Prop := ∀ x ∈ p, 0 ≤ x ∧ x < n
def Oks (l : List Call) : Prop := ∀ x ∈ l, 0 ≤ x.Object ∧ x.Object ≤ 2
theorem legal_body {l : List Call} (hl : Oks l) {x : Int} (h0 : 0 ≤ x) (h1 : x < l.length) {s : List Int} (hs : s.length = 3) (i : Nat) :
    impl_isLegal_b1 l i x s = spec_l15Legal_b1 l i x s ∧ ((∃ s', s'.length = 3 ∧ spec_l15Legal_b1 l i x s = some (.nxt s')) ∨ spec_l15Legal_b1 l i x s = some (.ret false)) := by
  obtain ⟨c, hc, hc'⟩ := geti_in (l := l) h0 h1
  have ho := hl c (List.mem_of_getElem? hc')
  obtain ⟨v, hv, hv'⟩ := geti_in (l := s) (i := c.Object) ho.1 (by omega)
  unfold impl_isLegal_b1 spec_l15Legal_b1
  rw [hc]
  simp only [Option.bind_some, hv, ck_pos (show c.Object < 3 by omega)]
  refine ⟨by first | trivial | (split <;> rfl), ?_⟩
  split
  · exact .inl ⟨_, by rw [List.length_set]; exact hs, rfl⟩
  · split
    · exact .inr rfl
    · exact .inl ⟨s, hs, rfl⟩
theorem legal_run {l : List Call} (hl : Oks l) : ∀ (p : List Int) (i : Nat) (s : List Int), Inl l.length p → s.length = 3 →
    rangeG (fun i x s => impl_isLegal_b1 l i x s) p i s = rangeG (fun i x s => spec_l15Legal_b1 l i x s) p i s ∧ ((∃ s', rangeG (fun i x s => spec_l15Legal_b1 l i x s) p i s = some (.nxt s')) ∨ rangeG (fun i x s => spec_l15Legal_b1 l i x s) p i s = some (.ret false)) := by
  intro p
  induction p with
  | nil => intro i s _ _; exact ⟨rfl, .inl ⟨s, rfl⟩⟩
  | cons x r ih =>
    intro i s hp hs
    have hx := hp x (by simp)
    obtain ⟨e, h | h⟩ := legal_body hl hx.1 hx.2 hs i
    · obtain ⟨s', hs', h⟩ := h
      simp only [rangeG, e, h]
      exact ih _ _ (fun y hy => hp y (by simp [hy])) hs'
    · simp only [rangeG, e, h]
      exact ⟨trivial, .inr trivial⟩
def legalB (l : List Call) (p : List Int) : Bool := decide (spec_l15Legal l p = some true)
theorem mk3 : mkN 8 3 (0 : Int) = some [0, 0, 0] := by decide
theorem legal_spec {l : List Call} (hl : Oks l) {p : List Int} (hp : Inl l.length p) (hn : p.length ≤ 1048576) : spec_l15Legal l p = some (legalB l p) ∧ impl_isLegal l p = some (legalB l p) := by
  have h := legal_run hl p 0 [0, 0, 0] hp rfl
  have e1 : spec_l15Legal l p = jn (rangeG (fun i x s => spec_l15Legal_b1 l i x s) p 0 [0, 0, 0]) (fun _ => some true) := by
    unfold spec_l15Legal
    rw [mk3, Option.bind_some, rangeL, if_pos (by omega)]
    rfl
  have e2 : impl_isLegal l p = jn (rangeG (fun i x s => impl_isLegal_b1 l i x s) p 0 [0, 0, 0]) (fun _ => some true) := by
    unfold impl_isLegal
    rw [rangeL, if_pos (by omega)]
    rfl
  have e3 : spec_l15Legal l p = some (legalB l p) := by
    unfold legalB
    rw [e1]
    rcases h.2 with ⟨s', h'⟩ | h' <;> rw [h'] <;> rfl
  exact ⟨e3, by rw [e2, h.1, ← e1, e3]⟩
def bef (c : Bool) (a b : Call) : Bool := if c = true then decide (a.Client = b.Client) && decide (a.Begin < b.Begin) else decide (a.End ≤ b.Begin)
/-- The second one need not be ahead of the first one. -/
def rel (l : List Call) (c : Bool) (a b : Int) : Bool := match l[a.toNat]?, l[b.toNat]? with
  | some x, some y => !(bef c y x)
  | _, _ => false
theorem good_oks {l : List Call} (h : good l = true) : Oks l := by
  intro x hx
  have := good_call h hx
  simp only [spec_l15Call, spec_l1In, Bool.and_eq_true, decide_eq_true_eq] at this
  omega
end Go.Proofs.Ytddkoiapboeemaa.X
