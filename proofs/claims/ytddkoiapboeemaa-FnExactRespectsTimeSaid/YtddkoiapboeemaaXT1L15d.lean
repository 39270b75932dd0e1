/- The least order: two searches that find the same one. -/
import Derived.Test.YtddkoiapboeemaaXT1L15b
set_option linter.unusedVariables false
set_option linter.unusedSimpArgs false
namespace Go.Proofs.Ytddkoiapboeemaa.X
open Go

/-- A whole order, as it is looked for. -/
def Full (n : Nat) (leg : List Int → Bool) (R : Int → Int → Bool) (o : List Int) : Prop := o.length = n ∧ o.Nodup ∧ (∀ x ∈ o, 0 ≤ x ∧ x < n) ∧ leg o = true ∧ o.Pairwise (fun a b => R a b = true)
instance (n : Nat) (leg : List Int → Bool) (R : Int → Int → Bool) (o : List Int) : Decidable (Full n leg R o) := by unfold Full; infer_instance
section
variable {n : Nat} {leg : List Int → Bool} {R : Int → Int → Bool}
theorem nodup_len : ∀ (n : Nat) (l : List Nat), l.Nodup → (∀ x ∈ l, x < n) → l.length ≤ n := by
  intro n
  induction n with
  | zero =>
    intro l _ h
    cases l with
    | nil => simp
    | cons a r => exact absurd (h a (by simp)) (by omega)
  | succ n ih =>
    intro l hn h
    have h1 := ih (l.erase n) (hn.erase n) (fun x hx => by
      rw [hn.mem_erase_iff] at hx
      have := h x hx.2
      omega)
    rw [List.length_erase] at h1
    split at h1 <;> omega
/-- A whole order bears every number. -/
theorem Full.all {o : List Int} (h : Full n leg R o) {j : Int} (h0 : 0 ≤ j) (h1 : j < n) : j ∈ o := by
  have hsub : (o.map Int.toNat).Nodup := by
    rw [List.Nodup, List.pairwise_map]
    exact (List.pairwise_iff_forall_sublist.2 fun {a b} hab => by
      have hn : a ≠ b := List.pairwise_iff_forall_sublist.1 h.2.1 hab
      have ha := h.2.2.1 a (hab.subset (by simp))
      have hb := h.2.2.1 b (hab.subset (by simp))
      omega)
  have hall : ∀ x ∈ o.map Int.toNat, x < n := by
    intro x hx
    obtain ⟨y, hy, rfl⟩ := List.mem_map.1 hx
    have := h.2.2.1 y hy
    omega
  have hlen : (o.map Int.toNat).length = n := by rw [List.length_map, h.1]
  have : j.toNat ∈ o.map Int.toNat := by
    apply Classical.byContradiction
    intro hno
    have hnd : (j.toNat :: o.map Int.toNat).Nodup := List.nodup_cons.2 ⟨hno, hsub⟩
    have := nodup_len n _ hnd (by
      intro x hx
      rcases List.mem_cons.1 hx with rfl | hx
      · omega
      · exact hall x hx)
    rw [List.length_cons] at this
    omega
  obtain ⟨y, hy, e⟩ := List.mem_map.1 this
  have := h.2.2.1 y hy
  have : y = j := by omega
  exact this ▸ hy
end

theorem l1Has_eq {l : List Int} (hl : l.length ≤ 1048576) (n : Int) : spec_l1Has l n = some (decide (n ∈ l)) := by
  unfold spec_l1Has
  rw [rangeL_any (p := fun _ x => decide (x = n)) (q := true) (by omega) (fun j x hx => ?_)]
  · have : (l.zipIdx.any fun c => decide (c.1 = n)) = decide (n ∈ l) := by
      rw [Bool.eq_iff_iff, List.any_eq_true, decide_eq_true_eq]
      constructor
      · rintro ⟨⟨x, i⟩, hx, e⟩
        rw [decide_eq_true_eq] at e
        simp only at e
        subst e
        rw [List.mem_zipIdx_iff_getElem?] at hx
        exact List.mem_of_getElem? hx
      · intro h
        obtain ⟨i, hi, rfl⟩ := List.mem_iff_getElem.1 h
        exact ⟨(l[i], i), by rw [List.mem_zipIdx_iff_getElem?]; simp, by simp⟩
    rw [this]
    rcases Bool.eq_false_or_eq_true (decide (n ∈ l)) with h | h
    · rw [h]; rfl
    · rw [h]; rfl
  · unfold spec_l1Has_b1
    rcases Bool.eq_false_or_eq_true (decide (x = n)) with h | h
    · rw [h]; rfl
    · rw [h]; rfl
/-- In place: the numbers of an order are calls' places. -/
def Inl (n : Nat) (p : List Int) : Prop := ∀ x ∈ p, 0 ≤ x ∧ x < n
def bef (c : Bool) (a b : Call) : Bool := if c = true then decide (a.Client = b.Client) && decide (a.Begin < b.Begin) else decide (a.End ≤ b.Begin)
theorem l15Before_eq (a b : Call) (c : Bool) : spec_l15Before a b c = some (bef c a b) := by
  unfold spec_l15Before bef
  split <;> rfl
/-- The second one need not be ahead of the first one. -/
def rel (l : List Call) (c : Bool) (a b : Int) : Bool := match l[a.toNat]?, l[b.toNat]? with
  | some x, some y => !(bef c y x)
  | _, _ => false
theorem inOrder_eq {p : List Int} (hp : p.length ≤ 1048576) {may : Int → Int → Option Bool} {R : Int → Int → Bool} (hm : ∀ a ∈ p, ∀ b ∈ p, may a b = some (R a b)) : impl_inOrder p may = some (decide (p.Pairwise (fun a b => R a b = true))) := by
  unfold impl_inOrder
  rw [rangeL_any (p := fun i x => (p.take i).zipIdx.any fun q => !R q.1 x) (q := false) (by omega) (fun i x hx => ?_)]
  · have e : (p.zipIdx.any fun c => (p.take c.2).zipIdx.any fun q => !R q.1 c.1) = !decide (p.Pairwise (fun a b => R a b = true)) := by
      rw [Bool.eq_iff_iff, List.any_eq_true, Bool.not_eq_true', decide_eq_false_iff_not, List.pairwise_iff_getElem]
      constructor
      · rintro ⟨⟨x, i⟩, hx, hq⟩ hall
        rw [List.mem_zipIdx_iff_getElem?] at hx
        rw [List.any_eq_true] at hq
        obtain ⟨⟨y, j⟩, hy, hq⟩ := hq
        rw [List.mem_zipIdx_iff_getElem?] at hy
        simp only at hx hy hq
        obtain ⟨hi, rfl⟩ := List.getElem?_eq_some_iff.1 hx
        obtain ⟨hj, rfl⟩ := List.getElem?_eq_some_iff.1 hy
        simp only [List.length_take] at hj
        have := hall j i (by omega) hi (by omega)
        simp only [List.getElem_take, this, Bool.not_true] at hq
        cases hq
      · intro hno
        simp only [Classical.not_forall] at hno
        obtain ⟨j, i, hj, hi, hji, hR⟩ := hno
        refine ⟨(p[i], i), by rw [List.mem_zipIdx_iff_getElem?]; simp [hi], ?_⟩
        rw [List.any_eq_true]
        refine ⟨(p[j], j), by rw [List.mem_zipIdx_iff_getElem?]; simp [hj, hji], ?_⟩
        simpa using hR
    rw [e]
    rcases Bool.eq_false_or_eq_true (decide (p.Pairwise (fun a b => R a b = true))) with h | h
    · rw [h]; rfl
    · rw [h]; rfl
  · have hi : i < p.length := (List.getElem?_eq_some_iff.1 hx).1
    unfold impl_inOrder_b2
    rw [sl_take (Nat.le_of_lt hi), Option.bind_some]
    rw [rangeL_any (p := fun _ y => !R y x) (q := .ret false) (by rw [List.length_take]; omega) (fun j y hy => ?_)]
    · rcases Bool.eq_false_or_eq_true ((p.take i).zipIdx.any fun q => !R q.1 x) with h | h
      · rw [h]; rfl
      · rw [h]; rfl
    · unfold impl_inOrder_b1
      rw [hm y (List.mem_of_mem_take (List.mem_of_getElem? hy)) x (List.mem_of_getElem? hx), Option.bind_some]
      rcases Bool.eq_false_or_eq_true (R y x) with h | h <;> rw [h] <;> rfl
end Go.Proofs.Ytddkoiapboeemaa.X
