/- The library's sort on a short row. -/
import Derived.Test.YtddkoiapboeemaaXND
import Derived.Test.YtddkoiapboeemaaXLib
set_option linter.unusedVariables false
set_option linter.unusedSimpArgs false
namespace Go.Proofs.Ytddkoiapboeemaa.X
open Go

theorem getD_set (d : List Int) (i : Nat) (v : Int) (p : Nat) : (d.set i v).getD p 0 = if p = i ∧ i < d.length then v else d.getD p 0 := by
  simp only [List.getD_eq_getElem?_getD, List.getElem?_set]
  by_cases h : i = p
  · subst h
    by_cases h2 : i < d.length
    · simp [h2]
    · simp [h2]
  · rw [if_neg h, if_neg (by omega)]
theorem geti_getD {d : List Int} {i : Int} (h0 : 0 ≤ i) (h1 : i < d.length) : geti d i = some (d.getD i.toNat 0) := by
  obtain ⟨x, h, h'⟩ := geti_in h0 h1
  rw [h, List.getD_eq_getElem?_getD, h']
  rfl
theorem less_eq (x y : Int) : cmp_Less_int x y = decide (x < y) := by
  simp [cmp_Less_int, cmp_isNaN_int]
/-- Sorted up to i. -/
def Srt (d : List Int) (i : Nat) : Prop := ∀ p q, p < q → q < i → d.getD p 0 ≤ d.getD q 0
theorem insert_ev {d0 : List Int} {i : Nat} (hi : i < d0.length) (hn : d0.length ≤ 1048576) (hs : Srt d0 i) :
    ∃ o, Ev (fun k => loopF (fun s89 => slices_insertionSortOrdered_int_b1 0 s89.1 s89.2) k ((i : Int), d0)) o ∧ ∃ (j : Int) (d : List Int), o = .nxt (j, d) ∧ d.Perm d0 ∧ Srt d (i + 1) := by
  refine Ev.loopQ _ (fun st => ∃ j : Nat, st.1 = j ∧ j ≤ i ∧ st.2.Perm d0 ∧ (∀ p q, p < q → q ≤ i → p ≠ j → q ≠ j → st.2.getD p 0 ≤ st.2.getD q 0) ∧ (∀ p, j < p → p ≤ i → st.2.getD j 0 ≤ st.2.getD p 0)) (fun st => st.1.toNat) ⟨i, rfl, Nat.le_refl _, List.Perm.refl _, fun p q h1 h2 h3 h4 => hs p q h1 (by omega), fun p h1 h2 => by omega⟩ ?_
  rintro ⟨j', d⟩ ⟨j, e1, hj, hp, h1, h2⟩
  simp only at e1 hp h1 h2
  subst e1
  have hl := hp.length_eq
  unfold slices_insertionSortOrdered_int_b1
  simp only
  by_cases hj0 : j = 0
  · subst hj0
    rw [if_neg (by simp)]
    refine .inr (.inl ⟨_, rfl, _, _, rfl, hp, ?_⟩)
    intro p q hpq hq
    by_cases hp0 : p = 0
    · subst hp0
      exact h2 q hpq (by omega)
    · exact h1 p q hpq (by omega) hp0 (by omega)
  · rw [if_pos (by simp; omega), geti_getD (by omega) (by omega), Option.bind_some, i64_id (by omega) (by omega), geti_getD (by omega) (by omega), Option.bind_some, less_eq]
    have ej : ((j : Int) - 1).toNat = j - 1 := by omega
    rw [Int.toNat_natCast, ej]
    by_cases hlt : d.getD j 0 < d.getD (j - 1) 0
    · rw [if_pos (by simpa using hlt), geti_getD (by omega) (by rw [List.length_set]; omega), Option.bind_some]
      have hd2 : ∀ p, ((d.set j (d.getD (j - 1) 0)).set (j - 1) (d.getD j 0)).getD p 0 = if p = j - 1 then d.getD j 0 else if p = j then d.getD (j - 1) 0 else d.getD p 0 := by
        intro p
        rw [getD_set, getD_set, List.length_set]
        by_cases ha : p = j - 1
        · rw [if_pos ⟨ha, by omega⟩, if_pos ha]
        · rw [if_neg (fun h => ha h.1), if_neg ha]
          by_cases hb : p = j
          · rw [if_pos ⟨hb, by omega⟩, if_pos hb]
          · rw [if_neg (fun h => hb h.1), if_neg hb]
      refine .inl ⟨_, rfl, ⟨j - 1, by show (j : Int) - 1 = _; omega, by omega, ?_, ?_, ?_⟩, by show ((j : Int) - 1).toNat < (j : Int).toNat; omega⟩
      · refine List.Perm.trans ?_ hp
        have := List.set_set_perm (show j < d.length by omega) (show j - 1 < d.length by omega)
        have e1 : d.getD (j - 1) 0 = d[j - 1]'(by omega) := by rw [List.getD_eq_getElem?_getD, List.getElem?_eq_getElem (by omega)]; rfl
        have e2 : d.getD j 0 = d[j]'(by omega) := by rw [List.getD_eq_getElem?_getD, List.getElem?_eq_getElem (by omega)]; rfl
        rw [e1, e2]
        exact this
      · intro p q hpq hq hp' hq'
        show ((d.set j (d.getD (j - 1) 0)).set (j - 1) (d.getD j 0)).getD p 0 ≤ ((d.set j (d.getD (j - 1) 0)).set (j - 1) (d.getD j 0)).getD q 0
        rw [hd2, hd2, if_neg hp', if_neg hq']
        by_cases hpj : p = j
        · subst hpj
          rw [if_pos rfl, if_neg (by omega)]
          exact h1 (p - 1) q (by omega) hq (by omega) (by omega)
        · rw [if_neg hpj]
          by_cases hqj : q = j
          · rw [if_pos hqj]
            exact h1 p (j - 1) (by omega) (by omega) hpj (by omega)
          · rw [if_neg hqj]
            exact h1 p q hpq hq hpj hqj
      · intro p hjp hpi
        show ((d.set j (d.getD (j - 1) 0)).set (j - 1) (d.getD j 0)).getD (j - 1) 0 ≤ ((d.set j (d.getD (j - 1) 0)).set (j - 1) (d.getD j 0)).getD p 0
        rw [hd2, hd2, if_pos rfl, if_neg (by omega)]
        by_cases hpj : p = j
        · rw [if_pos hpj]
          omega
        · rw [if_neg hpj]
          exact h2 p (by omega) hpi
    · rw [if_neg (by simpa using hlt)]
      refine .inr (.inl ⟨_, rfl, _, _, rfl, hp, ?_⟩)
      intro p q hpq hq
      by_cases hpj : p = j
      · subst hpj
        exact h2 q hpq (by omega)
      · by_cases hqj : q = j
        · subst hqj
          by_cases hpq1 : p = q - 1
          · subst hpq1
            omega
          · have := h1 p (q - 1) (by omega) (by omega) hpj (by omega)
            omega
        · exact h1 p q hpq (by omega) hpj hqj
theorem insertionSort_ev {d0 : List Int} (hn : d0.length ≤ 1048576) : ∃ d, Ev (fun k => slices_insertionSortOrdered_int k d0 0 (d0.length : Int)) d ∧ d.Perm d0 ∧ Srt d d.length := by
  suffices h : ∃ o, Ev (fun k => loopF (fun s105 => slices_insertionSortOrdered_int_b2 k 0 (d0.length : Int) s105.1 s105.2) k ((IntKind.wrap .i64 (0 + 1)), d0)) o ∧ ∃ (j : Int) (d : List Int), o = .nxt (j, d) ∧ d.Perm d0 ∧ Srt d d.length by
    obtain ⟨o, ho, j, d, rfl, hp, hs⟩ := h
    exact ⟨d, Ev.eqv (Ev.jn ho (Ev.of rfl)) (fun k => rfl), hp, hs⟩
  rw [i64_id (by omega) (by omega)]
  refine Ev.loopQk _ (fun st => ∃ i : Nat, st.1 = i ∧ 1 ≤ i ∧ (i ≤ d0.length ∨ d0.length = 0) ∧ st.2.Perm d0 ∧ Srt st.2 i) (fun st => d0.length - st.1.toNat) ⟨1, rfl, Nat.le_refl _, by omega, List.Perm.refl _, fun p q h1 h2 => by omega⟩ ?_
  rintro ⟨i', d⟩ ⟨i, e1, hi1, hi, hp, hs⟩
  simp only at e1 hp hs
  subst e1
  have hl := hp.length_eq
  by_cases h : i < d0.length
  · obtain ⟨o, ho, j, d', rfl, hp', hs'⟩ := insert_ev (d0 := d) (i := i) (by omega) (by omega) hs
    refine .inl ⟨((i : Int) + 1, d'), ?_, ⟨i + 1, by show (i : Int) + 1 = _; omega, by omega, by omega, hp'.trans hp, hs'⟩, by show d0.length - ((i : Int) + 1).toNat < d0.length - (i : Int).toNat; omega⟩
    refine Ev.iteT (by simpa using h) (Ev.jn ho (Ev.of ?_))
    unfold slices_insertionSortOrdered_int_j1
    rw [i64_id (by omega) (by omega)]
  · refine .inr (.inl ⟨((i : Int), d), Ev.iteF (by simpa using h) Ev.rfl, _, _, rfl, hp, ?_⟩)
    intro p q h1 h2
    exact hs p q h1 (by omega)
theorem Len_small : ∀ n : Nat, n < 13 → (math_bits_Len (IntKind.wrap .u64 (n : Int))).isSome = true := by decide +kernel
theorem pdq_short {d0 : List Int} {lim : Int} (hn : d0.length ≤ 12) : ∃ d, Ev (fun k => slices_pdqsortOrdered_int k d0 0 (d0.length : Int) lim) d ∧ d.Perm d0 ∧ Srt d d.length := by
  obtain ⟨d, ⟨K, h⟩, hp, hs⟩ := insertionSort_ev (d0 := d0) (by omega)
  refine ⟨d, ⟨K + 2, fun k hk => ?_⟩, hp, hs⟩
  obtain ⟨k, rfl⟩ : ∃ k', k = k' + 2 := ⟨k - 2, by omega⟩
  simp only [slices_pdqsortOrdered_int, slices_pdqsortOrdered_int_rec, loopF, slices_pdqsortOrdered_int_b1]
  rw [i64_id (by omega) (by omega), if_pos (by simp only [decide_eq_true_eq]; omega)]
  have := h (k + 1) (by omega)
  simp only at this
  rw [this]
  rfl
theorem Sort_short {d0 : List Int} (hn : d0.length ≤ 12) : ∃ d, Ev (fun k => slices_Sort_int k d0) d ∧ d.Perm d0 ∧ Srt d d.length := by
  have hb := Len_small d0.length (by omega)
  obtain ⟨b, hb⟩ := Option.isSome_iff_exists.1 hb
  obtain ⟨d, h, hp, hs⟩ := pdq_short (d0 := d0) (lim := b) hn
  exact ⟨d, Ev.bindp hb (Ev.bind h Ev.rfl), hp, hs⟩
/-- A permutation of 0 .. n-1, sorted, is members in order. -/
theorem areMembers_eq {d : List Int} {n : Nat} (hn : n ≤ 1048576) (hl : d.length = n) (hnd : d.Nodup) (hin : ∀ x ∈ d, 0 ≤ x ∧ x < n) (hs : Srt d d.length) : impl_areMembers d (n : Int) = some true := by
  unfold impl_areMembers
  have hr : rangeL (fun i1 x2 _ => impl_areMembers_b1 d (n : Int) i1 x2) d () = some (.nxt ()) := by
    refine rangeL_to (by omega) (fun i r s => r = d.drop i) rfl ?_ (fun _ _ _ => rfl)
    rintro i x r s h
    have hx : d[i]? = some x := by
      have : (d.drop i)[0]? = some x := by rw [← h]; rfl
      simpa using this
    have hid := (List.getElem?_eq_some_iff.1 hx).1
    have hxm := hin x (List.mem_of_getElem? hx)
    refine .inl ⟨(), ?_, by rw [← List.drop_drop, ← h]; rfl⟩
    unfold impl_areMembers_b1
    rw [i64_id (by omega) (by omega), if_neg (by simp [impl_in]; omega)]
    by_cases hi0 : i = 0
    · subst hi0
      rw [if_neg (by simp)]
      rfl
    · rw [if_pos (by simp; omega), i64_id (by omega) (by omega), geti_getD (by omega) (by omega)]
      have e1 : ((i : Int) - 1).toNat = i - 1 := by omega
      rw [e1]
      have h1 := hs (i - 1) i (by omega) hid
      have e2 : d.getD i 0 = x := by rw [List.getD_eq_getElem?_getD, hx]; rfl
      have hne : d.getD (i - 1) 0 ≠ x := by
        intro e
        have e3 : d.getD (i - 1) 0 = d[i - 1]'(by omega) := by rw [List.getD_eq_getElem?_getD, List.getElem?_eq_getElem (by omega)]; rfl
        have e4 : x = d[i] := (List.getElem?_eq_some_iff.1 hx).2.symm
        rw [e3, e4] at e
        exact List.pairwise_iff_getElem.1 hnd (i - 1) i (by omega) hid (by omega) e
      rw [e2] at h1
      simp only [Option.bind_some]
      rw [if_neg (by simp only [decide_eq_true_eq]; omega)]
  rw [hr]
  rfl
end Go.Proofs.Ytddkoiapboeemaa.X
