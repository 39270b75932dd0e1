/- Whole orders as lists of calls. -/
import Derived.Test.YtddkoiapboeemaaXNL15v
set_option linter.unusedVariables false
set_option linter.unusedSimpArgs false
namespace Go.Proofs.Ytddkoiapboeemaa.X
open Go

theorem best_isSome {n : Nat} {leg : List Int → Bool} {R : Int → Int → Bool} : ∀ (m : Nat) (p q : List Int), p.length + m = n → Full n leg R (p ++ q) → (best n leg R m p).isSome = true := by
  intro m
  induction m with
  | zero =>
    intro p q hp hf
    have : q = [] := by
      have := hf.1
      rw [List.length_append] at this
      exact List.eq_nil_of_length_eq_zero (by omega)
    subst this
    rw [List.append_nil] at hf
    simp only [best]
    rw [if_pos hf]
    rfl
  | succ m ih =>
    intro p q hp hf
    cases q with
    | nil =>
      have := hf.1
      rw [List.append_nil] at this
      omega
    | cons i q =>
      have hi := hf.2.2.1 i (by simp)
      simp only [best]
      rw [List.findSome?_isSome_iff]
      refine ⟨i.toNat, by rw [List.mem_range'_1]; omega, ?_⟩
      have e : ((i.toNat : Nat) : Int) = i := by omega
      rw [e]
      exact ih (p ++ [i]) q (by rw [List.length_append]; simp; omega) (by rw [List.append_assoc]; exact hf)
def atC (l : List Call) (i : Int) : Call := l.getD i.toNat default
theorem legal_legR {l : List Call} (hl : Oks l) : ∀ (o : List Int) (i : Nat) (st : List Int) (r : Int → Int), Inl l.length o → st.length = 3 → (∀ p : Int, 0 ≤ p → p ≤ 2 → st.getD p.toNat 0 = r p) →
    (rangeG (fun i x s => spec_l15Legal_b1 l i x s) o i st = some (.ret false) ∧ legR (o.map (atC l)) r = false) ∨ ((∃ st', rangeG (fun i x s => spec_l15Legal_b1 l i x s) o i st = some (.nxt st')) ∧ legR (o.map (atC l)) r = true) := by
  intro o
  induction o with
  | nil => intro i st r _ _ _; exact .inr ⟨⟨st, rfl⟩, rfl⟩
  | cons x o ih =>
    intro i st r hin hst hr
    have hx := hin x (by simp)
    obtain ⟨c, hc, hc'⟩ := geti_in (l := l) hx.1 hx.2
    have ho := hl c (List.mem_of_getElem? hc')
    have eat : atC l x = c := by
      unfold atC
      rw [List.getD_eq_getElem?_getD, hc']
      rfl
    obtain ⟨v, hv, hv'⟩ := geti_in (l := st) (i := c.Object) ho.1 (by omega)
    have hrv : r c.Object = v := by
      rw [← hr c.Object ho.1 ho.2, List.getD_eq_getElem?_getD, hv']
      rfl
    have hin' : Inl l.length o := fun y hy => hin y (by simp [hy])
    simp only [rangeG, spec_l15Legal_b1, hc, hv, Option.bind_some, List.map_cons, eat, legR]
    by_cases hw : c.Write = true
    · rw [if_pos hw, if_pos hw]
      refine ih (i + 1) _ _ hin' (by rw [List.length_set]; exact hst) (fun p h0 h2 => ?_)
      simp only [List.getD_eq_getElem?_getD, List.getElem?_set, updR]
      by_cases hp : p = c.Object
      · subst hp
        rw [if_pos rfl, if_pos (by omega), if_pos rfl]
        rfl
      · rw [if_neg (by omega), if_neg hp, ← hr p h0 h2, List.getD_eq_getElem?_getD]
    · rw [if_neg hw, if_neg hw, hrv]
      by_cases hval : v = c.Value
      · rw [if_neg (by simp [hval]), decide_eq_true hval, Bool.true_and]
        exact ih (i + 1) st r hin' hst hr
      · rw [if_pos (by simp [hval]), decide_eq_false hval]
        exact .inl ⟨rfl, rfl⟩
theorem legalB_legR {l : List Call} (hl : Oks l) {o : List Int} (hin : Inl l.length o) (hn : o.length ≤ 1048576) : legalB l o = legR (o.map (atC l)) (fun _ => 0) := by
  have e1 : spec_l15Legal l o = jn (rangeG (fun i x s => spec_l15Legal_b1 l i x s) o 0 [0, 0, 0]) (fun _ => some true) := by
    unfold spec_l15Legal
    rw [mk3, Option.bind_some, rangeL, if_pos (by omega)]
    rfl
  unfold legalB
  rw [e1]
  have h := legal_legR hl o 0 [0, 0, 0] (fun _ => 0) hin rfl (fun p h0 h2 => by
    have : p = 0 ∨ p = 1 ∨ p = 2 := by omega
    rcases this with rfl | rfl | rfl <;> rfl)
  rcases h with ⟨h1, h2⟩ | ⟨⟨st', h1⟩, h2⟩
  · rw [h1, h2]; rfl
  · rw [h1, h2]; rfl
theorem good_nodup {l : List Call} (h : good l = true) : l.Nodup := by
  unfold good at h
  simp only [Bool.and_eq_true, Bool.not_eq_true', List.any_eq_false] at h
  rw [List.Nodup, List.pairwise_iff_getElem]
  intro i j hi hj hij e
  have := h.1 (l[j], j) (by rw [List.mem_zipIdx_iff_getElem?]; simp [hj])
  unfold badAt at this
  simp only [Bool.or_eq_true, Bool.not_eq_true', not_or, List.any_eq_true, not_exists] at this
  have h2 := this.2 (l[i], i)
  rw [List.mem_zipIdx_iff_getElem?] at h2
  have hg := this.1
  simp only [Bool.not_eq_false] at hg
  simp only [List.getElem?_take, hij, if_true, List.getElem?_eq_getElem hi, true_and, Bool.and_eq_true, decide_eq_true_eq] at h2
  simp only [spec_l15Call, spec_l1In, Bool.and_eq_true, decide_eq_true_eq] at hg
  apply h2
  rw [e]
  omega
/-- Some order of these calls answers. -/
def LinC (l : List Call) : Prop := ∃ s : List Call, s.Perm l ∧ legR s (fun _ => 0) = true ∧ InT s
theorem relT_at {l : List Call} {a b : Int} (h0 : 0 ≤ a) (h1 : a < l.length) (h2 : 0 ≤ b) (h3 : b < l.length) : relT l a b = decide ((atC l a).Begin < (atC l b).End) := by
  obtain ⟨x, hx, hx'⟩ := geti_in h0 h1
  obtain ⟨y, hy, hy'⟩ := geti_in h2 h3
  unfold relT atC
  rw [hx', hy', List.getD_eq_getElem?_getD, List.getD_eq_getElem?_getD, hx', hy']
  rfl
theorem lin_to {l : List Call} (hg : good l = true) (h : (timeBest l).isSome = true) : LinC l := by
  obtain ⟨o, ho⟩ := Option.isSome_iff_exists.1 h
  obtain ⟨hf, _⟩ := best_some _ _ _ ho
  have h7 := good_len hg
  have hin : Inl l.length o := hf.2.2.1
  refine ⟨o.map (atC l), ?_, ?_, ?_⟩
  · have hinj : (o.map (atC l)).Nodup := by
      rw [List.Nodup, List.pairwise_map]
      refine List.Pairwise.imp_of_mem ?_ hf.2.1
      intro a b ha hb hab e
      have h1 := hin a ha
      have h2 := hin b hb
      unfold atC at e
      rw [List.getD_eq_getElem?_getD, List.getD_eq_getElem?_getD, List.getElem?_eq_getElem (by omega), List.getElem?_eq_getElem (by omega)] at e
      have hne : a.toNat ≠ b.toNat := by omega
      have hnd := List.pairwise_iff_getElem.1 (good_nodup hg)
      rcases Nat.lt_or_gt_of_ne hne with h | h
      · exact hnd _ _ (by omega) (by omega) h e
      · exact hnd _ _ (by omega) (by omega) h e.symm
    rw [List.perm_ext_iff_of_nodup hinj (good_nodup hg)]
    intro c
    constructor
    · intro hc
      obtain ⟨i, hi, rfl⟩ := List.mem_map.1 hc
      have h1 := hin i hi
      unfold atC
      rw [List.getD_eq_getElem?_getD, List.getElem?_eq_getElem (by omega)]
      exact List.getElem_mem _
    · intro hc
      obtain ⟨i, hi, rfl⟩ := List.mem_iff_getElem.1 hc
      refine List.mem_map.2 ⟨(i : Int), hf.all (by omega) (by omega), ?_⟩
      unfold atC
      rw [List.getD_eq_getElem?_getD, Int.toNat_natCast, List.getElem?_eq_getElem hi]
      rfl
  · rw [← legalB_legR (good_oks hg) hin (by rw [hf.1]; omega)]
    exact hf.2.2.2.1
  · unfold InT
    rw [List.pairwise_map]
    refine List.Pairwise.imp_of_mem ?_ hf.2.2.2.2
    intro a b ha hb hab
    rw [relT_at (hin a ha).1 (hin a ha).2 (hin b hb).1 (hin b hb).2] at hab
    exact of_decide_eq_true hab
theorem lin_of {l : List Call} (hg : good l = true) (h : LinC l) : (timeBest l).isSome = true := by
  obtain ⟨s, hp, hleg, ht⟩ := h
  have h7 := good_len hg
  have hnd := good_nodup hg
  have hsnd : s.Nodup := hp.nodup_iff.2 hnd
  have hidx : ∀ c ∈ s, l.idxOf c < l.length := fun c hc => List.idxOf_lt_length_of_mem (hp.mem_iff.1 hc)
  have hat : ∀ c ∈ s, atC l (l.idxOf c : Int) = c := by
    intro c hc
    unfold atC
    rw [List.getD_eq_getElem?_getD, Int.toNat_natCast, List.getElem?_eq_getElem (hidx c hc), List.getElem_idxOf]
    rfl
  have hmap : (s.map (fun c => (l.idxOf c : Int))).map (atC l) = s := by
    rw [List.map_map]
    conv => rhs; rw [← List.map_id s]
    exact List.map_congr_left (fun c hc => hat c hc)
  have hin : Inl l.length (s.map (fun c => (l.idxOf c : Int))) := by
    intro i hi
    obtain ⟨c, hc, rfl⟩ := List.mem_map.1 hi
    have := hidx c hc
    omega
  have hlen : (s.map (fun c => (l.idxOf c : Int))).length = l.length := by rw [List.length_map, hp.length_eq]
  refine best_isSome (l.length) [] (s.map (fun c => (l.idxOf c : Int))) (by simp) ⟨hlen, ?_, hin, ?_, ?_⟩
  · rw [List.nil_append, List.Nodup, List.pairwise_map]
    refine List.Pairwise.imp_of_mem ?_ hsnd
    intro a b ha hb hab e
    have h1 := hat a ha
    have h2 := hat b hb
    rw [e, h2] at h1
    exact hab h1.symm
  · rw [List.nil_append, legalB_legR (good_oks hg) hin (by rw [hlen]; omega), hmap]
    exact hleg
  · rw [List.nil_append, List.pairwise_map]
    refine List.Pairwise.imp_of_mem ?_ ht
    intro a b ha hb hab
    have h1 := hidx a ha
    have h2 := hidx b hb
    rw [relT_at (by omega) (by omega) (by omega) (by omega), hat a ha, hat b hb]
    exact decide_eq_true hab
theorem count_onO (c : Call) (s : List Call) : List.count c (onO c.Object s) = List.count c s := by
  unfold onO
  rw [List.count_filter (by simp)]
theorem lin_local {l : List Call} (hg : good l = true) : LinC l ↔ ∀ o : Int, 0 ≤ o → o ≤ 2 → LinC (onO o l) := by
  constructor
  · rintro ⟨s, hp, hleg, ht⟩ o _ _
    exact ⟨onO o s, hp.filter _, (legR_local s _).1 hleg o, List.Pairwise.filter _ ht⟩
  · intro h
    have hch : ∀ o : Int, ∃ s : List Call, (0 ≤ o ∧ o ≤ 2 → s.Perm (onO o l) ∧ legR s (fun _ => 0) = true ∧ InT s) ∧ (o < 0 ∨ 2 < o → s = []) := by
      intro o
      by_cases ho : 0 ≤ o ∧ o ≤ 2
      · obtain ⟨s, hs⟩ := h o ho.1 ho.2
        exact ⟨s, fun _ => hs, fun h => by omega⟩
      · exact ⟨[], fun h => absurd h ho, fun _ => rfl⟩
    obtain ⟨S, hS⟩ := Classical.axiomOfChoice hch
    have hout : ∀ o, o < 0 ∨ 2 < o → S o = [] := fun o ho => (hS o).2 ho
    have hin : ∀ o, 0 ≤ o ∧ o ≤ 2 → (S o).Perm (onO o l) ∧ legR (S o) (fun _ => 0) = true ∧ InT (S o) := fun o ho => (hS o).1 ho
    have hmem : ∀ o, ∀ x ∈ S o, x.Object = o ∧ x.Begin < x.End := by
      intro o x hx
      by_cases ho : o < 0 ∨ 2 < o
      · rw [hout o ho] at hx; cases hx
      · have := (hin o (by omega)).1.mem_iff.1 hx
        unfold onO at this
        rw [List.mem_filter] at this
        have hc := good_call hg this.1
        simp only [spec_l15Call, spec_l1In, Bool.and_eq_true, decide_eq_true_eq] at hc
        exact ⟨by simpa using this.2, by omega⟩
    obtain ⟨s, ht, hs⟩ := merge_orders _ S rfl hmem hout (by
      intro o
      by_cases ho : o < 0 ∨ 2 < o
      · rw [hout o ho]; exact List.Pairwise.nil
      · exact (hin o (by omega)).2.2)
    refine ⟨s, ?_, ?_, ht⟩
    · rw [List.perm_iff_count]
      intro c
      rw [← count_onO, hs, ← count_onO c l]
      by_cases ho : c.Object < 0 ∨ 2 < c.Object
      · rw [hout _ ho]
        have : c ∉ onO c.Object l := by
          intro hc
          unfold onO at hc
          rw [List.mem_filter] at hc
          have := good_oks hg c hc.1
          omega
        rw [List.count_eq_zero_of_not_mem this]
        rfl
      · exact (hin _ (by omega)).1.count_eq c
    · rw [legR_local]
      intro o
      rw [hs]
      by_cases ho : o < 0 ∨ 2 < o
      · rw [hout o ho]; rfl
      · exact (hin o (by omega)).2.1
end Go.Proofs.Ytddkoiapboeemaa.X
