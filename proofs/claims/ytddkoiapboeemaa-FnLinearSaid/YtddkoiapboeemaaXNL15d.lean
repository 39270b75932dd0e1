/- The least order: two searches that find the same one. -/
import Derived.Test.YtddkoiapboeemaaXNL15b
set_option linter.unusedVariables false
set_option linter.unusedSimpArgs false
namespace Go.Proofs.Ytddkoiapboeemaa.X
open Go

/-- A whole order, as it is looked for. -/
def Full (n : Nat) (leg : List Int → Bool) (R : Int → Int → Bool) (o : List Int) : Prop := o.length = n ∧ o.Nodup ∧ (∀ x ∈ o, 0 ≤ x ∧ x < n) ∧ leg o = true ∧ o.Pairwise (fun a b => R a b = true)
instance (n : Nat) (leg : List Int → Bool) (R : Int → Int → Bool) (o : List Int) : Decidable (Full n leg R o) := by unfold Full; infer_instance
def best (n : Nat) (leg : List Int → Bool) (R : Int → Int → Bool) : Nat → List Int → Option (List Int)
  | 0, p => if Full n leg R p then some p else none
  | m + 1, p => (List.range' 0 n).findSome? (fun (i : Nat) => best n leg R m (p ++ [(i : Int)]))
section
variable {n : Nat} {leg : List Int → Bool} {R : Int → Int → Bool}
theorem best_some : ∀ (m : Nat) (p o : List Int), best n leg R m p = some o → Full n leg R o ∧ ∃ q, o = p ++ q := by
  intro m
  induction m with
  | zero =>
    intro p o h
    simp only [best] at h
    split at h
    · cases h
      exact ⟨by assumption, [], by simp⟩
    · cases h
  | succ m ih =>
    intro p o h
    simp only [best] at h
    obtain ⟨i, hi, h⟩ := List.exists_of_findSome?_eq_some h
    obtain ⟨h1, q, rfl⟩ := ih _ _ h
    exact ⟨h1, [(i : Int)] ++ q, by simp⟩
theorem best_none {m : Nat} {p : List Int} (h : ∀ q, ¬ Full n leg R (p ++ q)) : best n leg R m p = none := by
  cases hb : best n leg R m p with
  | none => rfl
  | some o =>
    obtain ⟨h1, q, rfl⟩ := best_some m p o hb
    exact absurd h1 (h q)
theorem nodup_len : ∀ (n : Nat) (l : List Nat), l.Nodup → (∀ x ∈ l, x < n) → l.length ≤ n := by
  intro n
  induction n with
  | zero =>
    intro l _ h
    cases l with
    | nil => simp
    | cons a r => exact absurd (h a (by simp)) (by omega)
  | succ n ih =>
    intro l hn h
    have h1 := ih (l.erase n) (hn.erase n) (fun x hx => by
      rw [hn.mem_erase_iff] at hx
      have := h x hx.2
      omega)
    rw [List.length_erase] at h1
    split at h1 <;> omega
/-- A whole order bears every number. -/
theorem Full.all {o : List Int} (h : Full n leg R o) {j : Int} (h0 : 0 ≤ j) (h1 : j < n) : j ∈ o := by
  have hsub : (o.map Int.toNat).Nodup := by
    rw [List.Nodup, List.pairwise_map]
    exact (List.pairwise_iff_forall_sublist.2 fun {a b} hab => by
      have hn : a ≠ b := List.pairwise_iff_forall_sublist.1 h.2.1 hab
      have ha := h.2.2.1 a (hab.subset (by simp))
      have hb := h.2.2.1 b (hab.subset (by simp))
      omega)
  have hall : ∀ x ∈ o.map Int.toNat, x < n := by
    intro x hx
    obtain ⟨y, hy, rfl⟩ := List.mem_map.1 hx
    have := h.2.2.1 y hy
    omega
  have hlen : (o.map Int.toNat).length = n := by rw [List.length_map, h.1]
  have : j.toNat ∈ o.map Int.toNat := by
    apply Classical.byContradiction
    intro hno
    have hnd : (j.toNat :: o.map Int.toNat).Nodup := List.nodup_cons.2 ⟨hno, hsub⟩
    have := nodup_len n _ hnd (by
      intro x hx
      rcases List.mem_cons.1 hx with rfl | hx
      · omega
      · exact hall x hx)
    rw [List.length_cons] at this
    omega
  obtain ⟨y, hy, e⟩ := List.mem_map.1 this
  have := h.2.2.1 y hy
  have : y = j := by omega
  exact this ▸ hy
end

/-! ### what the reference asks -/
theorem l1Has_eq {l : List Int} (hl : l.length ≤ 1048576) (n : Int) : spec_l1Has l n = some (decide (n ∈ l)) := by
  unfold spec_l1Has
  rw [rangeL_any (p := fun _ x => decide (x = n)) (q := true) (by omega) (fun j x hx => ?_)]
  · have : (l.zipIdx.any fun c => decide (c.1 = n)) = decide (n ∈ l) := by
      rw [Bool.eq_iff_iff, List.any_eq_true, decide_eq_true_eq]
      constructor
      · rintro ⟨⟨x, i⟩, hx, e⟩
        rw [decide_eq_true_eq] at e
        simp only at e
        subst e
        rw [List.mem_zipIdx_iff_getElem?] at hx
        exact List.mem_of_getElem? hx
      · intro h
        obtain ⟨i, hi, rfl⟩ := List.mem_iff_getElem.1 h
        exact ⟨(l[i], i), by rw [List.mem_zipIdx_iff_getElem?]; simp, by simp⟩
    rw [this]
    rcases Bool.eq_false_or_eq_true (decide (n ∈ l)) with h | h
    · rw [h]; rfl
    · rw [h]; rfl
  · unfold spec_l1Has_b1
    rcases Bool.eq_false_or_eq_true (decide (x = n)) with h | h
    · rw [h]; rfl
    · rw [h]; rfl
/-- In place: the numbers of an order are calls' places. -/
def Inl (n : Nat) (p : List Int) : Prop := ∀ x ∈ p, 0 ≤ x ∧ x < n
def Oks (l : List Call) : Prop := ∀ x ∈ l, 0 ≤ x.Object ∧ x.Object ≤ 2
theorem legal_body {l : List Call} (hl : Oks l) {x : Int} (h0 : 0 ≤ x) (h1 : x < l.length) {s : List Int} (hs : s.length = 3) (i : Nat) :
    impl_isLegal_b1 l i x s = spec_l15Legal_b1 l i x s ∧ ((∃ s', s'.length = 3 ∧ spec_l15Legal_b1 l i x s = some (.nxt s')) ∨ spec_l15Legal_b1 l i x s = some (.ret false)) := by
  obtain ⟨c, hc, hc'⟩ := geti_in (l := l) h0 h1
  have ho := hl c (List.mem_of_getElem? hc')
  obtain ⟨v, hv, hv'⟩ := geti_in (l := s) (i := c.Object) ho.1 (by omega)
  unfold impl_isLegal_b1 spec_l15Legal_b1
  rw [hc]
  simp only [Option.bind_some, hv, ck_pos (show c.Object < 3 by omega)]
  refine ⟨by first | trivial | (split <;> rfl), ?_⟩
  split
  · exact .inl ⟨_, by rw [List.length_set]; exact hs, rfl⟩
  · split
    · exact .inr rfl
    · exact .inl ⟨s, hs, rfl⟩
theorem legal_run {l : List Call} (hl : Oks l) : ∀ (p : List Int) (i : Nat) (s : List Int), Inl l.length p → s.length = 3 →
    rangeG (fun i x s => impl_isLegal_b1 l i x s) p i s = rangeG (fun i x s => spec_l15Legal_b1 l i x s) p i s ∧ ((∃ s', rangeG (fun i x s => spec_l15Legal_b1 l i x s) p i s = some (.nxt s')) ∨ rangeG (fun i x s => spec_l15Legal_b1 l i x s) p i s = some (.ret false)) := by
  intro p
  induction p with
  | nil => intro i s _ _; exact ⟨rfl, .inl ⟨s, rfl⟩⟩
  | cons x r ih =>
    intro i s hp hs
    have hx := hp x (by simp)
    obtain ⟨e, h | h⟩ := legal_body hl hx.1 hx.2 hs i
    · obtain ⟨s', hs', h⟩ := h
      simp only [rangeG, e, h]
      exact ih _ _ (fun y hy => hp y (by simp [hy])) hs'
    · simp only [rangeG, e, h]
      exact ⟨trivial, .inr trivial⟩
def legalB (l : List Call) (p : List Int) : Bool := decide (spec_l15Legal l p = some true)
theorem mk3 : mkN 8 3 (0 : Int) = some [0, 0, 0] := by decide
theorem legal_spec {l : List Call} (hl : Oks l) {p : List Int} (hp : Inl l.length p) (hn : p.length ≤ 1048576) : spec_l15Legal l p = some (legalB l p) ∧ impl_isLegal l p = some (legalB l p) := by
  have h := legal_run hl p 0 [0, 0, 0] hp rfl
  have e1 : spec_l15Legal l p = jn (rangeG (fun i x s => spec_l15Legal_b1 l i x s) p 0 [0, 0, 0]) (fun _ => some true) := by
    unfold spec_l15Legal
    rw [mk3, Option.bind_some, rangeL, if_pos (by omega)]
    rfl
  have e2 : impl_isLegal l p = jn (rangeG (fun i x s => impl_isLegal_b1 l i x s) p 0 [0, 0, 0]) (fun _ => some true) := by
    unfold impl_isLegal
    rw [rangeL, if_pos (by omega)]
    rfl
  have e3 : spec_l15Legal l p = some (legalB l p) := by
    unfold legalB
    rw [e1]
    rcases h.2 with ⟨s', h'⟩ | h' <;> rw [h'] <;> rfl
  exact ⟨e3, by rw [e2, h.1, ← e1, e3]⟩
theorem legal_pre {l : List Call} (hl : Oks l) {p q : List Int} (hp : Inl l.length p) (hn : (p ++ q).length ≤ 1048576) (h : legalB l p = false) : legalB l (p ++ q) = false := by
  rw [List.length_append] at hn
  have e1 : ∀ p : List Int, p.length ≤ 1048576 → spec_l15Legal l p = jn (rangeG (fun i x s => spec_l15Legal_b1 l i x s) p 0 [0, 0, 0]) (fun _ => some true) := by
    intro p hn
    unfold spec_l15Legal
    rw [mk3, Option.bind_some, rangeL, if_pos (by omega)]
    rfl
  have h2 := (legal_run hl p 0 [0, 0, 0] hp rfl).2
  unfold legalB at h ⊢
  rw [decide_eq_false_iff_not, e1 _ (by omega)] at h
  rw [decide_eq_false_iff_not, e1 _ (by rw [List.length_append]; omega)]
  rcases h2 with ⟨s', h'⟩ | h'
  · rw [h'] at h
    exact absurd rfl h
  · rw [rangeG_pre _ q _ _ h']
    intro e
    cases e
/-! ### the reference's search -/
def bef (c : Bool) (a b : Call) : Bool := if c = true then decide (a.Client = b.Client) && decide (a.Begin < b.Begin) else decide (a.End ≤ b.Begin)
theorem l15Before_eq (a b : Call) (c : Bool) : spec_l15Before a b c = some (bef c a b) := by
  unfold spec_l15Before bef
  split <;> rfl
/-- The second one need not be ahead of the first one. -/
def rel (l : List Call) (c : Bool) (a b : Int) : Bool := match l[a.toNat]?, l[b.toNat]? with
  | some x, some y => !(bef c y x)
  | _, _ => false
theorem rel_eq {l : List Call} {c : Bool} {a b : Int} {x y : Call} (ha : l[a.toNat]? = some x) (hb : l[b.toNat]? = some y) : rel l c a b = !(bef c y x) := by
  unfold rel
  rw [ha, hb]
theorem find_b1_eq {p : List Int} (hp : p.length ≤ 1048576) (c : Bool) (i : Nat) (x : Call) (j : Nat) (y : Call) (s : Bool) :
    spec_l15Find_b1 p c i x j y s = some (.nxt (if ((decide (j ≠ i) && !(decide ((j : Int) ∈ p))) && bef c y x) = true then false else s)) := by
  unfold spec_l15Find_b1
  rw [l1Has_eq hp, l15Before_eq]
  by_cases h : j = i
  · subst h
    simp
  · have h' : (j : Int) ≠ i := by omega
    rcases Bool.eq_false_or_eq_true (decide ((j : Int) ∈ p)) with h1 | h1
    · simp [h, h', h1]
    · rcases Bool.eq_false_or_eq_true (bef c y x) with h2 | h2 <;> simp [h, h', h1, h2]
theorem best_step {n : Nat} {leg : List Int → Bool} {R : Int → Int → Bool} {m : Nat} {p : List Int} {i k : Nat} {w : Option (List Int)} (h : (List.range' i (k + 1)).findSome? (fun (i : Nat) => best n leg R m (p ++ [(i : Int)])) = w) :
    (∃ o, best n leg R m (p ++ [(i : Int)]) = some o ∧ w = some o) ∨ (best n leg R m (p ++ [(i : Int)]) = none ∧ (List.range' (i + 1) k).findSome? (fun (i : Nat) => best n leg R m (p ++ [(i : Int)])) = w) := by
  rw [List.range'_succ, List.findSome?_cons] at h
  split at h
  · rename_i o ho
    exact .inl ⟨o, ho, h.symm⟩
  · rename_i ho
    exact .inr ⟨ho, h⟩
theorem find_eq {l : List Call} (hl : Oks l) (hn : l.length ≤ 1000) (c : Bool) : ∀ (m : Nat) (p : List Int) (k : Nat), p.length + m = l.length → Inl l.length p → p.Nodup → p.Pairwise (fun a b => rel l c a b = true) →
    (∀ a ∈ p, ∀ j : Nat, j < l.length → (j : Int) ∉ p → rel l c a j = true) → m < k → spec_l15Find k l p c = some ((best l.length (legalB l) (rel l c) m p).getD []) := by
  intro m
  induction m with
  | zero =>
    intro p k hpn hin hnd hpw hrest hk
    obtain ⟨k, rfl⟩ : ∃ k', k = k' + 1 := ⟨k - 1, by omega⟩
    simp only [spec_l15Find, spec_l15Find_rec]
    rw [(legal_spec hl hin (by omega)).1, Option.bind_some]
    rcases Bool.eq_false_or_eq_true (legalB l p) with h | h
    · rw [h, if_neg (by simp), if_pos (by simp only [decide_eq_true_eq]; omega)]
      simp only [best]
      rw [if_pos ⟨by omega, hnd, hin, h, hpw⟩]
      rfl
    · rw [h, if_pos (by simp)]
      simp only [best]
      rw [if_neg (fun hf => by rw [hf.2.2.2.1] at h; cases h)]
      rfl
  | succ m ih =>
    intro p k hpn hin hnd hpw hrest hk
    obtain ⟨k, rfl⟩ : ∃ k', k = k' + 1 := ⟨k - 1, by omega⟩
    simp only [spec_l15Find, spec_l15Find_rec]
    rw [(legal_spec hl hin (by omega)).1, Option.bind_some]
    rcases Bool.eq_false_or_eq_true (legalB l p) with h | h
    · rw [h, if_neg (by simp), if_neg (by simp only [decide_eq_true_eq]; omega)]
      have hr : rangeL (fun i6 x7 _ => spec_l15Find_b2 l p c (spec_l15Find k) i6 x7) l () = some (match best l.length (legalB l) (rel l c) (m + 1) p with | some o => .ret o | none => .nxt ()) := by
        refine rangeL_to (by omega) (fun i r s => i + r.length = l.length ∧ r = l.drop i ∧ (List.range' i r.length).findSome? (fun (i : Nat) => best l.length (legalB l) (rel l c) m (p ++ [(i : Int)])) = best l.length (legalB l) (rel l c) (m + 1) p) ⟨by simp, by simp, rfl⟩ ?_ ?_
        · rintro i x r s ⟨h1, h2, h3⟩
          simp only [List.length_cons] at h1 h3
          have hi : i < l.length := by omega
          have hx : l[i]? = some x := by
            have : (l.drop i)[0]? = some x := by rw [← h2]; rfl
            simpa using this
          have h2' : r = l.drop (i + 1) := by rw [← List.drop_drop, ← h2]; rfl
          have hst := best_step h3
          unfold spec_l15Find_b2
          rw [l1Has_eq (by omega), Option.bind_some]
          rw [rangeL_off (c := fun j y => (decide (j ≠ i) && !(decide ((j : Int) ∈ p))) && bef c y x) (by omega) (fun j y s hy => find_b1_eq (by omega) c i x j y s)]
          generalize hany : (l.zipIdx.any fun q => (decide (q.2 ≠ i) && !(decide ((q.2 : Int) ∈ p))) && bef c q.1 x) = A
          have hA : A = false → ∀ j : Nat, j < l.length → j ≠ i → (j : Int) ∉ p → rel l c i j = true := by
            intro hA j hj hji hjp
            rw [hA, List.any_eq_false] at hany
            have := hany (l[j], j) (by rw [List.mem_zipIdx_iff_getElem?]; simp [hj])
            have hjp' : decide ((j : Int) ∈ p) = false := decide_eq_false hjp
            simp only [hjp', decide_eq_true hji, Bool.not_false, Bool.true_and, Bool.not_eq_true, ne_eq] at this
            rw [rel_eq (x := x) (y := l[j]) (by simpa using hx) (by simp [hj]), this]
            rfl
          have hA' : A = true → ∃ j : Nat, j < l.length ∧ j ≠ i ∧ (j : Int) ∉ p ∧ rel l c i j = false := by
            intro hA
            rw [hA, List.any_eq_true] at hany
            obtain ⟨⟨y, j⟩, hy, hany⟩ := hany
            rw [List.mem_zipIdx_iff_getElem?] at hy
            simp only [Bool.and_eq_true, decide_eq_true_eq, Bool.not_eq_true', decide_eq_false_iff_not] at hany
            refine ⟨j, (List.getElem?_eq_some_iff.1 hy).1, hany.1.1, hany.1.2, ?_⟩
            rw [rel_eq (x := x) (y := y) (by simpa using hx) (by simpa using hy), hany.2]
            rfl
          by_cases hc : (i : Int) ∉ p ∧ A = false
          · -- a candidate
            have e1 : decide ((i : Int) ∈ p) = false := decide_eq_false hc.1
            have ein : Inl l.length (p ++ [(i : Int)]) := by
              intro y hy
              rcases List.mem_append.1 hy with hy | hy
              · exact hin y hy
              · rw [List.mem_singleton] at hy
                subst hy
                omega
            have end' : (p ++ [(i : Int)]).Nodup := by
              rw [List.nodup_append]
              refine ⟨hnd, by simp, ?_⟩
              rintro a ha b hb rfl
              rw [List.mem_singleton] at hb
              exact hc.1 (hb ▸ ha)
            have epw : (p ++ [(i : Int)]).Pairwise (fun a b => rel l c a b = true) := by
              rw [List.pairwise_append]
              refine ⟨hpw, by simp, fun a ha b hb => ?_⟩
              rw [List.mem_singleton] at hb
              subst hb
              exact hrest a ha i hi hc.1
            have erest : ∀ a ∈ p ++ [(i : Int)], ∀ j : Nat, j < l.length → (j : Int) ∉ p ++ [(i : Int)] → rel l c a j = true := by
              intro a ha j hj hja
              rw [List.mem_append, List.mem_singleton, not_or] at hja
              rcases List.mem_append.1 ha with ha | ha
              · exact hrest a ha j hj hja.1
              · rw [List.mem_singleton] at ha
                subst ha
                exact hA hc.2 j hj (by omega) hja.1
            have hrec := ih (p ++ [(i : Int)]) k (by simp; omega) ein end' epw erest (by omega)
            have ea : appN 8 ([] : List Int) p = some p := by
              unfold appN
              rw [if_pos (by simp only [List.length_nil]; omega)]
              rfl
            have eb : appN 8 p [(i : Int)] = some (p ++ [(i : Int)]) := by
              unfold appN
              rw [if_pos (by simp only [List.length_cons, List.length_nil]; omega)]
            simp only [e1, hc.2, Bool.not_false, Bool.and_self, jn, Option.bind_some, jnO, spec_l15Find_j1, Bool.not_true, Bool.false_eq_true, if_false, ea, eb, hrec]
            rcases hst with ⟨o, ho, hw⟩ | ⟨hnone, hw⟩
            · refine .inr (.inr ⟨o, ?_, ?_⟩)
              · rw [ho, Option.getD_some, if_pos]
                have := (best_some _ _ _ ho).1.1
                simp only [decide_eq_true_eq]
                omega
              · rw [hw]
            · refine .inl ⟨(), ?_, by omega, h2', hw⟩
              rw [hnone]
              rfl
          · -- none: nothing comes of it
            have hno : best l.length (legalB l) (rel l c) m (p ++ [(i : Int)]) = none := by
              refine best_none fun q hf => ?_
              by_cases hip : (i : Int) ∈ p
              · have := hf.2.1
                rw [List.append_assoc, List.nodup_append] at this
                exact this.2.2 _ hip (i : Int) (by simp) rfl
              · have hAt : A = true := by
                  rcases Bool.eq_false_or_eq_true A with h | h
                  · exact h
                  · exact absurd ⟨hip, h⟩ hc
                obtain ⟨j, hj, hji, hjp, hrel⟩ := hA' hAt
                have hm := hf.all (j := (j : Int)) (by omega) (by omega)
                rw [List.append_assoc, List.mem_append, List.mem_append, List.mem_singleton] at hm
                rcases hm with hm | hm | hm
                · exact hjp hm
                · omega
                · have := hf.2.2.2.2
                  rw [List.append_assoc, List.pairwise_append, List.pairwise_append] at this
                  have := this.2.1.2.2 (i : Int) (by simp) j hm
                  rw [hrel] at this
                  cases this
            rcases hst with ⟨o, ho, hw⟩ | ⟨_, hw⟩
            · rw [hno] at ho; cases ho
            · refine .inl ⟨(), ?_, by omega, h2', hw⟩
              have e : ((!decide ((i : Int) ∈ p)) && !A) = false := by
                rcases Bool.eq_false_or_eq_true A with h | h
                · rw [h]; simp
                · by_cases hip : (i : Int) ∈ p
                  · simp [hip]
                  · exact absurd ⟨hip, h⟩ hc
              rw [e]
              rfl
        · rintro i s ⟨h1, h2, h3⟩
          rw [← h3]
          rfl
      rw [hr]
      cases best l.length (legalB l) (rel l c) (m + 1) p <;> rfl
    · rw [h, if_pos (by simp)]
      rw [best_none (fun q hf => ?_)]
      · rfl
      · have := legal_pre (q := q) hl hin (by rw [hf.1]; omega) h
        rw [hf.2.2.2.1] at this
        cases this
/-! ### the program's search -/
theorem Contains_eq {l : List Int} (hl : l.length ≤ 1048576) (v : Int) : slices_Contains_int l v = some (decide (v ∈ l)) := by
  have h : ∃ r, slices_Index_int l v = some r ∧ (0 ≤ r ↔ v ∈ l) := by
    unfold slices_Index_int
    by_cases hv : v ∈ l
    · have hr : ∃ n : Nat, rangeL (fun i1 x2 _ => slices_Index_int_b1 v i1 x2) l () = some (.ret (n : Int)) := by
        obtain ⟨i, hi, hiv⟩ := List.mem_iff_getElem.1 hv
        have key : ∀ (r : List Int) (j : Nat), v ∈ r → ∃ n : Nat, rangeG (fun i1 x2 (_ : Unit) => slices_Index_int_b1 v i1 x2) r j () = some (.ret (n : Int)) := by
          intro r
          induction r with
          | nil => intro j h; cases h
          | cons x r ih =>
            intro j h
            simp only [rangeG, slices_Index_int_b1]
            by_cases hx : v = x
            · rw [if_pos (by simpa using hx)]
              exact ⟨j, rfl⟩
            · rw [if_neg (by simpa using hx)]
              rcases List.mem_cons.1 h with h | h
              · exact absurd h hx
              · exact ih _ h
        unfold rangeL
        rw [if_pos (by omega)]
        exact key l 0 hv
      obtain ⟨n, hn⟩ := hr
      rw [hn]
      exact ⟨n, rfl, by simp [hv]⟩
    · have hr : rangeL (fun i1 x2 _ => slices_Index_int_b1 v i1 x2) l () = some (.nxt ()) := by
        refine rangeL_to (by omega) (fun i r s => ∀ x ∈ r, x ≠ v) (fun x hx e => hv (e ▸ hx)) ?_ (fun _ _ _ => rfl)
        intro i x r s h
        refine .inl ⟨(), ?_, fun y hy => h y (by simp [hy])⟩
        unfold slices_Index_int_b1
        rw [if_neg (by simpa using fun e => h x (by simp) e.symm)]
      rw [hr]
      exact ⟨-1, rfl, by simp [hv]⟩
  obtain ⟨r, h1, h2⟩ := h
  unfold slices_Contains_int
  rw [h1, Option.bind_some]
  congr 1
  rw [decide_eq_decide]
  exact h2
theorem inOrder_eq {p : List Int} (hp : p.length ≤ 1048576) {may : Int → Int → Option Bool} {R : Int → Int → Bool} (hm : ∀ a ∈ p, ∀ b ∈ p, may a b = some (R a b)) : impl_inOrder p may = some (decide (p.Pairwise (fun a b => R a b = true))) := by
  unfold impl_inOrder
  rw [rangeL_any (p := fun i x => (p.take i).zipIdx.any fun q => !R q.1 x) (q := false) (by omega) (fun i x hx => ?_)]
  · have e : (p.zipIdx.any fun c => (p.take c.2).zipIdx.any fun q => !R q.1 c.1) = !decide (p.Pairwise (fun a b => R a b = true)) := by
      rw [Bool.eq_iff_iff, List.any_eq_true, Bool.not_eq_true', decide_eq_false_iff_not, List.pairwise_iff_getElem]
      constructor
      · rintro ⟨⟨x, i⟩, hx, hq⟩ hall
        rw [List.mem_zipIdx_iff_getElem?] at hx
        rw [List.any_eq_true] at hq
        obtain ⟨⟨y, j⟩, hy, hq⟩ := hq
        rw [List.mem_zipIdx_iff_getElem?] at hy
        simp only at hx hy hq
        obtain ⟨hi, rfl⟩ := List.getElem?_eq_some_iff.1 hx
        obtain ⟨hj, rfl⟩ := List.getElem?_eq_some_iff.1 hy
        simp only [List.length_take] at hj
        have := hall j i (by omega) hi (by omega)
        simp only [List.getElem_take, this, Bool.not_true] at hq
        cases hq
      · intro hno
        simp only [Classical.not_forall] at hno
        obtain ⟨j, i, hj, hi, hji, hR⟩ := hno
        refine ⟨(p[i], i), by rw [List.mem_zipIdx_iff_getElem?]; simp [hi], ?_⟩
        rw [List.any_eq_true]
        refine ⟨(p[j], j), by rw [List.mem_zipIdx_iff_getElem?]; simp [hj, hji], ?_⟩
        simpa using hR
    rw [e]
    rcases Bool.eq_false_or_eq_true (decide (p.Pairwise (fun a b => R a b = true))) with h | h
    · rw [h]; rfl
    · rw [h]; rfl
  · have hi : i < p.length := (List.getElem?_eq_some_iff.1 hx).1
    unfold impl_inOrder_b2
    rw [sl_take (Nat.le_of_lt hi), Option.bind_some]
    rw [rangeL_any (p := fun _ y => !R y x) (q := .ret false) (by rw [List.length_take]; omega) (fun j y hy => ?_)]
    · rcases Bool.eq_false_or_eq_true ((p.take i).zipIdx.any fun q => !R q.1 x) with h | h
      · rw [h]; rfl
      · rw [h]; rfl
    · unfold impl_inOrder_b1
      rw [hm y (List.mem_of_mem_take (List.mem_of_getElem? hy)) x (List.mem_of_getElem? hx), Option.bind_some]
      rcases Bool.eq_false_or_eq_true (R y x) with h | h <;> rw [h] <;> rfl
theorem orderFor_1_eq {l : List Call} (hl : Oks l) (hn : l.length ≤ 1000) {may : Int → Int → Option Bool} {R : Int → Int → Bool} (hm : ∀ a b : Int, 0 ≤ a → a < l.length → 0 ≤ b → b < l.length → may a b = some (R a b)) :
    ∀ (m : Nat) (p : List Int) (k : Nat), p.length + m = l.length → Inl l.length p → p.Nodup → p.Pairwise (fun a b => R a b = true) → legalB l p = true → m < k →
      impl_orderFor_1 k p l may = some (match best l.length (legalB l) R m p with | some o => (o, true) | none => ([], false)) := by
  intro m
  induction m with
  | zero =>
    intro p k hpn hin hnd hpw hleg hk
    obtain ⟨k, rfl⟩ : ∃ k', k = k' + 1 := ⟨k - 1, by omega⟩
    simp only [impl_orderFor_1, impl_orderFor_1_rec]
    rw [if_pos (by simp only [decide_eq_true_eq]; omega)]
    simp only [best]
    rw [if_pos ⟨by omega, hnd, hin, hleg, hpw⟩]
  | succ m ih =>
    intro p k hpn hin hnd hpw hleg hk
    obtain ⟨k, rfl⟩ : ∃ k', k = k' + 1 := ⟨k - 1, by omega⟩
    simp only [impl_orderFor_1, impl_orderFor_1_rec]
    rw [if_neg (by simp only [decide_eq_true_eq]; omega)]
    have hr : rangeI (fun i2 _ => impl_orderFor_1_b1 p l may (impl_orderFor_1 k) i2) (l.length : Int) () = some (match best l.length (legalB l) R (m + 1) p with | some o => .ret (o, true) | none => .nxt ()) := by
      refine rangeI_to (by omega) (fun i r s => i + r = l.length ∧ (List.range' i r).findSome? (fun (i : Nat) => best l.length (legalB l) R m (p ++ [(i : Int)])) = best l.length (legalB l) R (m + 1) p) ⟨by simp, rfl⟩ ?_ ?_
      · rintro i r s ⟨h1, h3⟩
        have hi : i < l.length := by omega
        have hst := best_step h3
        have ea : appN 8 ([] : List Int) p = some p := by
          unfold appN
          rw [if_pos (by simp only [List.length_nil]; omega)]
          rfl
        have eb : appN 8 p [(i : Int)] = some (p ++ [(i : Int)]) := by
          unfold appN
          rw [if_pos (by simp only [List.length_cons, List.length_nil]; omega)]
        have ein : Inl l.length (p ++ [(i : Int)]) := by
          intro y hy
          rcases List.mem_append.1 hy with hy | hy
          · exact hin y hy
          · rw [List.mem_singleton] at hy
            subst hy
            omega
        have elen : (p ++ [(i : Int)]).length ≤ 1048576 := by
          rw [List.length_append]
          simp only [List.length_cons, List.length_nil]
          omega
        unfold impl_orderFor_1_b1
        rw [ea, Option.bind_some, eb, Option.bind_some, Contains_eq (by omega), Option.bind_some, (legal_spec hl ein elen).2, inOrder_eq elen (R := R) (fun a ha b hb => hm a b (ein a ha).1 (ein a ha).2 (ein b hb).1 (ein b hb).2)]
        by_cases hc : (i : Int) ∉ p ∧ legalB l (p ++ [(i : Int)]) = true ∧ (p ++ [(i : Int)]).Pairwise (fun a b => R a b = true)
        · have end' : (p ++ [(i : Int)]).Nodup := by
            rw [List.nodup_append]
            refine ⟨hnd, by simp, ?_⟩
            rintro a ha b hb rfl
            rw [List.mem_singleton] at hb
            exact hc.1 (hb ▸ ha)
          have hrec := ih (p ++ [(i : Int)]) k (by simp; omega) ein end' hc.2.2 hc.2.1 (by omega)
          rw [decide_eq_false hc.1, hc.2.1, decide_eq_true hc.2.2, hrec]
          simp only [Bool.false_eq_true, if_false, Option.bind_some, Bool.not_true]
          rcases hst with ⟨o, ho, hw⟩ | ⟨hnone, hw⟩
          · rw [ho, hw]
            exact .inr (.inr ⟨_, rfl, rfl⟩)
          · rw [hnone]
            exact .inl ⟨(), rfl, by omega, hw⟩
        · have hno : best l.length (legalB l) R m (p ++ [(i : Int)]) = none := by
            refine best_none fun q hf => hc ⟨?_, ?_, ?_⟩
            · intro hip
              have := hf.2.1
              rw [List.append_assoc, List.nodup_append] at this
              exact this.2.2 _ hip (i : Int) (by simp) rfl
            · rcases Bool.eq_false_or_eq_true (legalB l (p ++ [(i : Int)])) with h | h
              · exact h
              · have := legal_pre (q := q) hl ein (by rw [hf.1]; omega) h
                rw [hf.2.2.2.1] at this
                cases this
            · exact (List.pairwise_append.1 hf.2.2.2.2).1
          rcases hst with ⟨o, ho, hw⟩ | ⟨_, hw⟩
          · rw [hno] at ho; cases ho
          · refine .inl ⟨(), ?_, by omega, hw⟩
            by_cases h1 : (i : Int) ∈ p
            · rw [decide_eq_true h1]; rfl
            · rw [decide_eq_false h1]
              rcases Bool.eq_false_or_eq_true (legalB l (p ++ [(i : Int)])) with h2 | h2
              · rw [h2, decide_eq_false (fun h => hc ⟨h1, h2, h⟩)]
                rfl
              · rw [h2]
                rfl
      · rintro i s ⟨h1, h3⟩
        rw [← h3]
        rfl
    rw [hr]
    cases best l.length (legalB l) R (m + 1) p <;> rfl
/-- The search only looks at relations between distinct places. -/
theorem best_congr {n : Nat} {leg : List Int → Bool} {R R' : Int → Int → Bool} (h : ∀ a b : Int, 0 ≤ a → a < n → 0 ≤ b → b < n → a ≠ b → R a b = R' a b) : ∀ (m : Nat) (p : List Int), best n leg R m p = best n leg R' m p := by
  have hF : ∀ o, Full n leg R o ↔ Full n leg R' o := by
    intro o
    unfold Full
    constructor
    · rintro ⟨h1, h2, h3, h4, h5⟩
      refine ⟨h1, h2, h3, h4, ?_⟩
      refine List.Pairwise.imp_of_mem ?_ (List.Pairwise.and h2 h5)
      intro a b ha hb hab
      rw [← h a b (h3 a ha).1 (h3 a ha).2 (h3 b hb).1 (h3 b hb).2 hab.1]
      exact hab.2
    · rintro ⟨h1, h2, h3, h4, h5⟩
      refine ⟨h1, h2, h3, h4, ?_⟩
      refine List.Pairwise.imp_of_mem ?_ (List.Pairwise.and h2 h5)
      intro a b ha hb hab
      rw [h a b (h3 a ha).1 (h3 a ha).2 (h3 b hb).1 (h3 b hb).2 hab.1]
      exact hab.2
  intro m
  induction m with
  | zero =>
    intro p
    simp only [best, hF]
  | succ m ih =>
    intro p
    simp only [best, ih]
theorem good_oks {l : List Call} (h : good l = true) : Oks l := by
  intro x hx
  have := good_call h hx
  simp only [spec_l15Call, spec_l1In, Bool.and_eq_true, decide_eq_true_eq] at this
  omega
theorem legal_nil (l : List Call) : legalB l [] = true := by
  unfold legalB spec_l15Legal
  rw [mk3]
  rfl
theorem best_len {n : Nat} {leg : List Int → Bool} {R : Int → Int → Bool} (hleg : leg [] = true) : decide ((((best n leg R n []).getD []).length : Int) = n) = (best n leg R n []).isSome := by
  cases hb : best n leg R n [] with
  | some o =>
    have := (best_some n [] o hb).1.1
    simp [this]
  | none =>
    cases n with
    | zero =>
      simp only [best] at hb
      rw [if_pos ⟨rfl, List.nodup_nil, (fun x hx => by cases hx), hleg, List.Pairwise.nil⟩] at hb
      cases hb
    | succ n =>
      simp only [Option.getD_none, List.length_nil, Option.isSome_none, decide_eq_false_iff_not]
      omega
end Go.Proofs.Ytddkoiapboeemaa.X
