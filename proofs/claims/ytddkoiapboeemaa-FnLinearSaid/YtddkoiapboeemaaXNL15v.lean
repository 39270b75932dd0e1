/- Orders of calls, object by object. -/
import Derived.Test.YtddkoiapboeemaaXNL15t
set_option linter.unusedVariables false
set_option linter.unusedSimpArgs false
namespace Go.Proofs.Ytddkoiapboeemaa.X
open Go

def updR (r : Int → Int) (o v : Int) : Int → Int := fun p => if p = o then v else r p
/-- Legal from these registers on. -/
def legR : List Call → (Int → Int) → Bool
  | [], _ => true
  | x :: s, r => if x.Write = true then legR s (updR r x.Object x.Value) else (decide (r x.Object = x.Value) && legR s r)
def onO (o : Int) (s : List Call) : List Call := s.filter (fun c => decide (c.Object = o))
theorem legR_cong {o : Int} : ∀ (s : List Call) (r r' : Int → Int), (∀ x ∈ s, x.Object = o) → r o = r' o → legR s r = legR s r' := by
  intro s
  induction s with
  | nil => intro r r' _ _; rfl
  | cons x s ih =>
    intro r r' hs hr
    have hx := hs x (by simp)
    simp only [legR]
    split
    · exact ih _ _ (fun y hy => hs y (by simp [hy])) (by simp [updR, hx])
    · rw [hx, hr, ih r r' (fun y hy => hs y (by simp [hy])) hr]
theorem legR_local : ∀ (s : List Call) (r : Int → Int), legR s r = true ↔ ∀ o, legR (onO o s) r = true := by
  intro s
  induction s with
  | nil => intro r; simp [onO, legR]
  | cons x s ih =>
    intro r
    have hob : ∀ o, onO o (x :: s) = if x.Object = o then x :: onO o s else onO o s := by
      intro o
      unfold onO
      rw [List.filter_cons]
      by_cases h : x.Object = o <;> simp [h]
    have hon : ∀ o, ∀ y ∈ onO o s, y.Object = o := by
      intro o y hy
      simpa [onO] using (List.mem_filter.1 hy).2
    by_cases hw : x.Write = true
    · simp only [legR]
      rw [if_pos hw, ih]
      constructor
      · intro h o
        rw [hob]
        by_cases e : x.Object = o
        · rw [if_pos e]
          simp only [legR]
          rw [if_pos hw]
          exact h o
        · rw [if_neg e, ← h o]
          exact legR_cong (o := o) _ _ _ (hon o) (by simp [updR, Ne.symm e])
      · intro h o
        have := h o
        rw [hob] at this
        by_cases e : x.Object = o
        · rw [if_pos e] at this
          simp only [legR] at this
          rw [if_pos hw] at this
          exact this
        · rw [if_neg e] at this
          rw [← this]
          exact legR_cong (o := o) _ _ _ (hon o) (by simp [updR, Ne.symm e])
    · simp only [legR]
      rw [if_neg hw, Bool.and_eq_true, ih]
      constructor
      · rintro ⟨h0, h⟩ o
        rw [hob]
        by_cases e : x.Object = o
        · rw [if_pos e]
          simp only [legR]
          rw [if_neg hw, h0, h o]
          rfl
        · rw [if_neg e]
          exact h o
      · intro h
        have hx := h x.Object
        rw [hob, if_pos rfl] at hx
        simp only [legR] at hx
        rw [if_neg hw, Bool.and_eq_true] at hx
        refine ⟨hx.1, fun o => ?_⟩
        have := h o
        rw [hob] at this
        by_cases e : x.Object = o
        · subst e
          exact hx.2
        · rw [if_neg e] at this
          exact this
def InT (s : List Call) : Prop := s.Pairwise (fun x y => x.Begin < y.End)
theorem exists_min : ∀ (l : List Call), l ≠ [] → ∃ x ∈ l, ∀ z ∈ l, x.End ≤ z.End := by
  intro l
  induction l with
  | nil => intro h; exact absurd rfl h
  | cons a r ih =>
    intro _
    by_cases hr : r = []
    · subst hr
      exact ⟨a, by simp, fun z hz => by rw [List.mem_singleton] at hz; subst hz; omega⟩
    · obtain ⟨x, hx, hm⟩ := ih hr
      by_cases h : a.End ≤ x.End
      · refine ⟨a, by simp, fun z hz => ?_⟩
        rcases List.mem_cons.1 hz with rfl | hz
        · omega
        · have := hm z hz
          omega
      · refine ⟨x, by simp [hx], fun z hz => ?_⟩
        rcases List.mem_cons.1 hz with rfl | hz
        · omega
        · exact hm z hz
/-- Orders for each of the three objects make one whole order. -/
theorem merge_orders : ∀ (n : Nat) (S : Int → List Call), (S 0).length + (S 1).length + (S 2).length = n → (∀ o, ∀ x ∈ S o, x.Object = o ∧ x.Begin < x.End) → (∀ o, o < 0 ∨ 2 < o → S o = []) → (∀ o, InT (S o)) →
    ∃ s, InT s ∧ ∀ o, onO o s = S o := by
  intro n
  induction n with
  | zero =>
    intro S h _ hout _
    refine ⟨[], List.Pairwise.nil, fun o => ?_⟩
    by_cases ho : o < 0 ∨ 2 < o
    · rw [hout o ho]; rfl
    · have : o = 0 ∨ o = 1 ∨ o = 2 := by omega
      have h0 : S 0 = [] := List.eq_nil_of_length_eq_zero (by omega)
      have h1 : S 1 = [] := List.eq_nil_of_length_eq_zero (by omega)
      have h2 : S 2 = [] := List.eq_nil_of_length_eq_zero (by omega)
      rcases this with rfl | rfl | rfl
      · rw [h0]; rfl
      · rw [h1]; rfl
      · rw [h2]; rfl
  | succ n ih =>
    intro S h hS hout hT
    obtain ⟨x, hx, hmin⟩ := exists_min (S 0 ++ S 1 ++ S 2) (fun e => by
      have := congrArg List.length e
      simp only [List.length_append, List.length_nil] at this
      omega)
    have hall : ∀ o, ∀ z ∈ S o, x.End ≤ z.End := by
      intro o z hz
      apply hmin
      by_cases ho : o < 0 ∨ 2 < o
      · rw [hout o ho] at hz; cases hz
      · have : o = 0 ∨ o = 1 ∨ o = 2 := by omega
        rcases this with rfl | rfl | rfl <;> simp [hz]
    have hxo : ∃ o, x ∈ S o ∧ (o = 0 ∨ o = 1 ∨ o = 2) := by
      rw [List.mem_append, List.mem_append] at hx
      rcases hx with (hx | hx) | hx
      · exact ⟨0, hx, .inl rfl⟩
      · exact ⟨1, hx, .inr (.inl rfl)⟩
      · exact ⟨2, hx, .inr (.inr rfl)⟩
    obtain ⟨o, hxo, ho⟩ := hxo
    cases hSo : S o with
    | nil => rw [hSo] at hxo; cases hxo
    | cons y rest =>
      have hyx : y.Begin < x.End := by
        have := hT o
        rw [hSo] at this hxo
        rcases List.mem_cons.1 hxo with rfl | hxr
        · exact (hS o x (by rw [hSo]; simp)).2
        · exact (List.pairwise_cons.1 this).1 x hxr
      obtain ⟨s, hs, hso⟩ := ih (fun p => if p = o then rest else S p) (by
          rcases ho with rfl | rfl | rfl <;> simp only [hSo, List.length_cons] at h <;> simp <;> omega)
        (by
          intro p z hz
          by_cases hp : p = o
          · subst hp
            simp only [if_true] at hz
            exact hS p z (by rw [hSo]; simp [hz])
          · simp only [if_neg hp] at hz
            exact hS p z hz)
        (by
          intro p hp
          rw [if_neg (by omega)]
          exact hout p hp)
        (by
          intro p
          by_cases hp : p = o
          · subst hp
            simp only [if_true]
            have := hT p
            rw [hSo] at this
            exact (List.pairwise_cons.1 this).2
          · simp only [if_neg hp]
            exact hT p)
      have hyo : y.Object = o := (hS o y (by rw [hSo]; simp)).1
      refine ⟨y :: s, List.pairwise_cons.2 ⟨fun z hz => ?_, hs⟩, fun p => ?_⟩
      · have hz2 : z ∈ onO z.Object s := by
          unfold onO
          rw [List.mem_filter]
          exact ⟨hz, by simp⟩
        rw [hso] at hz2
        have : x.End ≤ z.End := by
          by_cases hp : z.Object = o
          · rw [if_pos hp] at hz2
            exact hall o z (by rw [hSo]; simp [hz2])
          · rw [if_neg hp] at hz2
            exact hall _ z hz2
        omega
      · have := hso p
        unfold onO at this ⊢
        rw [List.filter_cons, this]
        by_cases hp : p = o
        · subst hp
          rw [if_pos (by simp [hyo]), if_pos rfl, hSo]
        · rw [if_neg (by simp [hyo, Ne.symm hp]), if_neg hp]
end Go.Proofs.Ytddkoiapboeemaa.X
