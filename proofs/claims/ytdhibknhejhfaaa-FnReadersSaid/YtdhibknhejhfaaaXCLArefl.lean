/- Rows that are the same, as the laws ask; numbers made of bytes; picks among numbers. -/
import Derived.Test.YtdhibknhejhfaaaXCD
import Derived.Test.YtdhibknhejhfaaaXCL15r
import Derived.Test.YtdhibknhejhfaaaXLib3
set_option linter.unusedVariables false
set_option linter.unusedSimpArgs false
namespace Go.Proofs.Ytdhibknhejhfaaa.X
open Go

theorem nxt_range {α ρ : Type} {B : Nat → Nat → α → Unit → Option (Oc Unit ρ)} {l : List α} (hl : l.length ≤ 4611686018427387904) (h : ∀ i x, l[i]? = some x → Ev (fun k => B k i x ()) (.nxt ())) : Ev (fun k => rangeL (B k) l ()) (.nxt ()) := by
  refine rangeL_Ev hl (fun i r _ => l.drop i = r) (by simp) (fun i x r s hr => .inl ?_) (fun i s _ => rfl)
  have hx : l[i]? = some x := by have := congrArg (fun z => z[0]?) hr; simpa using this
  exact ⟨(), h i x hx, by have := congrArg (List.drop 1) hr; simpa [List.drop_drop] using this⟩
theorem nxt_rangeI {ρ : Type} {B : Nat → Nat → Unit → Option (Oc Unit ρ)} {n : Nat} (hl : n ≤ 4611686018427387904) (h : ∀ i, i < n → Ev (fun k => B k i ()) (.nxt ())) : Ev (fun k => rangeI (B k) (n : Int) ()) (.nxt ()) := by
  simp only [rangeI_L]
  exact nxt_range (by simpa using hl) (fun i x hx => h i (by have := (List.getElem?_eq_some_iff.1 hx).1; simpa using this))
theorem sameInts_refl {l : List Int} (hl : l.length ≤ 4611686018427387904) : Ev (fun _ => laws_sameInts l l) true := by
  unfold laws_sameInts
  refine Ev.iteF (by simp) (Ev.jn (nxt_range hl (fun i x hx => ?_)) Ev.rfl)
  unfold laws_sameInts_b1
  rw [geti_nat hx]
  exact Ev.iteF (by simp) Ev.rfl
theorem sameBools_refl {l : List Bool} (hl : l.length ≤ 4611686018427387904) : Ev (fun _ => laws_sameBools l l) true := by
  unfold laws_sameBools
  refine Ev.iteF (by simp) (Ev.jn (nxt_range hl (fun i x hx => ?_)) Ev.rfl)
  unfold laws_sameBools_b1
  rw [geti_nat hx]
  exact Ev.iteF (by simp) Ev.rfl
theorem laws_has_is {l : List Int} {v : Int} (hl : l.length ≤ 4611686018427387904) : Is (fun _ => laws_has l v) (v ∈ l) := by
  unfold laws_has
  refine (Is.any (Q := fun _ x => x = v) hl (fun i x hx => ?_)).iff ?_
  · unfold laws_has_b1
    exact ite_body (by simp)
  · constructor
    · rintro ⟨i, x, h, rfl⟩; exact List.mem_of_getElem? h
    · intro h
      obtain ⟨i, hi⟩ := List.getElem?_of_mem h
      exact ⟨i, v, hi, rfl⟩
theorem numberOf_ok {l : List Int} (hl : l.length ≤ 4611686018427387904) (hb : Bytes l) : ∃ n, Ev (fun _ => laws_numberOf l) n ∧ 0 ≤ n ∧ n < 1000003 := by
  have key : ∀ (r : List Int) (i : Nat) (s : Int), Bytes r → 0 ≤ s → s < 1000003 → ∃ n, rangeG (fun i x s => laws_numberOf_b1 i x s) r i s = some (.nxt n) ∧ 0 ≤ n ∧ n < 1000003 := by
    intro r
    induction r with
    | nil => intro i s _ h0 h1; exact ⟨s, rfl, h0, h1⟩
    | cons x r ih =>
      intro i s hb h0 h1
      have hx := hb x (by simp)
      have e : laws_numberOf_b1 i x s = some (.nxt (Int.tmod (31 * s + x) 1000003)) := by
        unfold laws_numberOf_b1
        rw [i64_id (n := 31 * s) (by omega) (by omega), i64_id (n := x) (by omega) (by omega), i64_id (by omega) (by omega)]
      obtain ⟨n, h2, h3, h4⟩ := ih (i + 1) (Int.tmod (31 * s + x) 1000003) (fun y hy => hb y (by simp [hy])) (Int.tmod_nonneg _ (by omega)) (Int.tmod_lt_of_pos _ (by omega))
      exact ⟨n, by simp only [rangeG, e]; exact h2, h3, h4⟩
  obtain ⟨n, h1, h2, h3⟩ := key l 0 0 hb (by omega) (by omega)
  refine ⟨n, ?_, h2, h3⟩
  unfold laws_numberOf
  refine Ev.jn (s := n) (Ev.of ?_) Ev.rfl
  unfold rangeL
  rw [if_pos hl]
  exact h1
theorem among_ok {c : L1Cur} {t : Nat} (hc : Cur t c) (ht : t ≤ 1000000) (l : List Int) (h0 : 0 < l.length) (h1 : l.length ≤ 200) : ∃ v c', spec_among c l = some (v, c', l) ∧ v ∈ l ∧ Cur (t + 1) c' := by
  obtain ⟨v, c', h2, h3, h4, h5⟩ := pick_ok hc ht (l.length : Int) (by omega)
  obtain ⟨x, hx, hm⟩ := geti_in (l := l) (i := v) h4 (by omega)
  refine ⟨x, c', ?_, List.mem_of_getElem? hm, h3⟩
  unfold spec_among
  rw [h2, Option.bind_some, hx, Option.bind_some]
theorem Cur.le {t t' : Nat} {c : L1Cur} (h : Cur t c) (ht : t ≤ t') : Cur t' c := ⟨h.1, h.2.1, by have := h.2.2; omega⟩
end Go.Proofs.Ytdhibknhejhfaaa.X
