/- Parts of owned slices, to be read. -/
import Derived.Test.YtddkoiapboeemaaZSlG
set_option linter.unusedVariables false
set_option linter.unusedSimpArgs false
namespace Go.Proofs.Ytddkoiapboeemaa.X
open Go
section
variable {E : Env} {W : Nat → Bool} {k : List It} {Q : QE} {fr : Fr} {h : Heap} {lo : Nat → Prop} {n0 : Nat} {S : List Obj} {d : Option Nat} {r : List XOper} {b : Nat} {ty : TypeId} {α : Type} {f : α → List XV} {l l2 l3 : List α} {sz : TypeId → Nat} {n bytes : Nat} {v w x : XV} {c c2 : List Obj} {I : Nat}

/-- w: the part of v that holds l2, from I on. -/
def SlW {α : Type} (n : Nat) (v : XV) (l : List α) (w : XV) (I : Nat) (l2 : List α) : Prop := ∃ j, I ≤ j ∧ j ≤ l.length ∧ l2 = (l.take j).drop I ∧ ((v = .nil ∧ w = .nil) ∨ ∃ b len cap, v = .row b 0 len cap ∧ w = .row b (I * n) (j - I) (cap - I))
theorem fl_dropn (hf : ∀ x, (f x).length = n) {i : Nat} (hi : i ≤ l.length) : (l.map f).flatten.drop (i * n) = ((l.drop i).map f).flatten := by
  have e : (l.map f).flatten = ((l.take i).map f).flatten ++ ((l.drop i).map f).flatten := fl_take_all hf hi
  have h1 : (((l.take i).map f).flatten).length = i * n := by rw [fl_len hf, List.length_take]; congr 1; omega
  rw [e, ← h1, List.drop_left]
theorem win_len {j : Nat} (h1 : I ≤ j) (h2 : j ≤ l.length) : ((l.take j).drop I).length = j - I := by simp; omega
theorem SlW.first (hW : SlW n v l w I l2) (H : SlF f n ty v l c) (hS : Sep h lo (c ++ S)) (hf : ∀ x, (f x).length = n) : firstOf h n w = some (l2.length, (l2.map f).flatten) := by
  obtain ⟨j, h1, h2, rfl, hw⟩ := hW
  rcases H with ⟨rfl, rfl, rfl⟩ | ⟨b, cap, junk, rfl, hc, hj, rfl, hjf⟩
  · rcases hw with ⟨_, rfl⟩ | ⟨b, len, cap, h, _⟩
    · simp; rfl
    · cases h
  · rcases hw with ⟨h0, _⟩ | ⟨b', len', cap', hv, rfl⟩
    · cases h0
    · cases hv
      have hb := Sep.bk _ _ _ hS
      have hl := fl_len (l := l) hf
      have hm : I * n + (j - I) * n = j * n := by rw [← Nat.add_mul]; congr 1; omega
      have hm2 : j * n ≤ l.length * n := Nat.mul_le_mul_right n h2
      unfold firstOf
      dsimp only
      rw [cells_b hb, if_pos (by rw [List.length_append, hl]; omega), win_len h1 h2]
      have e1 : ((l.map f).flatten ++ junk).drop (I * n) = ((l.drop I).map f).flatten ++ junk := by
        rw [List.drop_append_of_le_length (by rw [hl]; omega), fl_dropn hf (by omega)]
      have e2 : (((l.drop I).map f).flatten ++ junk).take ((j - I) * n) = (((l.drop I).take (j - I)).map f).flatten := by
        have h3 : (j - I) * n ≤ (((l.drop I).map f).flatten).length := by
          rw [fl_len hf, List.length_drop]; exact Nat.mul_le_mul_right n (by omega)
        rw [List.take_append_of_le_length h3, fl_take hf (by rw [List.length_drop]; omega)]
      rw [e1, e2, List.drop_take]
theorem SlW.get (hW : SlW n v l w I l2) {i : Int} {x : α} (hg : geti l2 i = some x) : geti l ((I : Int) + i) = some x := by
  obtain ⟨j, h1, h2, rfl, hw⟩ := hW
  obtain ⟨g0, g1, g2⟩ := geti_some hg
  rw [win_len h1 h2] at g1
  unfold geti
  rw [if_pos (by omega)]
  rw [List.getElem?_drop, List.getElem?_take_of_lt (by omega)] at g2
  rw [← g2]
  congr 1
  omega
theorem SlW.ia (hW : SlW n v l w I l2) (H : SlF f n ty v l c) (hb : SlB v b) {kk : IntKind} {i : Int} {x : α} (hg : geti l2 i = some x) : xia n w (.int kk i) = some (.ptr b (((I : Int) + i).toNat * n)) := by
  obtain ⟨j, h1, h2, rfl, hw⟩ := hW
  obtain ⟨g0, g1, g2⟩ := geti_some hg
  rw [win_len h1 h2] at g1
  obtain ⟨len, cap, rfl⟩ := hb
  rcases hw with ⟨h0, _⟩ | ⟨b', len', cap', hv, rfl⟩
  · cases h0
  · cases hv
    have e : xia n (.row b (I * n) (j - I) (cap - I)) (.int kk i) = if 0 ≤ i ∧ i < (j - I : Nat) then some (.ptr b (I * n + i.toNat * n)) else none := rfl
    rw [e, if_pos ⟨g0, g1⟩, ← Nat.add_mul, show I + i.toNat = ((I : Int) + i).toNat by omega]
theorem SlW.snap {m : Nat} (hW : SlW n v l w I l2) (H : SlF f n ty v l c) (hS : Sep h lo (c ++ S)) (hsz : sz ty = n) (hf : ∀ x, (f x).length = n) (hc : ∀ x, (f x).mapM (snap h sz m) = some (f x)) : snap h sz (m + 1) w = some (lst f l2) := by
  have hfst := hW.first H hS hf
  obtain ⟨j, h1, h2, rfl, hw⟩ := hW
  rcases H with ⟨rfl, rfl, rfl⟩ | ⟨b, cap, junk, rfl, hcp, hj, rfl, hjf⟩
  · rcases hw with ⟨_, rfl⟩ | ⟨b, len, cap, h, _⟩
    · simp; rfl
    · cases h
  · rcases hw with ⟨h0, _⟩ | ⟨b', len', cap', hv, rfl⟩
    · cases h0
    · cases hv
      have hb := Sep.bk _ _ _ hS
      simp only [X.snap, hb]
      rw [show j - I = ((l.take j).drop I).length from (win_len h1 h2).symm]
      rw [mapM_range_some (f := f) (l := (l.take j).drop I) (fun i x hx => ?_)]
      · rfl
      · have hl : l[I + i]? = some x := by
          have hi : i < j - I := by have := (List.getElem?_eq_some_iff.1 hx).1; rwa [win_len h1 h2] at this
          rw [List.getElem?_drop, List.getElem?_take_of_lt (by omega)] at hx
          exact hx
        have := readl hb hsz hf hl
        rw [hsz] at this ⊢
        rw [Nat.zero_add, Nat.add_mul] at this
        rw [this]
        exact hc x
theorem Sep.bne {b' : Nat} {cs cs' : List XV} {ty' : TypeId} (H : Sep h lo ([Blk1 b cs ty] ++ ([Blk1 b' cs' ty'] ++ S))) : b ≠ b' := by
  have := H.nodup
  simp [Blk1] at this
  exact this.1.1
theorem SlWN.snap {R : Rep α} (hW : SlW n v l w I l2) (H : SlN R n ty v l c) (m : Nat) (hS : Sep h lo (c ++ S)) (hsz : sz ty = n) (hR : RepOk sz R f n) : snap h sz (m + 3) w = some (lst f l2) := by
  obtain ⟨j, h1, h2, rfl, hw⟩ := hW
  rcases H with ⟨rfl, rfl, rfl⟩ | ⟨b, cap, junk, css, oss, rfl, g2, g3, g4, h5, h6⟩
  · rcases hw with ⟨_, rfl⟩ | ⟨b, len, cap, h, _⟩
    · simp; rfl
    · cases h
  · rcases hw with ⟨h0, _⟩ | ⟨b', len', cap', hv, rfl⟩
    · cases h0
    · cases hv
      have hS1 : Sep h lo ((Blk1 b (css.flatten ++ junk) ty :: oss.flatten) ++ S) := hS.cperm h6
      have hb : getBlk h b = some ⟨css.flatten ++ junk, ty, true⟩ := Sep.blk0 hS1
      have hS2 : Sep h lo (oss.flatten ++ S) := Sep.drop hS1
      have hrd := h5.reads (f := f) (g := X.snap h sz (m + 2)) (fun i x cs os _ _ ho hr => by
        obtain ⟨T, p⟩ := sep_at (oss := oss) (o1 := []) ho
        exact hR.snap (lo := lo) (S := T ++ S) m hr (by have := hS2.cperm p; rwa [List.append_assoc] at this))
      simp only [X.snap, hb, hsz]
      rw [show j - I = ((l.take j).drop I).length from (win_len h1 h2).symm]
      rw [mapM_range_some (f := f) (l := (l.take j).drop I) (fun i x hx => ?_)]
      · rfl
      · have hl : l[I + i]? = some x := by
          have hi : i < j - I := by have := (List.getElem?_eq_some_iff.1 hx).1; rwa [win_len h1 h2] at this
          rw [List.getElem?_drop, List.getElem?_take_of_lt (by omega)] at hx
          exact hx
        obtain ⟨cs, k1, k2⟩ := hrd _ x hl
        have := cells_at hb (h5.lens hR.len) k1
        rw [Nat.add_mul, Nat.zero_add] at this
        rw [this]
        exact k2
end
end Go.Proofs.Ytddkoiapboeemaa.X
