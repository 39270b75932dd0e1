/- New groups: shared. -/
import Derived.Test.YtdhibknhejhfaaaXCL14b
set_option linter.unusedVariables false
set_option linter.unusedSimpArgs false
namespace Go.Proofs.Ytdhibknhejhfaaa.X
open Go

def newR (n : Nat) (E : List Int) : Readers_ := ⟨0, List.replicate n ⟨false, 0, [], List.replicate E.length 0⟩, List.replicate E.length 0, E⟩
theorem newR_ok {n : Nat} {E : List Int} (hn : 1 ≤ n ∧ n ≤ 5) (he : 1 ≤ E.length ∧ E.length ≤ 6) (hE : ∀ (i : Nat) (e : Int), E[i]? = some e → 0 ≤ e ∧ e ≤ 100) : GrOk (newR n E) := by
  refine ⟨⟨by simp [newR], by simp [newR]⟩, by simpa [newR] using hn, he, hE, by simp [newR], fun i c e h1 h2 => ?_, fun i x hx => ?_⟩
  · have h3 : c = 0 := by
      obtain ⟨hi, e⟩ := List.getElem?_eq_some_iff.1 h1
      simpa [newR] using e.symm
    have := hE i e h2
    omega
  · have : x = ⟨false, 0, [], List.replicate E.length 0⟩ := by
      obtain ⟨hi, e⟩ := List.getElem?_eq_some_iff.1 hx
      simpa [newR] using e.symm
    rw [this]
    exact RdOk.zero hE
theorem grow_rep {α : Type} {i : Nat} {x : α} : List.replicate i x ++ [x] = List.replicate (i + 1) x := by
  rw [List.replicate_succ']
theorem impl_new_loop {n : Nat} {E : List Int} (hn : n ≤ 5) (he : E.length ≤ 6) : Ev (fun _ => rangeI (fun i76 s126 => impl_newReaders_b1 E (List.replicate E.length 0) E i76 s126) (n : Int) ⟨0, [], List.replicate E.length 0, E⟩) (.nxt (newR n E)) := by
  simp only [rangeI_L]
  refine rangeL_Ev (B := fun _ i _ s => impl_newReaders_b1 E (List.replicate E.length 0) E i s) (by simp; omega) (fun i q s => i + q.length = n ∧ s = newR i E) ⟨by simp, rfl⟩ (fun i x q s ⟨h1, hs⟩ => .inl ?_) (fun i s ⟨h1, hs⟩ => ?_)
  · subst hs
    simp only [List.length_cons] at h1
    refine ⟨newR (i + 1) E, Ev.of ?_, by omega, rfl⟩
    unfold impl_newReaders_b1
    rw [mkN_ok (by omega), Option.bind_some]
    unfold appN
    rw [if_pos (by simp [newR]; omega), Option.bind_some]
    simp only [newR, grow_rep]
  · subst hs
    simp only [List.length_nil, Nat.add_zero] at h1
    rw [h1]
end Go.Proofs.Ytdhibknhejhfaaa.X
