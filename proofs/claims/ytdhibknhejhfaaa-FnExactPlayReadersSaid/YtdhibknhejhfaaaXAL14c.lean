/- PlayReaders: one answer. -/
import Derived.Test.YtdhibknhejhfaaaXAL14b
import Derived.Test.YtdhibknhejhfaaaXAW
set_option linter.unusedVariables false
set_option linter.unusedSimpArgs false
namespace Go.Proofs.Ytdhibknhejhfaaa.X
open Go

def newR (n : Nat) (E : List Int) : Readers_ := ⟨0, List.replicate n ⟨false, 0, [], List.replicate E.length 0⟩, List.replicate E.length 0, E⟩
theorem newR_ok {n : Nat} {E : List Int} (hn : 1 ≤ n ∧ n ≤ 5) (he : 1 ≤ E.length ∧ E.length ≤ 6) (hE : ∀ (i : Nat) (e : Int), E[i]? = some e → 0 ≤ e ∧ e ≤ 100) : GrOk (newR n E) := by
  refine ⟨⟨by simp [newR], by simp [newR]⟩, by simpa [newR] using hn, he, hE, by simp [newR], fun i c e h1 h2 => ?_, fun i x hx => ?_⟩
  · have h3 : c = 0 := by
      obtain ⟨hi, e⟩ := List.getElem?_eq_some_iff.1 h1
      simpa [newR] using e.symm
    have := hE i e h2
    omega
  · have : x = ⟨false, 0, [], List.replicate E.length 0⟩ := by
      obtain ⟨hi, e⟩ := List.getElem?_eq_some_iff.1 hx
      simpa [newR] using e.symm
    rw [this]
    exact RdOk.zero hE
theorem grow_rep {α : Type} {i : Nat} {x : α} : List.replicate i x ++ [x] = List.replicate (i + 1) x := by
  rw [List.replicate_succ']
theorem impl_new_loop {n : Nat} {E : List Int} (hn : n ≤ 5) (he : E.length ≤ 6) : Ev (fun _ => rangeI (fun i76 s126 => impl_newReaders_b1 E (List.replicate E.length 0) E i76 s126) (n : Int) ⟨0, [], List.replicate E.length 0, E⟩) (.nxt (newR n E)) := by
  simp only [rangeI_L]
  refine rangeL_Ev (B := fun _ i _ s => impl_newReaders_b1 E (List.replicate E.length 0) E i s) (by simp; omega) (fun i q s => i + q.length = n ∧ s = newR i E) ⟨by simp, rfl⟩ (fun i x q s ⟨h1, hs⟩ => .inl ?_) (fun i s ⟨h1, hs⟩ => ?_)
  · subst hs
    simp only [List.length_cons] at h1
    refine ⟨newR (i + 1) E, Ev.of ?_, by omega, rfl⟩
    unfold impl_newReaders_b1
    rw [mkN_ok (by omega), Option.bind_some]
    unfold appN
    rw [if_pos (by simp [newR]; omega), Option.bind_some]
    simp only [newR, grow_rep]
  · subst hs
    simp only [List.length_nil, Nat.add_zero] at h1
    rw [h1]
theorem spec_new_loop {n : Nat} {E : List Int} (hn : n ≤ 5) (he : E.length ≤ 6) : Ev (fun k => loopF (fun s151 => spec_NewReaders_b2 (n : Int) E (List.replicate E.length 0) E s151.1 s151.2) k (0, ⟨0, [], List.replicate E.length 0, E⟩)) (.nxt ((n : Int), newR n E)) := by
  refine Ev.loop (fun s => ∃ i : Nat, i ≤ n ∧ s = ((i : Int), newR i E)) (fun s => n - s.1.toNat) ⟨0, by omega, rfl⟩ ?_
  rintro s ⟨i, hi, rfl⟩
  unfold spec_NewReaders_b2
  by_cases h : i < n
  · refine .inl ⟨(((i + 1 : Nat) : Int), newR (i + 1) E), ?_, ⟨i + 1, by omega, rfl⟩, by simp only [Int.toNat_natCast]; omega⟩
    rw [if_pos (by simpa using h), mkN_ok (by omega), Option.bind_some]
    unfold appN
    rw [if_pos (by simp [newR]; omega), Option.bind_some, wadd (by omega)]
    simp only [newR, grow_rep]
  · have : i = n := by omega
    subst this
    refine .inr (.inl ⟨((i : Int), newR i E), ?_, rfl⟩)
    rw [if_neg (by simp)]
    rfl
theorem new_ok (n : Int) (E : List Int) (hl : E.length ≤ 1048576) : ∃ v : Readers_ × Bool, Ev (fun k => spec_NewReaders k n E) v ∧ Ev (fun _ => impl_newReaders n E) v ∧ (v.2 = true → GrOk v.1) := by
  by_cases h : (1 ≤ n ∧ n ≤ 5) ∧ (1 ≤ E.length ∧ E.length ≤ 6)
  · obtain ⟨hn, he⟩ := h
    have c1 : ((!(spec_l1In n 1 5)) || (!(spec_l1In (List.length E : Int) 1 6))) = false := by
      simp only [spec_l1In, Bool.or_eq_false_iff, Bool.not_eq_false', Bool.and_eq_true, decide_eq_true_eq]; omega
    have c2 : ((!(impl_in n 1 5)) || (!(impl_in (List.length E : Int) 1 6))) = false := by
      simp only [impl_in, Bool.or_eq_false_iff, Bool.not_eq_false', Bool.and_eq_true, decide_eq_true_eq]; omega
    have hnn : n = ((n.toNat : Nat) : Int) := by omega
    have sF := first_range (B := fun _ i18 x19 _ => spec_NewReaders_b1 i18 x19) (Q := fun _ (x : Int) => ¬ (0 ≤ x ∧ x ≤ 100)) (f := fun _ => ((⟨0, [], [], []⟩ : Readers_), false)) (l := E) (by omega) (fun i x hx => by
      unfold spec_NewReaders_b1
      refine ite_body ?_
      simp only [spec_l1In, Bool.not_eq_true', Bool.and_eq_false_iff, decide_eq_false_iff_not]
      omega)
    have iF := first_range (B := fun _ i1 x2 _ => slices_IndexFunc_int_b1 (fun a0 => some (impl_newReaders_1 a0)) i1 x2) (Q := fun _ (x : Int) => ¬ (0 ≤ x ∧ x ≤ 100)) (f := fun i => (i : Int)) (l := E) (by omega) (fun i x hx => by
      unfold slices_IndexFunc_int_b1 impl_newReaders_1
      simp only [Option.bind_some]
      refine ite_body ?_
      simp only [impl_in, Bool.not_eq_true', Bool.and_eq_false_iff, decide_eq_false_iff_not]
      omega)
    rcases sF with ⟨i, x, h1, h2, h3, h4⟩ | ⟨h1, h2⟩
    · rcases iF with ⟨j, y, g1, g2, g3, g4⟩ | ⟨g1, g2⟩
      · refine ⟨(⟨0, [], [], []⟩, false), ?_, ?_, fun e => by cases e⟩
        · unfold spec_NewReaders
          exact Ev.iteF c1 (Ev.jn_ret h4)
        · unfold impl_newReaders slices_ContainsFunc_int slices_IndexFunc_int
          refine Ev.bind (a := true) (Ev.iteF c2 (Ev.bind (Ev.bind (Ev.jn_ret g4) ?_) Ev.rfl)) (Ev.iteT rfl Ev.rfl)
          exact Ev.of (by simp)
      · exact absurd h2 (g1 i x h1)
    · rcases iF with ⟨j, y, g1, g2, g3, g4⟩ | ⟨g1, g2⟩
      · exact absurd g2 (h1 j y g1)
      · have hE : ∀ (i : Nat) (e : Int), E[i]? = some e → 0 ≤ e ∧ e ≤ 100 := fun i e he => Classical.not_not.1 (h1 i e he)
        refine ⟨(newR n.toNat E, true), ?_, ?_, fun _ => newR_ok (by omega) he hE⟩
        · unfold spec_NewReaders
          refine Ev.iteF c1 (Ev.jn h2 ?_)
          unfold spec_NewReaders_j2
          refine Ev.bindp (mkN_ok (by omega)) (Ev.bindp (appN_nil (by omega)) ?_)
          have := spec_new_loop (n := n.toNat) (E := E) (by omega) he.2
          rw [← hnn] at this
          exact Ev.jn this Ev.rfl
        · unfold impl_newReaders slices_ContainsFunc_int slices_IndexFunc_int
          refine Ev.bind (a := false) (Ev.iteF c2 (Ev.bind (Ev.bind (Ev.jn g2 Ev.rfl) Ev.rfl) Ev.rfl)) (Ev.iteF rfl (Ev.bindp (mkN_ok (by omega)) (Ev.bindp (appN_nil (by omega)) ?_)))
          have := impl_new_loop (n := n.toNat) (E := E) (by omega) he.2
          rw [← hnn] at this
          exact Ev.jn this Ev.rfl
  · refine ⟨(⟨0, [], [], []⟩, false), ?_, ?_, fun e => by cases e⟩
    · unfold spec_NewReaders
      refine Ev.iteT ?_ Ev.rfl
      simp only [spec_l1In, Bool.or_eq_true, Bool.not_eq_true', Bool.and_eq_false_iff, decide_eq_false_iff_not]
      omega
    · unfold impl_newReaders
      refine Ev.bind (a := true) (Ev.iteT ?_ Ev.rfl) (Ev.iteT rfl Ev.rfl)
      simp only [impl_in, Bool.or_eq_true, Bool.not_eq_true', Bool.and_eq_false_iff, decide_eq_false_iff_not]
      omega
theorem play_loop : ∀ {l : List GroupStep} (hw : ∀ x ∈ l, inI x.K) (i : Nat) (d : List Bool) (r : Readers_), GrOk r → d.length + l.length ≤ 1000 → ∃ d' r', GrOk r' ∧ d'.length ≤ 1000 ∧ Ev (fun _ => rangeG (fun i x (s : List Bool × Readers_) => impl_PlayReaders_b1 i x s.1 s.2) l i (d, r)) (.nxt (d', r')) ∧ Ev (fun _ => rangeG (fun i x (s : List Bool × Readers_) => spec_PlayReaders_b1 i x s.1 s.2) l i (d, r)) (.nxt (d', r')) := by
  intro l
  induction l with
  | nil => intro hw i d r h hl; exact ⟨d, r, h, by simpa using hl, Ev.rfl, Ev.rfl⟩
  | cons x l ih =>
    intro hw i d r h hl
    simp only [List.length_cons] at hl
    obtain ⟨b, r', ⟨K1, e1⟩, ⟨s, ⟨K2, e2⟩, hs⟩, hf, h'⟩ := step_ok h (hw x (by simp))
    have e1 := e1 K1 (Nat.le_refl _)
    have e2 := e2 K2 (Nat.le_refl _)
    simp only at e1 e2
    obtain ⟨⟨K3, e3⟩⟩ : Nonempty (∃ K, ∀ k, K ≤ k → (fun _ : Nat => spec_l14Own r) k = some r) := ⟨own_spec (Nat.le_trans h.nn_le (by omega))⟩
    have e3 := e3 K3 (Nat.le_refl _)
    simp only at e3
    obtain ⟨d2, r2, h2, hd, f1, f2⟩ := ih (fun y hy => hw y (by simp [hy])) (i + 1) (d ++ [b]) r' h' (by simp; omega)
    have ha : appN 1 d [b] = some (d ++ [b]) := by unfold appN; rw [if_pos (by simp; omega)]
    refine ⟨d2, r2, h2, hd, Ev.eqv f1 (fun k => ?_), Ev.eqv f2 (fun k => ?_)⟩
    · have hb : impl_PlayReaders_b1 i x d r = some (.nxt (d ++ [b], r')) := by
        unfold impl_PlayReaders_b1
        rw [e1, Option.bind_some]
        dsimp only
        rw [ha, Option.bind_some]
      simp only [rangeG, hb]
    · have hb : spec_PlayReaders_b1 i x d r = some (.nxt (d ++ [b], r')) := by
        unfold spec_PlayReaders_b1
        rw [e3, Option.bind_some, e2, Option.bind_some]
        dsimp only
        unfold spec_PlayReaders_j1
        dsimp only
        rw [ha]
        cases b with
        | true => rw [if_pos rfl, Option.bind_some, Option.bind_some, hs rfl]
        | false => rw [if_neg (by decide), Option.bind_some, Option.bind_some, hf rfl]
      simp only [rangeG, hb]
theorem PlayReaders_core (v_0 : Int) (v_1 : List Int) (v_2 : List GroupStep) (w0 : inI v_0) (w1 : (wfL 8 inI) v_1) (w2 : (wfL 32 GroupStep.wf) v_2) (b0 : v_1.length ≤ 1048576) (b1 : v_2.length ≤ 1048576) : ∃ (r : Readers_ × List Bool × Bool), Ev (fun k => spec_PlayReaders k v_0 v_1 v_2) r ∧ Ev (fun k => impl_PlayReaders v_0 v_1 v_2) r ∧ r.1.nn ≤ 1048576 ∧ r.2.1.length ≤ 1048576 := by
  obtain ⟨⟨r, b⟩, e1, e2, hr⟩ := new_ok v_0 v_1 b0
  unfold spec_PlayReaders impl_PlayReaders
  by_cases hc : b = true ∧ v_2.length ≤ 80
  · obtain ⟨rfl, hl⟩ := hc
    have hg := hr rfl
    obtain ⟨d, r', h', hd, f1, f2⟩ := play_loop (l := v_2) (fun x hx => (w2.2 x hx).2.1) 0 [] r hg (by simp; omega)
    refine ⟨(r', d, true), Ev.bind e1 (Ev.iteF (by simp; omega) (Ev.jn (s := (d, r')) ?_ ?_)), Ev.bind e2 (Ev.iteF (by simp; omega) (Ev.jn (s := (d, r')) ?_ Ev.rfl)), Nat.le_trans h'.nn_le (by omega), by dsimp only; omega⟩
    · unfold rangeL
      simp only [if_pos (show v_2.length ≤ 4611686018427387904 by omega)]
      exact f2
    · unfold spec_PlayReaders_j2
      exact Ev.bind (own_spec (Nat.le_trans h'.nn_le (by omega))) Ev.rfl
    · unfold rangeL
      simp only [if_pos (show v_2.length ≤ 4611686018427387904 by omega)]
      exact f1
  · have hb : ((!b) || (decide ((80 : Int) < (List.length v_2 : Int)))) = true := by
      cases b with
      | false => rfl
      | true => simp at hc; simp; omega
    exact ⟨(⟨0, [], [], []⟩, [], false), Ev.bind e1 (Ev.iteT hb Ev.rfl), Ev.bind e2 (Ev.iteT hb Ev.rfl), by decide, by decide⟩
end Go.Proofs.Ytdhibknhejhfaaa.X
