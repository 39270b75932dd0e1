/- New groups, and steps one after the other. -/
import Derived.Test.YtdhibknhejhfaaaXCL14n
set_option linter.unusedVariables false
set_option linter.unusedSimpArgs false
namespace Go.Proofs.Ytdhibknhejhfaaa.X
open Go

theorem spec_new_loop {n : Nat} {E : List Int} (hn : n ≤ 5) (he : E.length ≤ 6) : Ev (fun k => loopF (fun s151 => spec_NewReaders_b2 (n : Int) E (List.replicate E.length 0) E s151.1 s151.2) k (0, ⟨0, [], List.replicate E.length 0, E⟩)) (.nxt ((n : Int), newR n E)) := by
  refine Ev.loop (fun s => ∃ i : Nat, i ≤ n ∧ s = ((i : Int), newR i E)) (fun s => n - s.1.toNat) ⟨0, by omega, rfl⟩ ?_
  rintro s ⟨i, hi, rfl⟩
  unfold spec_NewReaders_b2
  by_cases h : i < n
  · refine .inl ⟨(((i + 1 : Nat) : Int), newR (i + 1) E), ?_, ⟨i + 1, by omega, rfl⟩, by simp only [Int.toNat_natCast]; omega⟩
    rw [if_pos (by simpa using h), mkN_ok (by omega), Option.bind_some]
    unfold appN
    rw [if_pos (by simp [newR]; omega), Option.bind_some, wadd (by omega)]
    simp only [newR, grow_rep]
  · have : i = n := by omega
    subst this
    refine .inr (.inl ⟨((i : Int), newR i E), ?_, rfl⟩)
    rw [if_neg (by simp)]
    rfl
theorem new_ok (n : Int) (E : List Int) (hl : E.length ≤ 1048576) : ∃ v : Readers_ × Bool, Ev (fun k => spec_NewReaders k n E) v ∧ Ev (fun _ => impl_newReaders n E) v ∧ (v.2 = true → GrOk v.1 ∧ ∃ m, v.1 = newR m E ∧ (1 ≤ m ∧ m ≤ 5) ∧ (1 ≤ E.length ∧ E.length ≤ 6) ∧ ∀ (i : Nat) (e : Int), E[i]? = some e → 0 ≤ e ∧ e ≤ 100) := by
  by_cases h : (1 ≤ n ∧ n ≤ 5) ∧ (1 ≤ E.length ∧ E.length ≤ 6)
  · obtain ⟨hn, he⟩ := h
    have c1 : ((!(spec_l1In n 1 5)) || (!(spec_l1In (List.length E : Int) 1 6))) = false := by
      simp only [spec_l1In, Bool.or_eq_false_iff, Bool.not_eq_false', Bool.and_eq_true, decide_eq_true_eq]; omega
    have c2 : ((!(impl_in n 1 5)) || (!(impl_in (List.length E : Int) 1 6))) = false := by
      simp only [impl_in, Bool.or_eq_false_iff, Bool.not_eq_false', Bool.and_eq_true, decide_eq_true_eq]; omega
    have hnn : n = ((n.toNat : Nat) : Int) := by omega
    have sF := first_range (B := fun _ i18 x19 _ => spec_NewReaders_b1 i18 x19) (Q := fun _ (x : Int) => ¬ (0 ≤ x ∧ x ≤ 100)) (f := fun _ => ((⟨0, [], [], []⟩ : Readers_), false)) (l := E) (by omega) (fun i x hx => by
      unfold spec_NewReaders_b1
      refine ite_body ?_
      simp only [spec_l1In, Bool.not_eq_true', Bool.and_eq_false_iff, decide_eq_false_iff_not]
      omega)
    have iF := first_range (B := fun _ i1 x2 _ => slices_IndexFunc_int_b1 (fun a0 => some (impl_newReaders_1 a0)) i1 x2) (Q := fun _ (x : Int) => ¬ (0 ≤ x ∧ x ≤ 100)) (f := fun i => (i : Int)) (l := E) (by omega) (fun i x hx => by
      unfold slices_IndexFunc_int_b1 impl_newReaders_1
      simp only [Option.bind_some]
      refine ite_body ?_
      simp only [impl_in, Bool.not_eq_true', Bool.and_eq_false_iff, decide_eq_false_iff_not]
      omega)
    rcases sF with ⟨i, x, h1, h2, h3, h4⟩ | ⟨h1, h2⟩
    · rcases iF with ⟨j, y, g1, g2, g3, g4⟩ | ⟨g1, g2⟩
      · refine ⟨(⟨0, [], [], []⟩, false), ?_, ?_, fun e => by cases e⟩
        · unfold spec_NewReaders
          exact Ev.iteF c1 (Ev.jn_ret h4)
        · unfold impl_newReaders slices_ContainsFunc_int slices_IndexFunc_int
          refine Ev.bind (a := true) (Ev.iteF c2 (Ev.bind (Ev.bind (Ev.jn_ret g4) ?_) Ev.rfl)) (Ev.iteT rfl Ev.rfl)
          exact Ev.of (by simp)
      · exact absurd h2 (g1 i x h1)
    · rcases iF with ⟨j, y, g1, g2, g3, g4⟩ | ⟨g1, g2⟩
      · exact absurd g2 (h1 j y g1)
      · have hE : ∀ (i : Nat) (e : Int), E[i]? = some e → 0 ≤ e ∧ e ≤ 100 := fun i e he => Classical.not_not.1 (h1 i e he)
        refine ⟨(newR n.toNat E, true), ?_, ?_, fun _ => ⟨newR_ok (by omega) he hE, n.toNat, rfl, by omega, he, hE⟩⟩
        · unfold spec_NewReaders
          refine Ev.iteF c1 (Ev.jn h2 ?_)
          unfold spec_NewReaders_j2
          refine Ev.bindp (mkN_ok (by omega)) (Ev.bindp (appN_nil (by omega)) ?_)
          have := spec_new_loop (n := n.toNat) (E := E) (by omega) he.2
          rw [← hnn] at this
          exact Ev.jn this Ev.rfl
        · unfold impl_newReaders slices_ContainsFunc_int slices_IndexFunc_int
          refine Ev.bind (a := false) (Ev.iteF c2 (Ev.bind (Ev.bind (Ev.jn g2 Ev.rfl) Ev.rfl) Ev.rfl)) (Ev.iteF rfl (Ev.bindp (mkN_ok (by omega)) (Ev.bindp (appN_nil (by omega)) ?_)))
          have := impl_new_loop (n := n.toNat) (E := E) (by omega) he.2
          rw [← hnn] at this
          exact Ev.jn this Ev.rfl
  · refine ⟨(⟨0, [], [], []⟩, false), ?_, ?_, fun e => by cases e⟩
    · unfold spec_NewReaders
      refine Ev.iteT ?_ Ev.rfl
      simp only [spec_l1In, Bool.or_eq_true, Bool.not_eq_true', Bool.and_eq_false_iff, decide_eq_false_iff_not]
      omega
    · unfold impl_newReaders
      refine Ev.bind (a := true) (Ev.iteT ?_ Ev.rfl) (Ev.iteT rfl Ev.rfl)
      simp only [impl_in, Bool.or_eq_true, Bool.not_eq_true', Bool.and_eq_false_iff, decide_eq_false_iff_not]
      omega
/-- Steps, one after the other. -/
inductive Plays : Readers_ → List GroupStep → List Bool → Readers_ → Prop where
  | nil (r : Readers_) : Plays r [] [] r
  | cons {r r' r2 : Readers_} {x : GroupStep} {l : List GroupStep} {b : Bool} {d : List Bool} (h : StepOk r x b r') (t : Plays r' l d r2) : Plays r (x :: l) (b :: d) r2
theorem plays_ex : ∀ {l : List GroupStep} (hw : ∀ x ∈ l, inI x.K) {r : Readers_}, GrOk r → ∃ d r', Plays r l d r' ∧ GrOk r' := by
  intro l
  induction l with
  | nil => intro hw r h; exact ⟨[], r, .nil r, h⟩
  | cons x l ih =>
    intro hw r h
    obtain ⟨b, r', hs⟩ := step_ok h (hw x (by simp))
    obtain ⟨d, r2, h1, h2⟩ := ih (fun y hy => hw y (by simp [hy])) hs.2.2.2.1
    exact ⟨b :: d, r2, .cons hs h1, h2⟩
theorem Plays.len {r r' : Readers_} {l : List GroupStep} {d : List Bool} (h : Plays r l d r') : d.length = l.length := by
  induction h with
  | nil => rfl
  | cons _ _ ih => simp [ih]
theorem Plays.cut {r r' : Readers_} {l : List GroupStep} {d : List Bool} (h : Plays r l d r') : ∀ n : Nat, ∃ rk, Plays r (l.take n) (d.take n) rk ∧ Plays rk (l.drop n) (d.drop n) r' := by
  induction h with
  | nil r => intro n; exact ⟨r, by simpa using Plays.nil r, by simpa using Plays.nil r⟩
  | @cons r r1 r2 x l b d hs t ih =>
    intro n
    cases n with
    | zero => exact ⟨r, Plays.nil r, .cons hs t⟩
    | succ n =>
      obtain ⟨rk, h1, h2⟩ := ih n
      exact ⟨rk, .cons hs h1, h2⟩
theorem Plays.impl {r r' : Readers_} {l : List GroupStep} {d : List Bool} (h : Plays r l d r') : ∀ (i : Nat) (d0 : List Bool), d0.length + l.length ≤ 1000 → Ev (fun _ => rangeG (fun i x (s : List Bool × Readers_ × List Reader × List Int × List Int) => impl_PlayReaders_b1 i x s.1 s.2.1 s.2.2.1 s.2.2.2.1 s.2.2.2.2) l i (d0, r, r.Readers, r.Committed, r.Ends)) (.nxt (d0 ++ d, r', r'.Readers, r'.Committed, r'.Ends)) := by
  induction h with
  | nil r => intro i d0 _; rw [List.append_nil]; exact Ev.rfl
  | @cons r r1 r2 x l b d hs t ih =>
    intro i d0 hl
    simp only [List.length_cons] at hl
    obtain ⟨⟨K1, e1⟩, _⟩ := hs
    have e1 := e1 K1 (Nat.le_refl _)
    simp only at e1
    have ha : appN 1 d0 [b] = some (d0 ++ [b]) := by unfold appN; rw [if_pos (by simp; omega)]
    have := ih (i + 1) (d0 ++ [b]) (by simp; omega)
    rw [List.append_assoc] at this
    refine Ev.eqv this (fun k => ?_)
    have hb : impl_PlayReaders_b1 i x d0 r r.Readers r.Committed r.Ends = some (.nxt (d0 ++ [b], r1, r1.Readers, r1.Committed, r1.Ends)) := by
      unfold impl_PlayReaders_b1
      rw [show (Readers_.mk r.Generation r.Readers r.Committed r.Ends) = r from rfl, e1, Option.bind_some]
      dsimp only
      rw [ha, Option.bind_some]
    simp only [rangeG, hb]
theorem Plays.spec {r r' : Readers_} {l : List GroupStep} {d : List Bool} (h : Plays r l d r') (hr : GrOk r) : ∀ (i : Nat) (d0 : List Bool), d0.length + l.length ≤ 1000 → Ev (fun _ => rangeG (fun i x (s : List Bool × Readers_) => spec_PlayReaders_b1 i x s.1 s.2) l i (d0, r)) (.nxt (d0 ++ d, r')) := by
  induction h with
  | nil r => intro i d0 _; rw [List.append_nil]; exact Ev.rfl
  | @cons r r1 r2 x l b d hs t ih =>
    intro i d0 hl
    simp only [List.length_cons] at hl
    obtain ⟨_, ⟨s, ⟨K2, e2⟩, hs1⟩, hf, hr1, _⟩ := hs
    have e2 := e2 K2 (Nat.le_refl _)
    simp only at e2
    obtain ⟨K3, e3⟩ := own_spec (Nat.le_trans hr.nn_le (by omega))
    have e3 := e3 K3 (Nat.le_refl _)
    simp only at e3
    have ha : appN 1 d0 [b] = some (d0 ++ [b]) := by unfold appN; rw [if_pos (by simp; omega)]
    have := ih hr1 (i + 1) (d0 ++ [b]) (by simp; omega)
    rw [List.append_assoc] at this
    refine Ev.eqv this (fun k => ?_)
    have hb : spec_PlayReaders_b1 i x d0 r = some (.nxt (d0 ++ [b], r1)) := by
      unfold spec_PlayReaders_b1
      rw [e3, Option.bind_some, e2, Option.bind_some]
      dsimp only
      unfold spec_PlayReaders_j1
      dsimp only
      rw [ha]
      cases b with
      | true => rw [if_pos rfl, Option.bind_some, Option.bind_some, hs1 rfl]
      | false => rw [if_neg (by decide), Option.bind_some, Option.bind_some, hf rfl]
    simp only [rangeG, hb]
/-- All steps that are played: both sides. -/
theorem play_impl {n : Int} {E : List Int} {r r' : Readers_} {l : List GroupStep} {d : List Bool} (hn : Ev (fun _ => impl_newReaders n E) (r, true)) (h : Plays r l d r') (hl : l.length ≤ 80) : Ev (fun _ => impl_PlayReaders n E l) (r', d, true) := by
  unfold impl_PlayReaders
  refine Ev.bind hn (Ev.iteF (by simp; omega) (Ev.jn (s := (d, r', r'.Readers, r'.Committed, r'.Ends)) ?_ Ev.rfl))
  unfold rangeL
  simp only [if_pos (show l.length ≤ 4611686018427387904 by omega)]
  exact h.impl 0 [] (by simp; omega)
theorem play_impl_no {n : Int} {E : List Int} {r : Readers_} {b : Bool} {l : List GroupStep} (hn : Ev (fun _ => impl_newReaders n E) (r, b)) (hb : b = false ∨ 80 < l.length) : Ev (fun _ => impl_PlayReaders n E l) (⟨0, [], [], []⟩, [], false) := by
  unfold impl_PlayReaders
  refine Ev.bind hn (Ev.iteT ?_ Ev.rfl)
  rcases hb with rfl | hb
  · rfl
  · simp; omega
theorem play_spec {n : Int} {E : List Int} {r r' : Readers_} {l : List GroupStep} {d : List Bool} (hn : Ev (fun k => spec_NewReaders k n E) (r, true)) (hr : GrOk r) (h : Plays r l d r') (hr' : GrOk r') (hl : l.length ≤ 80) : Ev (fun k => spec_PlayReaders k n E l) (r', d, true) := by
  unfold spec_PlayReaders
  refine Ev.bind hn (Ev.iteF (by simp; omega) (Ev.jn (s := (d, r')) ?_ ?_))
  · unfold rangeL
    simp only [if_pos (show l.length ≤ 4611686018427387904 by omega)]
    exact h.spec hr 0 [] (by simp; omega)
  · unfold spec_PlayReaders_j2
    exact Ev.bind (own_spec (Nat.le_trans hr'.nn_le (by omega))) Ev.rfl
theorem play_spec_no {n : Int} {E : List Int} {r : Readers_} {b : Bool} {l : List GroupStep} (hn : Ev (fun k => spec_NewReaders k n E) (r, b)) (hb : b = false ∨ 80 < l.length) : Ev (fun k => spec_PlayReaders k n E l) (⟨0, [], [], []⟩, [], false) := by
  unfold spec_PlayReaders
  refine Ev.bind hn (Ev.iteT ?_ Ev.rfl)
  rcases hb with rfl | hb
  · rfl
  · simp; omega
end Go.Proofs.Ytdhibknhejhfaaa.X
