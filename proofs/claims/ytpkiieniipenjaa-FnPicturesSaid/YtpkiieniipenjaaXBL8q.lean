/- Drawn steps of worlds: the draw comes to an end. -/
import Derived.Test.YtpkiieniipenjaaXBLArefl
set_option linter.unusedVariables false
set_option linter.unusedSimpArgs false
namespace Go.Proofs.Ytpkiieniipenjaa.X
open Go

theorem app24_ok {l : List SnapStep} {x : SnapStep} (h : l.length ≤ 1000) : appN 24 l [x] = some (l ++ [x]) := by
  unfold appN
  rw [if_pos (by simp only [List.length_cons, List.length_nil]; omega)]
theorem steps_j4_ok {l : List SnapStep} {m : Int} {c : L1Cur} {x : SnapStep} (hl : l.length ≤ 900) (hm : 0 < m ∧ m ≤ 100) : spec_snapSteps_j4 l m c x = some (.nxt (l ++ [x], m - 1, c)) := by
  unfold spec_snapSteps_j4
  rw [app24_ok (by omega), Option.bind_some, i64_id (by omega) (by omega)]
theorem steps_j3_ok {l : List SnapStep} {m : Int} {c : L1Cur} {x : SnapStep} {t : Nat} (hl : l.length ≤ 900) (hm : 0 < m ∧ m ≤ 100) (hc : Cur t c) (ht : t ≤ 10000) : ∃ l' c', spec_snapSteps_j3 l m c x = some (.nxt (l', m - 1, c')) ∧ l'.length = l.length + 1 ∧ Cur (t + 4) c' := by
  unfold spec_snapSteps_j3
  obtain ⟨w, c1, h1, hc1⟩ := one_ok hc (by omega) 60 (by omega)
  rw [h1, Option.bind_some]
  cases w with
  | false =>
    refine ⟨l ++ [x], c1, ?_, by simp, hc1.le (by omega)⟩
    rw [if_neg (by simp), Option.bind_some]
    exact steps_j4_ok hl hm
  | true =>
    obtain ⟨w2, c2, h2, hc2, _⟩ := pick_ok hc1 (by omega) 5 (by omega)
    obtain ⟨w3, c3, h3, hc3, _⟩ := pick_ok hc2 (by omega) 14 (by omega)
    obtain ⟨w4, c4, h4, hc4, _⟩ := pick_ok hc3 (by omega) 3 (by omega)
    rw [if_pos rfl, h2, Option.bind_some, h3, Option.bind_some, h4, Option.bind_some, Option.bind_some]
    exact ⟨_, _, steps_j4_ok hl hm, by simp, hc4⟩
theorem steps_j2_ok {pn : Int} {l : List SnapStep} {m : Int} {c : L1Cur} {x : SnapStep} {t : Nat} (hp : pn ≤ 200) (hl : l.length ≤ 900) (hm : 0 < m ∧ m ≤ 100) (hc : Cur t c) (ht : t ≤ 9000) : ∃ l' c', spec_snapSteps_j2 pn l m c x = some (.nxt (l', m - 1, c')) ∧ l'.length = l.length + 1 ∧ Cur (t + 6) c' := by
  unfold spec_snapSteps_j2
  obtain ⟨w, c1, h1, hc1⟩ := one_ok hc (by omega) 12 (by omega)
  rw [h1, Option.bind_some]
  cases w with
  | false =>
    rw [if_neg (by simp), Option.bind_some]
    obtain ⟨l', c', a, b, e⟩ := steps_j3_ok (x := x) hl hm hc1 (by omega)
    exact ⟨l', c', a, b, e.le (by omega)⟩
  | true =>
    obtain ⟨w2, c2, h2, hc2, _⟩ := pick_ok hc1 (by omega) pn (by omega)
    rw [if_pos rfl, h2, Option.bind_some, Option.bind_some]
    obtain ⟨l', c', a, b, e⟩ := steps_j3_ok (x := ⟨3, w2, 0⟩) hl hm hc2 (by omega)
    exact ⟨l', c', a, b, e.le (by omega)⟩
theorem chans_small {pn : Int} (hp : 2 ≤ pn ∧ pn ≤ 4) : IntKind.wrap .i64 ((IntKind.wrap .i64 (pn * (IntKind.wrap .i64 (pn - 1)))) + 1) ≤ 200 := by
  have : pn = 2 ∨ pn = 3 ∨ pn = 4 := by omega
  rcases this with rfl | rfl | rfl <;> decide
theorem steps_b1_ok {pn m : Int} {l : List SnapStep} {c : L1Cur} {t : Nat} (hp : 2 ≤ pn ∧ pn ≤ 4) (hl : l.length ≤ 900) (hm : 0 < m ∧ m ≤ 100) (hc : Cur t c) (ht : t ≤ 8000) : ∃ l' c', spec_snapSteps_b1 pn l m c = some (.nxt (l', m - 1, c')) ∧ l'.length = l.length + 1 ∧ Cur (t + 9) c' := by
  unfold spec_snapSteps_b1
  obtain ⟨w1, c1, h1, _, hc1⟩ := among_ok hc (by omega) [1, 1, 2, 2, 2, 2, 2] (by decide) (by decide)
  obtain ⟨w2, c2, h2, hc2, _⟩ := pick_ok hc1 (by omega) _ (chans_small hp)
  rw [if_pos (by simpa using hm.1), h1, Option.bind_some, h2, Option.bind_some]
  by_cases h3 : w1 = 1
  · obtain ⟨w3, c3, h4, hc3, _⟩ := pick_ok hc2 (by omega) 9 (by omega)
    rw [if_pos (by simpa using h3), h4, Option.bind_some, Option.bind_some]
    obtain ⟨l', c', a, b, e⟩ := steps_j2_ok (pn := pn) (x := ⟨w1, w2, IntKind.wrap .i64 (1 + w3)⟩) (by omega) hl hm hc3 (by omega)
    exact ⟨l', c', a, b, e.le (by omega)⟩
  · rw [if_neg (by simpa using h3), Option.bind_some]
    obtain ⟨l', c', a, b, e⟩ := steps_j2_ok (pn := pn) (x := ⟨w1, w2, 0⟩) (by omega) hl hm hc2 (by omega)
    exact ⟨l', c', a, b, e.le (by omega)⟩
theorem steps_ok {pn : Int} {c : L1Cur} {t : Nat} (hp : 2 ≤ pn ∧ pn ≤ 4) (hc : Cur t c) (ht : t ≤ 3000) : ∃ l c', Ev (fun k => spec_snapSteps k c pn) (l, c') ∧ l.length ≤ 100 ∧ Cur (t + 1000) c' := by
  obtain ⟨w1, c1, h1, hc1, g0, g1⟩ := pick_ok hc (by omega) 40 (by omega)
  obtain ⟨w2, c2, h2, hc2⟩ := one_ok hc1 (by omega) 12 (by omega)
  have hj1 : ∀ (n : Int) (c : L1Cur), 0 ≤ n → n ≤ 90 → Cur (t + 3) c → ∃ l c', Ev (fun k => spec_snapSteps_j1 k pn n c) (l, c') ∧ l.length ≤ 100 ∧ Cur (t + 1000) c' := by
    intro n c hn0 hn1 hc
    have key := Ev.loopQ (B := fun s225 : List SnapStep × Int × L1Cur => spec_snapSteps_b1 pn s225.1 s225.2.1 s225.2.2) (s := (([], n, c) : List SnapStep × Int × L1Cur))
      (fun o => ∃ (l : List SnapStep) (m : Int) (c : L1Cur), o = .nxt (l, m, c) ∧ l.length ≤ 100 ∧ Cur (t + 1000) c)
      (fun st => ∃ j : Nat, (j : Int) + st.2.1 = n ∧ 0 ≤ st.2.1 ∧ st.1.length = j ∧ Cur (t + 3 + 9 * j) st.2.2)
      (fun st => st.2.1.toNat) ⟨0, by simp, hn0, rfl, by simpa using hc⟩ ?_
    · obtain ⟨o, ho, l, m, c2, rfl, hl1, hc2⟩ := key
      exact ⟨l, c2, Ev.eqv (Ev.jn (G := fun _ s => spec_snapSteps_j5 s.1 s.2.1 s.2.2) ho (Ev.of (rfl : spec_snapSteps_j5 l m c2 = some (l, c2)))) (fun k => rfl), hl1, hc2⟩
    · rintro ⟨l, m, c2⟩ ⟨j, hj, hm, hl, hc2⟩
      simp only at hj hm hl hc2
      by_cases hm0 : 0 < m
      · obtain ⟨l', c', a, b, e⟩ := steps_b1_ok hp (l := l) (m := m) (by omega) ⟨hm0, by omega⟩ hc2 (by omega)
        exact .inl ⟨_, a, ⟨j + 1, by simp only; omega, by simp only; omega, by simp only; omega, by simp only; exact e.le (by omega)⟩, by simp only; omega⟩
      · refine .inr (.inl ⟨(l, m, c2), ?_, l, m, c2, rfl, by omega, hc2.le (by omega)⟩)
        simp only [spec_snapSteps_b1]
        rw [if_neg (by simpa using hm0)]
  cases w2 with
  | true =>
    obtain ⟨w3, c3, h3, hc3, g2, g3⟩ := pick_ok hc2 (by omega) 12 (by omega)
    obtain ⟨l, c', he, r⟩ := hj1 (70 + w3) c3 (by omega) (by omega) hc3
    refine ⟨l, c', Ev.eqv he (fun k => ?_), r⟩
    simp only [spec_snapSteps, h1, h2, h3, Option.bind_some, if_true]
    rw [i64_id (by omega) (by omega)]
  | false =>
    obtain ⟨l, c', he, r⟩ := hj1 w1 c2 (by omega) (by omega) (hc2.le (by omega))
    refine ⟨l, c', Ev.eqv he (fun k => ?_), r⟩
    simp only [spec_snapSteps, h1, h2, Option.bind_some, Bool.false_eq_true, if_false]
theorem DrawPlay_ok {code : List Int} (hb : Bytes code) : ∃ n a l, Ev (fun k => spec_DrawPlaySnap k code) (n, a, l) ∧ l.length ≤ 100 := by
  obtain ⟨w1, c1, h1, hc1, g0, g1⟩ := pick_ok (c := L1Cur.mk code 0 0) (t := 0) ⟨hb, Int.le_refl _, Int.le_refl _⟩ (by omega) 3 (by omega)
  obtain ⟨w2, c2, h2, _, hc2⟩ := among_ok hc1 (by omega) [0, 5, 100, 250, 251] (by decide) (by decide)
  have e1 : IntKind.wrap .i64 (2 + w1) = 2 + w1 := i64_id (by omega) (by omega)
  obtain ⟨l, c3, h3, b1, _⟩ := steps_ok (pn := 2 + w1) (by omega) hc2 (by omega)
  refine ⟨2 + w1, w2, l, ?_, b1⟩
  simp only [spec_DrawPlaySnap, h1, h2, Option.bind_some, e1]
  exact Ev.bind h3 Ev.rfl
end Go.Proofs.Ytpkiieniipenjaa.X
