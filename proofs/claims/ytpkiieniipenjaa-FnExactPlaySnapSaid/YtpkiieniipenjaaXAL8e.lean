/- PlaySnap: one answer. -/
import Derived.Test.YtpkiieniipenjaaXAL8d
import Derived.Test.YtpkiieniipenjaaXAW
set_option linter.unusedVariables false
set_option linter.unusedSimpArgs false
namespace Go.Proofs.Ytpkiieniipenjaa.X
open Go

theorem sumN_all {α : Type} {f : α → Nat} {m : Nat} : ∀ {l : List α}, (∀ x ∈ l, f x ≤ m) → sumN f l ≤ m * l.length := by
  intro l
  induction l with
  | nil => intro _; simp [sumN]
  | cons a r ih =>
    intro h
    have h1 := h a (by simp)
    have h2 := ih (fun x hx => h x (by simp [hx]))
    show f a + sumN f r ≤ m * (r.length + 1)
    rw [Nat.mul_add]; omega
theorem SnOk.nn_le {p : Nat} {s : Snap} (h : SnOk p s) : s.nn ≤ 1000 := by
  have hp := h.pp
  have h1 : sumN Chan.nn s.Chans ≤ 8 * s.Chans.length := sumN_all (fun c hc => by
    obtain ⟨i, hi⟩ := List.getElem?_of_mem hc
    have := (h.ch i c hi).2.2.2
    show c.Way.length + 0 ≤ 8
    omega)
  have h2 : sumN Picture.nn s.Pictures ≤ 8 * s.Pictures.length := sumN_all (fun c hc => by
    obtain ⟨i, hi⟩ := List.getElem?_of_mem hc
    have := h.pi i c hi
    show c.In.length + (c.Closed.length + 0) ≤ 8
    omega)
  show s.Amounts.length + (nnL Chan.nn s.Chans + (nnL Picture.nn s.Pictures + 0)) ≤ 1000
  unfold nnL
  have := h.chl
  have := h.am
  have := h.pl
  omega
theorem chansOf_ok {p : Nat} (hp : 2 ≤ p ∧ p ≤ 4) : (chansOf p).length ≤ 12 ∧ ∀ c ∈ chansOf p, (0 ≤ c.From ∧ c.From < p) ∧ (0 ≤ c.To ∧ c.To < p) ∧ c.From ≠ c.To ∧ c.Way = [] := by
  have : p = 2 ∨ p = 3 ∨ p = 4 := by omega
  rcases this with rfl | rfl | rfl <;> exact ⟨by decide, by decide⟩
theorem sum_rep {n : Nat} {a : Int} : (List.replicate n a).sum = n * a := by
  induction n with
  | zero => simp
  | succ n ih => rw [List.replicate_succ, List.sum_cons, ih, Int.natCast_add, Int.add_mul]; omega
theorem newS_inv {p : Nat} {a : Int} (hp : 2 ≤ p ∧ p ≤ 4) (ha : 0 ≤ a ∧ a ≤ 250) : SnInv p 0 (newS p a) := by
  obtain ⟨c1, c2⟩ := chansOf_ok hp
  have hw : (wayS (chansOf p)).sum = 0 := by
    have : ∀ {l : List Chan}, (∀ c ∈ l, c.Way = []) → (wayS l).sum = 0 := by
      intro l
      induction l with
      | nil => intro _; rfl
      | cons b r ih =>
        intro h
        show b.Way.sum + (wayS r).sum = 0
        rw [ih (fun c hc => h c (by simp [hc])), h b (by simp)]; rfl
    exact this (fun c hc => (c2 c hc).2.2.2)
  refine ⟨⟨hp, by simp [newS], c1, fun i c hc => ?_, by simp [newS], fun i x hx => ?_⟩, fun z hz => ?_, fun i c hc z hz => ?_, ?_, ?_, by simp [newS], fun i x hx z hz => ?_⟩
  · obtain ⟨h1, h2, h3, h4⟩ := c2 c (List.mem_of_getElem? hc)
    exact ⟨h1, h2, h3, by rw [h4]; simp⟩
  · have := List.eq_of_mem_replicate (List.mem_of_getElem? hx)
    subst this
    exact ⟨by simp, by simp⟩
  · have := List.eq_of_mem_replicate hz
    omega
  · rw [(c2 c (List.mem_of_getElem? hc)).2.2.2] at hz
    cases hz
  · show (List.replicate p a).sum + (wayS (chansOf p)).sum = p * a
    rw [hw, sum_rep]; omega
  · show (p : Int) * a ≤ 1000
    have : (p : Int) * a ≤ 4 * 250 := Int.mul_le_mul (by omega) ha.2 ha.1 (by omega)
    omega
  · have := List.eq_of_mem_replicate (List.mem_of_getElem? hx)
    subst this
    have := List.eq_of_mem_replicate hz
    subst this
    omega
theorem play_loop {p : Nat} : ∀ {l : List SnapStep} (i n : Nat) (d : List Bool) (s : Snap), SnInv p n s → n + l.length ≤ 80 → d.length + l.length ≤ 1000 → ∃ d' s', SnOk p s' ∧ d'.length ≤ 1000 ∧
    rangeG (fun i92 x93 s151 => impl_PlaySnap_b1 i92 x93 s151.1 s151.2.1 s151.2.2.1 s151.2.2.2.1 s151.2.2.2.2) l i (d, s, s.Amounts, s.Chans, s.Pictures) = some (.nxt (d', s', s'.Amounts, s'.Chans, s'.Pictures)) ∧
    rangeG (fun i80 x81 s203 => spec_PlaySnap_b1 i80 x81 s203.1 s203.2) l i (d, s) = some (.nxt (d', s')) := by
  intro l
  induction l with
  | nil => intro i n d s h hn hl; exact ⟨d, s, h.ok, by simpa using hl, rfl, rfl⟩
  | cons x l ih =>
    intro i n d s h hn hl
    simp only [List.length_cons] at hl hn
    obtain ⟨b, s', e1, ⟨y, e2, hy⟩, hf, h'⟩ := step_ok (x := x) h (by omega)
    have e3 := (own_spec (s := s) (Nat.le_trans h.ok.nn_le (by omega))).cst
    obtain ⟨d2, s2, h2, hd, f1, f2⟩ := ih (i + 1) (n + 1) (d ++ [b]) s' h' (by omega) (by simp; omega)
    have ha : appN 1 d [b] = some (d ++ [b]) := by unfold appN; rw [if_pos (by simp; omega)]
    have hb1 : impl_PlaySnap_b1 i x d s s.Amounts s.Chans s.Pictures = some (.nxt (d ++ [b], s', s'.Amounts, s'.Chans, s'.Pictures)) :=
      bind_eq e1 (bind_eq ha rfl)
    have hb2 : spec_PlaySnap_b1 i x d s = some (.nxt (d ++ [b], s')) := by
      refine bind_eq e3 (bind_eq e2 ?_)
      cases b with
      | true => exact bind_eq (iteT' rfl rfl) (bind_eq ha (by rw [hy rfl]))
      | false => exact bind_eq (iteF' rfl rfl) (bind_eq ha (by rw [hf rfl]))
    refine ⟨d2, s2, h2, hd, ?_, ?_⟩
    · simp only [rangeG, hb1]; exact f1
    · simp only [rangeG, hb2]; exact f2
theorem PlaySnap_core (v_0 : Int) (v_1 : Int) (v_2 : List SnapStep) (w0 : inI v_0) (w1 : inI v_1) (w2 : (wfL 24 SnapStep.wf) v_2) (b0 : v_2.length ≤ 1048576) : ∃ (r : Snap × List Bool × Bool), Ev (fun k => spec_PlaySnap k v_0 v_1 v_2) r ∧ Ev (fun k => impl_PlaySnap v_0 v_1 v_2) r ∧ r.1.nn ≤ 1048576 ∧ r.2.1.length ≤ 1048576 := by
  unfold spec_PlaySnap impl_PlaySnap
  rcases new_ok v_0 v_1 with ⟨p, hp, hp2, ha, e1, e2⟩ | ⟨hn, e1⟩
  · by_cases hl : v_2.length ≤ 80
    · obtain ⟨d, s, h, hd, f1, f2⟩ := play_loop (l := v_2) 0 0 [] (newS p v_1) (newS_inv hp2 ha) (by omega) (by simp; omega)
      refine ⟨(s, d, true), Ev.bind e1 (Ev.iteF (by simp; omega) (Ev.jn (s := (d, s)) (Ev.of ?_) ?_)), Ev.of (iteF' ?_ (bind_eq e2.cst (bind_eq (a := Oc.nxt (d, s, s.Amounts, s.Chans, s.Pictures)) ?_ rfl))), Nat.le_trans h.nn_le (by omega), by dsimp only; omega⟩
      · unfold rangeL
        rw [if_pos (by omega)]
        exact f2
      · exact Ev.bind (own_spec (Nat.le_trans h.nn_le (by omega))) Ev.rfl
      · simp only [impl_in, Bool.or_eq_false_iff, Bool.not_eq_false', Bool.and_eq_true, decide_eq_true_eq, decide_eq_false_iff_not]; omega
      · unfold rangeL
        rw [if_pos (by omega)]
        exact f1
    · exact ⟨(⟨[], [], [], 0, 0⟩, [], false), Ev.bind e1 (Ev.iteT (by simp; omega) Ev.rfl), Ev.of (iteT' (by simp; omega) rfl), by decide, by decide⟩
  · refine ⟨(⟨[], [], [], 0, 0⟩, [], false), Ev.bind e1 (Ev.iteT rfl Ev.rfl), Ev.of (iteT' ?_ rfl), by decide, by decide⟩
    simp only [impl_in, Bool.or_eq_true, Bool.not_eq_true', Bool.and_eq_false_iff, decide_eq_true_eq, decide_eq_false_iff_not]; omega
end Go.Proofs.Ytpkiieniipenjaa.X
