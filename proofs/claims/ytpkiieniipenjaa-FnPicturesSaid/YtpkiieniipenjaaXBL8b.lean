/- A process takes its picture: the specification's and the program's are one. -/
import Derived.Test.YtpkiieniipenjaaXBL8a
set_option linter.unusedVariables false
set_option linter.unusedSimpArgs false
namespace Go.Proofs.Ytpkiieniipenjaa.X
open Go

theorem set_self {α : Type} {l : List α} {i : Nat} {x : α} (h : l[i]? = some x) : l.set i x = l := by
  obtain ⟨hi, rfl⟩ := List.getElem?_eq_some_iff.1 h
  exact List.set_getElem_self hi
/-- A walk that changes each element in its place. -/
theorem map_loop {α ρ : Type} {B : Nat → List α → Option (Oc (List α) ρ)} {l : List α} {f : α → α} (hl : l.length ≤ 1048576) (hB : ∀ (i : Nat) x (s : List α), l[i]? = some x → s[i]? = some x → B i s = some (.nxt (s.set i (f x)))) : Ev (fun _ => rangeI B (l.length : Int) l) (.nxt (l.map f)) := by
  simp only [rangeI_L]
  refine rangeL_Ev (B := fun _ i _ s => B i s) (by simp; omega) (fun i q s => i + q.length = l.length ∧ s = (l.take i).map f ++ l.drop i) ⟨by simp, by simp⟩ (fun i u q s ⟨h1, hs⟩ => .inl ?_) (fun i s ⟨h1, hs⟩ => ?_)
  · subst hs
    simp only [List.length_cons] at h1
    have hi : i < l.length := by omega
    have hx : l[i]? = some l[i] := List.getElem?_eq_getElem hi
    have hlen : ((l.take i).map f).length = i := by simp; omega
    have hsx : ((l.take i).map f ++ l.drop i)[i]? = some l[i] := by
      rw [List.getElem?_append_right (by omega), hlen, Nat.sub_self, List.getElem?_drop, Nat.add_zero, hx]
    refine ⟨_, Ev.of (hB i _ _ hx hsx), by omega, ?_⟩
    rw [List.set_append_right _ _ (by omega), hlen, Nat.sub_self, List.drop_eq_getElem_cons hi, List.set_cons_zero, List.take_add_one, hx, List.map_append]
    simp only [Option.toList_some, List.map_cons, List.map_nil, List.append_assoc, List.singleton_append]
  · subst hs
    simp only [List.length_nil, Nat.add_zero] at h1
    rw [h1]
    simp
structure SnOk (p : Nat) (s : Snap) : Prop where
  pp : 2 ≤ p ∧ p ≤ 4
  am : s.Amounts.length = p
  chl : s.Chans.length ≤ 12
  ch : ∀ (i : Nat) (c : Chan), s.Chans[i]? = some c → (0 ≤ c.From ∧ c.From < p) ∧ (0 ≤ c.To ∧ c.To < p) ∧ c.From ≠ c.To ∧ c.Way.length ≤ 8
  pl : s.Pictures.length = p
  pi : ∀ (i : Nat) (x : Picture), s.Pictures[i]? = some x → x.In.length = p ∧ x.Closed.length = p
def room (s : Snap) (k : Int) : Prop := ∀ (i : Nat) (c : Chan), s.Chans[i]? = some c → c.From = k → c.Way.length ≠ 8
def mark1 (k : Int) (c : Chan) : Chan := if c.From = k then ⟨c.From, c.To, c.Way ++ [0]⟩ else c
def tookP (s : Snap) (k : Nat) (x : Picture) (a : Int) : Snap := ⟨s.Amounts, s.Chans.map (mark1 k), s.Pictures.set k ⟨true, a, x.In, x.Closed.set k true⟩, s.Sent, s.Total⟩
theorem full_loop {ρ : Type} {B : Nat → List Chan → Option (Oc (List Chan) ρ)} {s : Snap} {k : Int} {r : ρ} (hl : s.Chans.length ≤ 12)
    (hB : ∀ (i : Nat) (c : Chan), s.Chans[i]? = some c → B i s.Chans = if ((decide (c.From = k)) && (decide ((List.length c.Way : Int) = 8))) = true then some (.ret r) else some (.nxt s.Chans)) :
    (room s k ∧ Ev (fun _ => rangeI B (s.Chans.length : Int) s.Chans) (.nxt s.Chans)) ∨ (¬ room s k ∧ Ev (fun _ => rangeI B (s.Chans.length : Int) s.Chans) (.ret r)) := by
  simp only [rangeI_L]
  by_cases h : room s k
  · refine .inl ⟨h, rangeL_Ev (B := fun _ i _ s => B i s) (by simp; omega) (fun i q t => i + q.length = s.Chans.length ∧ t = s.Chans) ⟨by simp, rfl⟩ (fun i u q t ⟨h1, ht⟩ => .inl ?_) (fun i t ⟨h1, ht⟩ => by rw [ht])⟩
    subst ht
    simp only [List.length_cons] at h1
    obtain ⟨c, hc⟩ := get_lt (l := s.Chans) (i := i) (by omega)
    refine ⟨s.Chans, Ev.of ?_, by omega, rfl⟩
    rw [hB i c hc, if_neg]
    simp only [Bool.and_eq_true, decide_eq_true_eq, not_and]
    intro h2 h3
    exact h i c hc h2 (by omega)
  · refine .inr ⟨h, rangeL_Ev (B := fun _ i _ s => B i s) (by simp; omega) (fun i q t => i + q.length = s.Chans.length ∧ t = s.Chans ∧ ∀ (j : Nat) (c : Chan), j < i → s.Chans[j]? = some c → c.From = k → c.Way.length ≠ 8) ⟨by simp, rfl, fun j c hj => by omega⟩ (fun i u q t ⟨h1, ht, hp⟩ => ?_) (fun i t ⟨h1, ht, hp⟩ => ?_)⟩
    · subst ht
      simp only [List.length_cons] at h1
      obtain ⟨c, hc⟩ := get_lt (l := s.Chans) (i := i) (by omega)
      by_cases hb : c.From = k ∧ c.Way.length = 8
      · refine .inr (.inr ⟨r, Ev.of ?_, rfl⟩)
        rw [hB i c hc, if_pos (by simp only [Bool.and_eq_true, decide_eq_true_eq]; omega)]
      · refine .inl ⟨s.Chans, Ev.of ?_, by omega, rfl, fun j c' hj hc' h2 h3 => ?_⟩
        · rw [hB i c hc, if_neg (by simp only [Bool.and_eq_true, decide_eq_true_eq]; omega)]
        · rcases Nat.lt_or_ge j i with h4 | h4
          · exact hp j c' h4 hc' h2 h3
          · have : j = i := by omega
            subst this
            rw [hc] at hc'
            cases hc'
            exact hb ⟨h2, h3⟩
    · exfalso
      simp only [List.length_nil, Nat.add_zero] at h1
      exact h (fun j c hc h2 => hp j c (by have := (List.getElem?_eq_some_iff.1 hc).1; omega) hc h2)
theorem take_ok {p : Nat} {s : Snap} {k : Nat} (h : SnOk p s) (hk : k < p) : (¬ room s k ∧ Ev (fun _ => spec_l8Take s (k : Int)) (s, false) ∧ Ev (fun _ => impl_Snap_take s (k : Int)) (false, s)) ∨
    (room s k ∧ ∃ x a, s.Pictures[k]? = some x ∧ s.Amounts[k]? = some a ∧ Ev (fun _ => spec_l8Take s (k : Int)) (tookP s k x a, true) ∧ Ev (fun _ => impl_Snap_take s (k : Int)) (true, tookP s k x a)) := by
  have hl := h.chl
  obtain ⟨x, hx⟩ := get_lt (l := s.Pictures) (i := k) (by rw [h.pl]; exact hk)
  obtain ⟨a, ha⟩ := get_lt (l := s.Amounts) (i := k) (by rw [h.am]; exact hk)
  obtain ⟨c, hc⟩ := get_lt (l := x.Closed) (i := k) (by rw [(h.pi k x hx).2]; exact hk)
  have sF := full_loop (B := fun i17 s93 => spec_l8Take_b1 s (k : Int) i17 s93) (s := s) (k := (k : Int)) (r := (s, false)) hl (fun i c hc => by
    unfold spec_l8Take_b1
    rw [geti_nat hc]
    rfl)
  have iF := full_loop (B := fun i7 s79 => impl_Snap_take_b1 s (k : Int) i7 s79) (s := s) (k := (k : Int)) (r := (false, s)) hl (fun i c hc => by
    unfold impl_Snap_take_b1
    rw [geti_nat hc]
    rfl)
  rcases sF with ⟨r1, e1⟩ | ⟨r1, e1⟩
  · rcases iF with ⟨r2, e2⟩ | ⟨r2, e2⟩
    · refine .inr ⟨r1, x, a, hx, ha, ?_, ?_⟩
      · unfold spec_l8Take
        refine Ev.jn e1 ?_
        unfold spec_l8Take_j2
        refine Ev.jn (map_loop (f := mark1 (k : Int)) (by omega) (fun i c t hc ht => ?_)) ?_
        · have hw := (h.ch i c hc).2.2.2
          unfold spec_l8Take_b2
          rw [geti_nat ht, Option.bind_some]
          by_cases hf : c.From = (k : Int)
          · rw [if_pos (by simpa using hf), app1_ev (by omega), Option.bind_some, Int.toNat_natCast]
            unfold mark1
            rw [if_pos hf]
          · rw [if_neg (by simpa using hf)]
            unfold mark1
            rw [if_neg hf, set_self ht]
        · unfold spec_l8Take_j1
          refine Ev.bindp (geti_nat hx) (Ev.bindp (geti_nat ha) (Ev.bindp (geti_nat hc) ?_))
          rw [Int.toNat_natCast]
          exact Ev.rfl
      · unfold impl_Snap_take
        refine Ev.jn e2 ?_
        unfold impl_Snap_take_j2
        refine Ev.jn (map_loop (f := mark1 (k : Int)) (by omega) (fun i c t hc ht => ?_)) ?_
        · have hw := (h.ch i c hc).2.2.2
          unfold impl_Snap_take_b2
          rw [geti_nat ht, Option.bind_some]
          by_cases hf : c.From = (k : Int)
          · rw [if_pos (by simpa using hf), app1_ev (by omega), Option.bind_some, Int.toNat_natCast]
            unfold mark1
            rw [if_pos hf]
          · rw [if_neg (by simpa using hf)]
            unfold mark1
            rw [if_neg hf, set_self ht]
        · unfold impl_Snap_take_j1
          refine Ev.bindp (geti_nat hx) (Ev.bindp (geti_nat ha) (Ev.bindp (geti_nat hc) ?_))
          rw [Int.toNat_natCast]
          exact Ev.rfl
    · exact absurd r1 r2
  · rcases iF with ⟨r2, e2⟩ | ⟨r2, e2⟩
    · exact absurd r2 r1
    · exact .inl ⟨r1, by unfold spec_l8Take; exact Ev.jn_ret e1, by unfold impl_Snap_take; exact Ev.jn_ret e2⟩
end Go.Proofs.Ytpkiieniipenjaa.X
