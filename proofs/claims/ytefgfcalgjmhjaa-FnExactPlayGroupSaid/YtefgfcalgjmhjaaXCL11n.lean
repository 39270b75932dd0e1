/- New groups of replicas, and plays. -/
import Derived.Test.YtefgfcalgjmhjaaXCL11t
set_option linter.unusedVariables false
set_option linter.unusedSimpArgs false
namespace Go.Proofs.Ytefgfcalgjmhjaa.X
open Go

def newG (n : Nat) : Group := ⟨0, 0, iota n, 0, List.replicate n ⟨[], 0, 0⟩⟩
theorem iota_pair {n : Nat} : (iota n).Pairwise (· < ·) := by
  induction n with
  | zero => simp [iota]
  | succ n ih =>
    rw [iota_succ, List.pairwise_append]
    refine ⟨ih, by simp, fun a ha b hb => ?_⟩
    have := (iota_mem ha).2
    simp at hb
    omega
theorem newG_good {n : Nat} (h1 : 2 ≤ n) (h2 : n ≤ 4) : groupP (newG n) := by
  have hl : lead (newG n) = [] := by
    unfold lead newG
    dsimp only
    cases h : (List.replicate n (⟨[], 0, 0⟩ : Replica))[Int.toNat 0]? with
    | none => rfl
    | some x =>
      have := List.mem_of_getElem? h
      rw [List.mem_replicate] at this
      rw [this.2]
  refine ⟨⟨by simp [newG]; omega, by simp [newG]⟩, ⟨memP_iff.2 ⟨iota_pair, fun z hz => by have := iota_mem hz; simpa [newG] using this⟩, ?_, by simp [newG]⟩, fun i x hx => ?_⟩
  · show (0 : Int) ∈ iota n
    simp only [iota, List.mem_map, List.mem_range]
    exact ⟨0, by omega, rfl⟩
  · have hx : (List.replicate n (⟨[], 0, 0⟩ : Replica))[i]? = some x := hx
    have := List.mem_of_getElem? hx
    rw [List.mem_replicate] at this
    rw [this.2]
    unfold repP
    rw [hl]
    refine ⟨⟨fun i x h => by simp at h, by simp⟩, by simp [newG], by simp, fun _ => by simp [newG], fun _ => by simp⟩
theorem new_impl {n : Nat} (h2 : n ≤ 4) : Ev (fun _ => impl_newGroup (n : Int)) (newG n) := by
  unfold impl_newGroup
  refine Ev.bindp (a := List.replicate n ⟨[], 0, 0⟩) (mkN_ok (by omega)) ?_
  simp only [rangeI_L]
  refine Ev.jn (s := newG n) (rangeL_Ev (B := fun _ i _ s => impl_newGroup_b1 (List.replicate n ⟨[], 0, 0⟩) i s) (by simp; omega) (fun i q s => i + q.length = n ∧ s = ⟨0, 0, iota i, 0, List.replicate n ⟨[], 0, 0⟩⟩) ⟨by simp, rfl⟩ (fun i x q s ⟨h1, hs⟩ => .inl ?_) (fun i s ⟨h1, hs⟩ => ?_)) Ev.rfl
  · subst hs
    simp only [List.length_cons] at h1
    refine ⟨⟨0, 0, iota (i + 1), 0, List.replicate n ⟨[], 0, 0⟩⟩, Ev.of ?_, by omega, rfl⟩
    unfold impl_newGroup_b1 appN
    rw [if_pos (by simp [iota_len]; omega), iota_succ]
    rfl
  · subst hs
    simp only [List.length_nil, Nat.add_zero] at h1
    rw [h1]
    rfl
theorem new_spec {n : Int} : (∃ m : Nat, n = m ∧ (2 ≤ m ∧ m ≤ 4) ∧ Ev (fun k => spec_NewGroup k n) (newG m, true)) ∨ (¬ (2 ≤ n ∧ n ≤ 4) ∧ Ev (fun k => spec_NewGroup k n) (⟨0, 0, [], 0, []⟩, false)) := by
  by_cases h : 2 ≤ n ∧ n ≤ 4
  · left
    obtain ⟨m, rfl⟩ : ∃ m : Nat, n = m := ⟨n.toNat, by omega⟩
    refine ⟨m, rfl, by omega, ?_⟩
    unfold spec_NewGroup
    refine Ev.iteF (bF ni_s (fun h2 => h2 h)) (Ev.bindp (a := List.replicate m ⟨[], 0, 0⟩) (mkN_ok (by omega)) ?_)
    refine Ev.jn (s := ((m : Int), newG m)) (Ev.loop (B := fun s77 => spec_NewGroup_b1 (m : Int) (List.replicate m ⟨[], 0, 0⟩) s77.1 s77.2) (fun s => ∃ i : Nat, i ≤ m ∧ s = ((i : Int), ⟨0, 0, iota i, 0, List.replicate m ⟨[], 0, 0⟩⟩)) (fun s => (m - s.1).toNat) ⟨0, by omega, rfl⟩ ?_) Ev.rfl
    rintro s ⟨i, hi, rfl⟩
    unfold spec_NewGroup_b1
    dsimp only
    by_cases hc : i < m
    · rw [if_pos (by simpa using hc)]
      refine .inl ⟨(((i + 1 : Nat) : Int), ⟨0, 0, iota (i + 1), 0, List.replicate m ⟨[], 0, 0⟩⟩), ?_, ⟨i + 1, by omega, rfl⟩, by dsimp only; omega⟩
      unfold appN
      rw [if_pos (by simp [iota_len]; omega), Option.bind_some, wadd (by omega), iota_succ]
    · rw [if_neg (by simpa using hc)]
      obtain rfl : i = m := by omega
      exact .inr (.inl ⟨_, rfl, rfl⟩)
  · right
    refine ⟨h, ?_⟩
    unfold spec_NewGroup
    exact Ev.iteT (ni_s.2 h) Ev.rfl

/-- A play from a group on. -/
def runG : Group → List IsrStep → List Bool → Group × List Bool
  | g, [], d => (g, d)
  | g, x :: q, d => runG (resS g (gstep g x)).1 q (d ++ [(resS g (gstep g x)).2])
theorem resS_good {g : Group} {x : IsrStep} (hg : groupP g) : groupP (resS g (gstep g x)).1 := by
  cases h : gstep g x with
  | none => exact hg
  | some g' => exact step_good hg h
theorem resI_S {g : Group} {x : IsrStep} : resI g (gstep g x) = ((resS g (gstep g x)).2, (resS g (gstep g x)).1) := by
  cases gstep g x <;> rfl
theorem runG_good : ∀ {l : List IsrStep} {g : Group} {d : List Bool}, groupP g → groupP (runG g l d).1 ∧ (runG g l d).2.length = d.length + l.length := by
  intro l
  induction l with
  | nil => intro g d hg; exact ⟨hg, rfl⟩
  | cons x l ih =>
    intro g d hg
    obtain ⟨h1, h2⟩ := ih (d := d ++ [(resS g (gstep g x)).2]) (resS_good (x := x) hg)
    exact ⟨h1, by rw [runG, h2]; simp; omega⟩
theorem runG_app {a b : List IsrStep} : ∀ {g : Group} {d : List Bool}, runG g (a ++ b) d = runG (runG g a d).1 b (runG g a d).2 := by
  induction a with
  | nil => intro g d; rfl
  | cons x a ih => intro g d; exact ih
theorem play_impl {n : Nat} {l : List IsrStep} (h1 : 2 ≤ n) (h2 : n ≤ 4) (hl : l.length ≤ 100) : Ev (fun k => impl_PlayGroup k (n : Int) l) ((runG (newG n) l []).1, (runG (newG n) l []).2, true) := by
  unfold impl_PlayGroup
  refine Ev.iteF (bF (P := ¬ (2 ≤ (n : Int) ∧ (n : Int) ≤ 4) ∨ 100 < l.length) (by rw [Bool.or_eq_true, ni_i, decide_eq_true_eq]; omega) (by omega)) (Ev.bind (new_impl h2) ?_)
  refine Ev.jn (s := ((runG (newG n) l []).2, (runG (newG n) l []).1, (runG (newG n) l []).1.Replicas)) (rangeL_Ev (B := fun k i x (s : List Bool × Group × List Replica) => impl_PlayGroup_b1 k i x s.1 s.2.1 s.2.2) (by omega) (fun i q s => ∃ g d, s = (d, g, g.Replicas) ∧ groupP g ∧ d.length + q.length ≤ 100 ∧ runG g q d = runG (newG n) l []) ⟨newG n, [], rfl, newG_good h1 h2, by simpa using hl, rfl⟩ (fun i x q s hs => .inl ?_) (fun i s hs => ?_)) Ev.rfl
  · obtain ⟨g, d, rfl, hg, hd, hr⟩ := hs
    have hst := step_i (x := x) hg.fit
    rw [resI_S] at hst
    refine ⟨(d ++ [(resS g (gstep g x)).2], (resS g (gstep g x)).1, (resS g (gstep g x)).1.Replicas), ?_, _, _, rfl, resS_good hg, by simp at hd ⊢; omega, hr⟩
    unfold impl_PlayGroup_b1
    refine Ev.bind hst (Ev.bindp (a := d ++ [(resS g (gstep g x)).2]) ?_ Ev.rfl)
    unfold appN
    rw [if_pos (by simp at hd ⊢; omega)]
  · obtain ⟨g, d, rfl, hg, hd, hr⟩ := hs
    rw [← hr]
    rfl
theorem play_impl_no {n : Int} {l : List IsrStep} (h : ¬ (2 ≤ n ∧ n ≤ 4) ∨ 100 < l.length) : Ev (fun k => impl_PlayGroup k n l) (⟨0, 0, [], 0, []⟩, [], false) := by
  unfold impl_PlayGroup
  refine Ev.iteT ?_ Ev.rfl
  rw [Bool.or_eq_true, ni_i, decide_eq_true_eq]
  omega
theorem play_spec_no {n : Int} {l : List IsrStep} {g : Group} {b : Bool} (e : Ev (fun k => spec_NewGroup k n) (g, b)) (h : b = false ∨ 100 < l.length) : Ev (fun k => spec_PlayGroup k n l) (⟨0, 0, [], 0, []⟩, [], false) := by
  unfold spec_PlayGroup
  refine Ev.bind e (Ev.iteT ?_ Ev.rfl)
  rcases h with rfl | h
  · rfl
  · simp; omega
theorem play_spec {n : Nat} {l : List IsrStep} (h1 : 2 ≤ n) (h2 : n ≤ 4) (e : Ev (fun k => spec_NewGroup k (n : Int)) (newG n, true)) (hl : l.length ≤ 100) : Ev (fun k => spec_PlayGroup k (n : Int) l) ((runG (newG n) l []).1, (runG (newG n) l []).2, true) := by
  unfold spec_PlayGroup
  refine Ev.bind e (Ev.iteF (by simp; omega) ?_)
  have hgood := runG_good (l := l) (d := []) (newG_good h1 h2)
  refine Ev.jn (s := ((runG (newG n) l []).2, (runG (newG n) l []).1)) (rangeL_Ev (B := fun k i x (s : List Bool × Group) => spec_PlayGroup_b1 k i x s.1 s.2) (by omega) (fun i q s => ∃ g d, s = (d, g) ∧ groupP g ∧ d.length + q.length ≤ 100 ∧ runG g q d = runG (newG n) l []) ⟨newG n, [], rfl, newG_good h1 h2, by simpa using hl, rfl⟩ (fun i x q s hs => .inl ?_) (fun i s hs => ?_)) ?_
  · obtain ⟨g, d, rfl, hg, hd, hr⟩ := hs
    refine ⟨(d ++ [(resS g (gstep g x)).2], (resS g (gstep g x)).1), ?_, _, _, rfl, resS_good hg, by simp at hd ⊢; omega, hr⟩
    unfold spec_PlayGroup_b1
    refine Ev.bind (own_spec hg.nn) (Ev.bind (step_s (x := x) hg.fit) (Ev.bind (a := (resS g (gstep g x)).1) ?_ ?_))
    · cases gstep g x with
      | none => exact Ev.iteF rfl Ev.rfl
      | some g' => exact Ev.iteT rfl Ev.rfl
    · unfold spec_PlayGroup_j1 appN
      rw [if_pos (by simp at hd ⊢; omega)]
      exact Ev.rfl
  · obtain ⟨g, d, rfl, hg, hd, hr⟩ := hs
    rw [← hr]
    rfl
  · unfold spec_PlayGroup_j2
    exact Ev.bind (own_spec hgood.1.nn) Ev.rfl
end Go.Proofs.Ytefgfcalgjmhjaa.X
