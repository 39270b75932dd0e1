/- BehindIn: one answer. -/
import Derived.Test.YtohofoampalhoaaXEL17b
set_option linter.unusedVariables false
set_option linter.unusedSimpArgs false
namespace Go.Proofs.Ytohofoampalhoaa.X
open Go
theorem Equal_int_is {a b : List Int} (hl : a.length ≤ 4611686018427387904) : Is (fun _ => slices_Equal_int a b) (a = b) := by
  unfold slices_Equal_int
  by_cases hab : a.length = b.length
  · rw [if_neg (by simp [hab])]
    refine Is.all (Q := fun i x => b[i]? = some x) hl (fun i x hx => ?_) (fun h => Is.T ?_) (fun h => ?_)
    · unfold slices_Equal_int_b1
      have hi : i < b.length := by rw [← hab]; exact (List.getElem?_eq_some_iff.1 hx).1
      have hb : b[i]? = some b[i] := List.getElem?_eq_getElem hi
      rw [geti_nat hb]
      simp only [Option.bind_some]
      refine ite_body ?_
      rw [hb]
      simp only [ne_eq, decide_eq_true_eq, Option.some.injEq]
      exact not_congr eq_comm
    · apply List.ext_getElem?
      intro i
      by_cases hi : i < a.length
      · have ha : a[i]? = some a[i] := List.getElem?_eq_getElem hi
        rw [ha, h i _ ha]
      · rw [List.getElem?_eq_none (by omega), List.getElem?_eq_none (by omega)]
    · rintro rfl
      exact h (fun i x hx => hx)
  · rw [if_pos (by simp; omega)]
    exact Is.F (fun h => hab (by rw [h]))
/-- All of the one are in the other, and they are as many. -/
theorem l14Same_is {a b : List Int} (ha : a.length ≤ 1048576) (hb : b.length ≤ 1048576) : Is (fun _ => spec_l14Same a b) ((∀ x, x ∈ b → x ∈ a) ∧ a.length = b.length) := by
  unfold spec_l14Same spec_l6Has
  refine Is.bind (P := ∀ x, x ∈ b → x ∈ a) (Is.all (Q := fun _ x => x ∈ a) (by omega) (fun i x hx => ?_) (fun h => Is.T (fun x hx => ?_)) (fun h hp => h (fun i x hx => hp x (List.mem_of_getElem? hx)))) (fun c hc => Is.of ?_)
  · unfold spec_l6Has_b1
    exact body1n (l1Has_is (by omega))
  · obtain ⟨i, hi⟩ := List.getElem?_of_mem hx
    exact h i x hi
  · rw [← hc]
    simp
    omega
/-- Rows that rise, of the same members, are one. -/
theorem memP_pair {l : List Int} {n : Int} (h : memP l n) : l.Pairwise (· < ·) := by
  rw [List.pairwise_iff_getElem]
  have key : ∀ d i (hi : i < l.length) (hj : i + d + 1 < l.length), l[i] < l[i + d + 1] := by
    intro d
    induction d with
    | zero =>
      intro i hi hj
      have := (h (i + 1) l[i + 1] (List.getElem?_eq_getElem hj)).2.2 l[i] (by omega) (by simp)
      simpa using this
    | succ d ih =>
      intro i hi hj
      have h1 := ih i hi (by omega)
      have h2 := (h (i + d + 1 + 1) l[i + d + 1 + 1] (List.getElem?_eq_getElem (by omega))).2.2 l[i + d + 1] (by omega) (by simp)
      have : l[i + (d + 1) + 1] = l[i + d + 1 + 1] := by congr 1
      rw [this]
      omega
  intro i j hi hj hij
  have := key (j - i - 1) i hi (by omega)
  have e : i + (j - i - 1) + 1 = j := by omega
  simpa [e] using this
theorem sub_tail {x : Int} {a b : List Int} (h : ∀ z, z ∈ b → z ∈ x :: a) (hx : ∀ z, z ∈ b → x < z) : ∀ z, z ∈ b → z ∈ a := fun z hz => by
  rcases List.mem_cons.1 (h z hz) with rfl | h1
  · have := hx _ hz; omega
  · exact h1
theorem sorted_len : ∀ {a b : List Int}, a.Pairwise (· < ·) → b.Pairwise (· < ·) → (∀ z, z ∈ b → z ∈ a) → b.length ≤ a.length := by
  intro a
  induction a with
  | nil =>
    intro b _ _ h
    cases b with
    | nil => exact Nat.le_refl _
    | cons y b => exact absurd (h y (by simp)) (by simp)
  | cons x a ih =>
    intro b pa pb h
    cases b with
    | nil => simp
    | cons y b =>
      rw [List.pairwise_cons] at pa
      have pb' := List.pairwise_cons.1 pb
      rcases List.mem_cons.1 (h y (by simp)) with e | hy
      · subst e
        have := ih pa.2 pb'.2 (sub_tail (fun z hz => h z (by simp [hz])) pb'.1)
        simp only [List.length_cons]
        omega
      · have hxy := pa.1 y hy
        have := ih pa.2 pb (sub_tail h (fun z hz => by
          rcases List.mem_cons.1 hz with rfl | hz
          · exact hxy
          · have := pb'.1 z hz; omega))
        simp only [List.length_cons] at this ⊢
        omega
theorem sorted_eq : ∀ {a b : List Int}, a.Pairwise (· < ·) → b.Pairwise (· < ·) → (∀ z, z ∈ b → z ∈ a) → a.length = b.length → a = b := by
  intro a
  induction a with
  | nil =>
    intro b _ _ _ h
    exact (List.length_eq_zero_iff.1 h.symm).symm
  | cons x a ih =>
    intro b pa pb h hl
    cases b with
    | nil => simp at hl
    | cons y b =>
      rw [List.pairwise_cons] at pa
      have pb' := List.pairwise_cons.1 pb
      rcases List.mem_cons.1 (h y (by simp)) with e | hy
      · subst e
        rw [ih pa.2 pb'.2 (sub_tail (fun z hz => h z (by simp [hz])) pb'.1) (by simpa using hl)]
      · have hxy := pa.1 y hy
        have := sorted_len pa.2 pb (sub_tail h (fun z hz => by
          rcases List.mem_cons.1 hz with rfl | hz
          · exact hxy
          · have := pb'.1 z hz; omega))
        simp only [List.length_cons] at this hl
        omega
theorem same_mem {a b : List Int} {n m : Int} (ha : memP a n) (hb : memP b m) : ((∀ x, x ∈ b → x ∈ a) ∧ a.length = b.length) ↔ a = b := by
  constructor
  · rintro ⟨h1, h2⟩
    exact sorted_eq (memP_pair ha) (memP_pair hb) h1 h2
  · rintro rfl
    exact ⟨fun x h => h, rfl⟩
theorem BehindIn_core (v_0 : Cluster) (w0 : Cluster.wf v_0) (b0 : v_0.nn ≤ 1048576) : ∃ (r : List Int × Bool), Ev (fun k => spec_BehindIn k v_0) r ∧ Ev (fun k => impl_BehindIn v_0) r ∧ r.1.length ≤ 1048576 := by
  obtain ⟨t1, t2, t3⟩ := nn_truth b0
  obtain ⟨b, e1, e2, hg⟩ := good_two b0
  unfold spec_BehindIn impl_BehindIn
  cases b with
  | false => exact ⟨([], false), Ev.bind e1 (Ev.iteT rfl Ev.rfl), Ev.bind e2 (Ev.iteT rfl Ev.rfl), by simp⟩
  | true =>
    obtain ⟨_, g2, _, g4⟩ := hg.1 rfl
    refine ⟨(coll (fun i x => !decide ((x.View.Epoch = v_0.Truth.Epoch ∧ x.View.Leader = v_0.Truth.Leader) ∧ x.View.InStep = v_0.Truth.InStep)) v_0.Nodes 0, true), Ev.bind e1 (Ev.iteF rfl (Ev.jn (coll_ev t2 (fun i x s hx hs => ?_)) Ev.rfl)), Ev.bind e2 (Ev.iteF rfl (Ev.jn (coll_ev t2 (fun i x s hx hs => ?_)) Ev.rfl)), Nat.le_trans coll_length t2⟩
    · have hi : i < v_0.Nodes.length := (List.getElem?_eq_some_iff.1 hx).1
      obtain ⟨n1, n2, n3⟩ := nn_node b0 hx
      obtain ⟨c, e, hc⟩ : Is (fun _ => spec_l17Same x.View v_0.Truth) ((x.View.Epoch = v_0.Truth.Epoch ∧ x.View.Leader = v_0.Truth.Leader) ∧ x.View.InStep = v_0.Truth.InStep) := by
        unfold spec_l17Same
        refine Is.bind (Is.andb (P := x.View.Epoch = v_0.Truth.Epoch ∧ x.View.Leader = v_0.Truth.Leader) (by simp) (fun _ => (l14Same_is n1 t1).iff (same_mem (g4 i x hx).1.1.2.1 g2.2.1))) (fun b hb => Is.of hb)
      have : c = decide ((x.View.Epoch = v_0.Truth.Epoch ∧ x.View.Leader = v_0.Truth.Leader) ∧ x.View.InStep = v_0.Truth.InStep) := by
        rw [Bool.eq_iff_iff]; simp only [decide_eq_true_eq]; exact hc
      unfold spec_BehindIn_b1
      refine Ev.bind e ?_
      simp only [Option.bind_some, app1_ev (s := s) (v := (i : Int)) (by omega), this]
      refine Ev.of ?_
      split <;> rfl
    · have hi : i < v_0.Nodes.length := (List.getElem?_eq_some_iff.1 hx).1
      obtain ⟨n1, n2, n3⟩ := nn_node b0 hx
      obtain ⟨c, e, hc⟩ : Is (fun _ => impl_sameView x.View v_0.Truth) ((x.View.Epoch = v_0.Truth.Epoch ∧ x.View.Leader = v_0.Truth.Leader) ∧ x.View.InStep = v_0.Truth.InStep) := by
        unfold impl_sameView
        refine Is.bind (Is.andb (P := x.View.Epoch = v_0.Truth.Epoch ∧ x.View.Leader = v_0.Truth.Leader) (by simp) (fun _ => Equal_int_is (by omega))) (fun b hb => Is.of hb)
      have : c = decide ((x.View.Epoch = v_0.Truth.Epoch ∧ x.View.Leader = v_0.Truth.Leader) ∧ x.View.InStep = v_0.Truth.InStep) := by
        rw [Bool.eq_iff_iff]; simp only [decide_eq_true_eq]; exact hc
      unfold impl_BehindIn_b1
      refine Ev.bind e ?_
      simp only [Option.bind_some, app1_ev (s := s) (v := (i : Int)) (by omega), this]
      refine Ev.of ?_
      split <;> rfl
end Go.Proofs.Ytohofoampalhoaa.X
