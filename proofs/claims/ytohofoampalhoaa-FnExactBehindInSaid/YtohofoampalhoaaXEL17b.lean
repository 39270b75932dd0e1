/- Whether a cluster is good: the specification and the program ask the same. -/
import Derived.Test.YtohofoampalhoaaXEL17a
import Derived.Test.YtohofoampalhoaaXEK
set_option linter.unusedVariables false
set_option linter.unusedSimpArgs false
namespace Go.Proofs.Ytohofoampalhoaa.X
open Go

theorem Is.andb {F : Nat → Option Bool} {b : Bool} {P Q : Prop} (hb : b = true ↔ P) (h : P → Is F Q) : Is (fun k => (if b = true then (F k).bind fun v => some v else some false)) (P ∧ Q) := by
  cases b with
  | true =>
    have hp := hb.1 rfl
    obtain ⟨c, e, hc⟩ := h hp
    exact ⟨c, Ev.bind e Ev.rfl, by simp [hp, hc]⟩
  | false => exact ⟨false, Ev.rfl, by simp at hb; simp [hb]⟩
def viewP (v : View) (n : Int) : Prop := (0 ≤ v.Epoch ∧ v.Epoch ≤ 100) ∧ memP v.InStep n ∧ v.Leader ∈ v.InStep
theorem l17View_is {v : View} {n : Int} (hl : v.InStep.length ≤ 1048576) : Is (fun _ => spec_l17View v n) (viewP v n) := by
  unfold spec_l17View
  refine (Is.bind (Q := ((0 ≤ v.Epoch ∧ v.Epoch ≤ 100) ∧ memP v.InStep n) ∧ v.Leader ∈ v.InStep) (Is.andb (P := 0 ≤ v.Epoch ∧ v.Epoch ≤ 100) (by simp [spec_l1In]) (fun _ => l6Group_is (by omega))) (fun b hb => Is.bind (Is.andb hb (fun _ => l1Has_is (by omega))) (fun b hb => Is.of hb))).iff ?_
  unfold viewP
  exact and_assoc
theorem isView_is {v : View} {n : Nat} (hn : n ≤ 1048576) (hl : v.InStep.length ≤ 1048576) : Is (fun _ => impl_isView v (n : Int)) (viewP v n) := by
  unfold impl_isView
  refine (Is.bind (Q := ((0 ≤ v.Epoch ∧ v.Epoch ≤ 100) ∧ memP v.InStep n) ∧ v.Leader ∈ v.InStep) (Is.andb (P := 0 ≤ v.Epoch ∧ v.Epoch ≤ 100) (by simp [impl_in]) (fun _ => areMembers_is (by omega) (by omega) (by omega))) (fun b hb => Is.bind (Is.andb hb (fun _ => Contains_int_is (by omega))) (fun b hb => Is.of hb))).iff ?_
  unfold viewP
  exact and_assoc

def nodeP (c : Cluster) (k : Nat) (x : Node) : Prop :=
  viewP x.View c.Nodes.length ∧ x.View.Epoch ≤ c.Truth.Epoch ∧ ¬ (x.View.Epoch = c.Truth.Epoch ∧ x.View.Leader ≠ c.Truth.Leader) ∧ rowsP x.Log x.View.Epoch ∧ x.Known.length = c.Nodes.length ∧ 0 ≤ x.Told ∧ x.Told ≤ x.Log.length ∧ ∀ (i : Nat) (m : Int), x.Known[i]? = some m → 0 ≤ m ∧ m ≤ x.Log.length ∧ (x.View.Leader ≠ k → m = 0)
def inP (c : Cluster) (k : Nat) (x : Node) : Prop := (k : Int) ∈ c.Truth.InStep → c.Acked <+: x.Log
structure small (c : Cluster) : Prop where
  a : c.nn ≤ 1048576
theorem nn_truth {c : Cluster} (h : c.nn ≤ 1048576) : c.Truth.InStep.length ≤ 1048576 ∧ c.Nodes.length ≤ 1048576 ∧ c.Acked.length ≤ 1048576 := by
  have h : c.Truth.nn + (nnL Node.nn c.Nodes + (c.Acked.length + 0)) ≤ 1048576 := h
  have h1 : c.Truth.nn = c.Truth.InStep.length + 0 := rfl
  have := nnL_len (f := Node.nn) (l := c.Nodes)
  omega
theorem nn_node {c : Cluster} (h : c.nn ≤ 1048576) {i : Nat} {x : Node} (hx : c.Nodes[i]? = some x) : x.View.InStep.length ≤ 1048576 ∧ x.Log.length ≤ 1048576 ∧ x.Known.length ≤ 1048576 := by
  have h : c.Truth.nn + (nnL Node.nn c.Nodes + (c.Acked.length + 0)) ≤ 1048576 := h
  have h1 : x.nn = x.View.nn + (x.Log.length + (x.Known.length + 0)) := rfl
  have h2 : x.View.nn = x.View.InStep.length + 0 := rfl
  have := nnL_get (f := Node.nn) hx
  omega
theorem l17Node_is {c : Cluster} {i : Nat} {x : Node} (h : c.nn ≤ 1048576) (hx : c.Nodes[i]? = some x) : Is (fun k => spec_l17Node k c (i : Int)) (nodeP c i x ∧ inP c i x) := by
  obtain ⟨t1, t2, t3⟩ := nn_truth h
  obtain ⟨n1, n2, n3⟩ := nn_node h hx
  unfold spec_l17Node
  refine Is.bindv (Ev.of (geti_nat hx)) ?_
  refine Is.bind (l17View_is n1) (fun v hv => ?_)
  refine Is.bind (P := ¬ (viewP x.View c.Nodes.length ∧ x.View.Epoch ≤ c.Truth.Epoch ∧ ¬ (x.View.Epoch = c.Truth.Epoch ∧ x.View.Leader ≠ c.Truth.Leader) ∧ rowsP x.Log x.View.Epoch)) (Is.ite (fun hb => Is.T ?_) (fun hb => Is.bind (l11Log_is (by omega)) (fun b hb2 => Is.of ?_))) (fun b hb => ?_)
  · rintro ⟨a1, a2, a3, a4⟩
    simp [hv.2 a1] at hb
    rcases hb with hb | hb
    · omega
    · exact a3 hb
  · simp at hb
    have a1 := hv.1 hb.1.1
    have a2 : x.View.Epoch ≤ c.Truth.Epoch := by omega
    have a3 : ¬ (x.View.Epoch = c.Truth.Epoch ∧ x.View.Leader ≠ c.Truth.Leader) := fun hh => hh.2 (hb.2 hh.1)
    simp only [a1, a2, a3, not_false_eq_true, true_and, ← hb2]
    cases b <;> simp
  refine Is.ite (fun hc => Is.F ?_) (fun hc => ?_)
  · rintro ⟨⟨a1, a2, a3, a4, a5, a6, a7, a8⟩, _⟩
    have : b = false := by
      cases b with
      | false => rfl
      | true => exact absurd ⟨a1, a2, a3, a4⟩ (hb.1 rfl)
    subst this
    simp at hc
    omega
  · simp at hc
    obtain ⟨⟨⟨rfl, c1⟩, c2⟩, c3⟩ := hc
    have hA : viewP x.View c.Nodes.length ∧ x.View.Epoch ≤ c.Truth.Epoch ∧ ¬ (x.View.Epoch = c.Truth.Epoch ∧ x.View.Leader ≠ c.Truth.Leader) ∧ rowsP x.Log x.View.Epoch :=
      Classical.byContradiction fun hn => Bool.false_ne_true (hb.2 hn)
    obtain ⟨a1, a2, a3, a4⟩ := hA
    refine Is.all (Q := fun _ m => 0 ≤ m ∧ m ≤ (x.Log.length : Int) ∧ (x.View.Leader ≠ i → m = 0)) (by omega) (fun j m hm => ?_) (fun hq => ?_) (fun hq hp => hq hp.1.2.2.2.2.2.2.2)
    · unfold spec_l17Node_b1
      refine body1 (Is.ite (fun hb => Is.T ?_) (fun hb => ?_))
      · simp at hb; rintro ⟨b1, b2, _⟩; omega
      · simp at hb
        unfold spec_l17Thinks
        rw [geti_nat hx]
        simp only [Option.bind_some]
        refine Is.of ?_
        simp
        constructor
        · intro ⟨h1, h2⟩ _ _
          exact ⟨h1, h2⟩
        · intro h3
          have := h3 hb.1 (by omega)
          simpa using this
    · unfold spec_l17Node_j1
      refine (Is.bind (l1Has_is (by omega)) (fun b hb2 => Is.ite (P := inP c i x) (fun hb3 => Is.T ?_) (fun hb3 => ?_))).iff ⟨fun hi => ⟨⟨a1, a2, a3, a4, by omega, by omega, by omega, hq⟩, hi⟩, fun hp => hp.2⟩
      · intro hi; simp [hb2.2 hi] at hb3
      · have hi := hb2.1 (by simpa using hb3)
        exact (l11Same_pre t3).iff ⟨fun hp _ => hp, fun hp => hp hi⟩
def gclP (c : Cluster) : Prop := (2 ≤ c.Nodes.length ∧ c.Nodes.length ≤ 4) ∧ viewP c.Truth c.Nodes.length ∧ rowsP c.Acked 100 ∧ ∀ (i : Nat) (x : Node), c.Nodes[i]? = some x → nodeP c i x ∧ inP c i x
theorem spec_good_is {c : Cluster} (h : c.nn ≤ 1048576) : Is (fun k => spec_GoodCluster k c) (gclP c) := by
  obtain ⟨t1, t2, t3⟩ := nn_truth h
  unfold spec_GoodCluster
  refine Is.bind (P := ¬ ((2 ≤ c.Nodes.length ∧ c.Nodes.length ≤ 4) ∧ viewP c.Truth c.Nodes.length)) (Is.ite (fun hb => Is.T ?_) (fun hb => Is.bind (l17View_is t1) (fun b hb2 => Is.of ?_))) (fun b hb => ?_)
  · simp [spec_l1In] at hb; rintro ⟨⟨_, _⟩, _⟩; omega
  · simp [spec_l1In] at hb
    rw [← hb2]
    cases b <;> simp <;> omega
  refine Is.bind (P := ¬ ((2 ≤ c.Nodes.length ∧ c.Nodes.length ≤ 4) ∧ viewP c.Truth c.Nodes.length ∧ rowsP c.Acked 100)) (Is.ite (fun hb2 => Is.T ?_) (fun hb2 => Is.bind (l11Log_is (by omega)) (fun b3 hb3 => Is.of ?_))) (fun b2 hb2 => ?_)
  · intro hh; exact hb.1 hb2 ⟨hh.1, hh.2.1⟩
  · have hA := Classical.not_not.1 (fun hn => by rw [hb.2 hn] at hb2; cases hb2)
    simp only [hA.1, hA.2, true_and, and_self, ← hb3]
    cases b3 <;> simp
  refine Is.ite (fun hc => Is.F ?_) (fun hc => ?_)
  · intro hh; exact hb2.1 hc ⟨hh.1, hh.2.1, hh.2.2.1⟩
  · have hA := Classical.not_not.1 (fun hn => by rw [hb2.2 hn] at hc; cases hc)
    refine Is.allI (Q := fun i => ∀ x, c.Nodes[i]? = some x → nodeP c i x ∧ inP c i x) (by omega) (fun i hi => ?_) (fun hq => Is.T ⟨hA.1, hA.2.1, hA.2.2, fun i x hx => hq i (List.getElem?_eq_some_iff.1 hx).1 x hx⟩) (fun hq hp => hq (fun i _ x hx => hp.2.2.2 i x hx))
    have hx : c.Nodes[i]? = some c.Nodes[i] := List.getElem?_eq_getElem hi
    unfold spec_GoodCluster_b1
    obtain ⟨b, e, hb⟩ := body1n (l17Node_is h hx)
    refine ⟨b, e, hb.trans (not_congr ⟨fun hh x hx2 => by rw [hx] at hx2; cases hx2; exact hh, fun hh => hh _ hx⟩)⟩
theorem isClusterNode_is {c : Cluster} {i : Nat} {x : Node} (h : c.nn ≤ 1048576) (hx : c.Nodes[i]? = some x) : Is (fun _ => impl_isClusterNode x (i : Int) (c.Nodes.length : Int)) (viewP x.View c.Nodes.length ∧ rowsP x.Log x.View.Epoch ∧ x.Known.length = c.Nodes.length ∧ 0 ≤ x.Told ∧ x.Told ≤ x.Log.length ∧ ∀ (j : Nat) (m : Int), x.Known[j]? = some m → 0 ≤ m ∧ m ≤ x.Log.length ∧ (x.View.Leader ≠ i → m = 0)) := by
  obtain ⟨t1, t2, t3⟩ := nn_truth h
  obtain ⟨n1, n2, n3⟩ := nn_node h hx
  unfold impl_isClusterNode
  refine Is.bind (isView_is t2 n1) (fun v hv => ?_)
  refine Is.bind (P := ¬ (viewP x.View c.Nodes.length ∧ rowsP x.Log x.View.Epoch)) (Is.ite (fun hb => Is.T ?_) (fun hb => Is.bind (isRows_is (by omega)) (fun b hb2 => Is.of ?_))) (fun b hb => ?_)
  · rintro ⟨a1, _⟩
    simp [hv.2 a1] at hb
  · have := hv.1 (by simpa using hb)
    simp only [this, true_and, ← hb2]
    cases b <;> simp
  refine Is.ite (fun hc => Is.F ?_) (fun hc => ?_)
  · rintro ⟨a1, a4, a5, a6, a7, a8⟩
    have : b = false := by
      cases b with
      | false => rfl
      | true => exact absurd ⟨a1, a4⟩ (hb.1 rfl)
    subst this
    simp [impl_in] at hc
    omega
  · simp [impl_in] at hc
    obtain ⟨⟨rfl, c1⟩, c2⟩ := hc
    obtain ⟨a1, a4⟩ := Classical.byContradiction fun hn => Bool.false_ne_true (hb.2 hn)
    unfold slices_ContainsFunc_int slices_IndexFunc_int
    rcases first_range (B := fun _ i1 x2 _ => slices_IndexFunc_int_b1 (fun a0 => some (impl_isClusterNode_1 a0 x (i : Int))) i1 x2) (Q := fun _ m => ¬ (0 ≤ m ∧ m ≤ (x.Log.length : Int) ∧ (x.View.Leader ≠ i → m = 0))) (f := fun i => (i : Int)) (l := x.Known) (by omega) (fun j m hm => by
      unfold slices_IndexFunc_int_b1
      simp only [Option.bind_some]
      refine ite_body ?_
      simp [impl_isClusterNode_1, impl_in]
      constructor
      · intro h1 h2 h3
        rcases h1 with h1 | h1
        · omega
        · exact ⟨h1.1, h1.2⟩
      · intro h1
        by_cases h2 : 0 ≤ m ∧ m ≤ (x.Log.length : Int)
        · exact .inr (h1 h2.1 h2.2)
        · exact .inl (by omega)) with ⟨j, m, g1, g2, g3, g4⟩ | ⟨g1, g2⟩
    · refine Is.bindv (Ev.bind (Ev.jn_ret g4) Ev.rfl) (Is.of ?_)
      have hj : (0 : Int) ≤ (j : Int) := by omega
      simp only [hj, decide_true, Bool.not_true, Bool.false_eq_true, false_iff]
      rintro ⟨_, _, _, _, _, a8⟩
      exact g2 (a8 j m g1)
    · refine Is.bindv (Ev.bind (Ev.jn g2 Ev.rfl) Ev.rfl) (Is.of ?_)
      have e : (!(decide ((0 : Int) ≤ (-1)))) = true := rfl
      rw [e]
      simp only [true_iff]
      exact ⟨a1, a4, by omega, by omega, by omega, fun j m hm => Classical.not_not.1 (g1 j m hm)⟩
theorem impl_good_is {c : Cluster} (h : c.nn ≤ 1048576) : Is (fun _ => impl_isCluster c) (gclP c) := by
  obtain ⟨t1, t2, t3⟩ := nn_truth h
  unfold impl_isCluster
  refine Is.bind (P := ¬ ((2 ≤ c.Nodes.length ∧ c.Nodes.length ≤ 4) ∧ viewP c.Truth c.Nodes.length)) (Is.ite (fun hb => Is.T ?_) (fun hb => Is.bind (isView_is t2 t1) (fun b hb2 => Is.of ?_))) (fun b hb => ?_)
  · simp [impl_in] at hb; rintro ⟨⟨_, _⟩, _⟩; omega
  · simp [impl_in] at hb
    rw [← hb2]
    cases b <;> simp <;> omega
  refine Is.ite (fun hc => Is.F ?_) (fun hc => ?_)
  · intro hh
    rcases Bool.or_eq_true _ _ ▸ hc with hc | hc
    · exact hb.1 hc ⟨hh.1, hh.2.1⟩
    · have := hh.2.2.1.2
      simp at hc
      omega
  · simp at hc
    obtain ⟨rfl, hc⟩ := hc
    obtain ⟨a1, a2⟩ := Classical.byContradiction fun hn => Bool.false_ne_true (hb.2 hn)
    refine Is.all (Q := fun i x => nodeP c i x ∧ inP c i x) (by omega) (fun i x hx => ?_) (fun hq => Is.T ⟨a1, a2, ?_, hq⟩) (fun hq hp => hq (fun i x hx => hp.2.2.2 i x hx))
    · obtain ⟨n1, n2, n3⟩ := nn_node h hx
      unfold impl_isCluster_b1
      obtain ⟨b, e, hb⟩ := isClusterNode_is h hx
      by_cases hg : ((!b) || (decide (c.Truth.Epoch < x.View.Epoch)) || ((decide (x.View.Epoch = c.Truth.Epoch)) && (decide (x.View.Leader ≠ c.Truth.Leader)))) = true
      · refine ⟨true, Ev.bind e (Ev.iteT hg Ev.rfl), ?_⟩
        simp only [true_iff]
        rintro ⟨⟨b1, b2, b3, b4, b5, b6, b7, b8⟩, _⟩
        rw [hb.2 ⟨b1, b4, b5, b6, b7, b8⟩] at hg
        simp at hg
        rcases hg with hg | hg
        · omega
        · exact b3 hg
      · have hg' := Bool.not_eq_true _ ▸ hg
        simp at hg
        obtain ⟨⟨g1, g2⟩, g3⟩ := hg
        obtain ⟨b1, b4, b5, b6, b7, b8⟩ := hb.1 g1
        have hnode : nodeP c i x := ⟨b1, by omega, fun hh => hh.2 (g3 hh.1), b4, b5, b6, b7, b8⟩
        obtain ⟨b2, e2, hb2⟩ := Contains_int_is (l := c.Truth.InStep) (v := (i : Int)) (by omega)
        cases b2 with
        | false =>
          refine ⟨false, Ev.bind e (Ev.iteF hg' (Ev.bind e2 (Ev.iteF rfl Ev.rfl))), ?_⟩
          simp only [Bool.false_eq_true, false_iff, Classical.not_not]
          exact ⟨hnode, fun hi => absurd (hb2.2 hi) Bool.false_ne_true⟩
        | true =>
          have hi := hb2.1 rfl
          by_cases hlen : x.Log.length < c.Acked.length
          · refine ⟨true, Ev.bind e (Ev.iteF hg' (Ev.bind e2 (Ev.iteT rfl (Ev.iteT (by simp; omega) Ev.rfl)))), ?_⟩
            simp only [true_iff]
            rintro ⟨_, hp⟩
            have := (hp hi).length_le
            omega
          · obtain ⟨b3, e3, hb3⟩ := Equal_Row_is (a := x.Log.take c.Acked.length) (b := c.Acked) (by rw [List.length_take]; omega)
            have hs : sl x.Log 0 (c.Acked.length : Int) = some (x.Log.take c.Acked.length) := sl_take (by omega)
            refine ⟨!b3, Ev.bind e (Ev.iteF hg' (Ev.bind e2 (Ev.iteT rfl (Ev.iteF (by simp; omega) (Ev.bindp hs (Ev.bind e3 ?_)))))), ?_⟩
            · cases b3 <;> exact Ev.rfl
            · have : (x.Log.take c.Acked.length = c.Acked) ↔ c.Acked <+: x.Log := by
                rw [List.prefix_iff_eq_take]
                exact eq_comm
              rw [this] at hb3
              have e4 : inP c i x ↔ c.Acked <+: x.Log := ⟨fun hp => hp hi, fun hp _ => hp⟩
              rw [e4, ← hb3]
              cases b3 <;> simp [hnode]
    · obtain ⟨v1, v2, v3⟩ := a2
      obtain ⟨j, hj⟩ := List.getElem?_of_mem v3
      obtain ⟨w1, w2, _⟩ := v2 j _ hj
      have hlt : c.Truth.Leader.toNat < c.Nodes.length := by omega
      have hx : c.Nodes[c.Truth.Leader.toNat]? = some c.Nodes[c.Truth.Leader.toNat] := List.getElem?_eq_getElem hlt
      obtain ⟨hn, hi⟩ := hq _ _ hx
      have hp := hi (by rw [Int.toNat_of_nonneg w1]; exact v3)
      rw [List.prefix_iff_eq_take] at hp
      rw [hp]
      exact rowsP_take hn.2.2.2.1 hn.1.1.2
theorem good_two {c : Cluster} (h : c.nn ≤ 1048576) : ∃ b : Bool, Ev (fun k => spec_GoodCluster k c) b ∧ Ev (fun _ => impl_isCluster c) b ∧ (b = true ↔ gclP c) := by
  obtain ⟨b, e, hb⟩ := spec_good_is h
  obtain ⟨b', e1, e2⟩ := (spec_good_is h).two (impl_good_is h)
  have := e.two e1
  subst this
  exact ⟨b, e, e2, hb⟩
end Go.Proofs.Ytohofoampalhoaa.X
