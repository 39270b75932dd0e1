/- The laws' own walks: sizes, copies, comparisons, marks. -/
import Derived.Test.YtefgfcalgjmhjaaXCD
import Derived.Test.YtefgfcalgjmhjaaXCW
import Derived.Test.YtefgfcalgjmhjaaZLib2
set_option linter.unusedVariables false
set_option linter.unusedSimpArgs false
set_option maxRecDepth 100000
namespace Go.Proofs.Ytefgfcalgjmhjaa.X
open Go
def markI (_ : Int) (n : Nat) : Int := (n : Int)
def markB (_ : Bool) (n : Nat) : Bool := decide (Int.tmod (n : Int) 3 = 0)
def Row.mce (x : Row) : Nat := 1 + 1
def Row.mke (x : Row) (n : Nat) : Row := (Row.mk ((n : Nat) : Int) ((n + 1 : Nat) : Int))
def Replica.nn (x : Replica) : Nat := (x.Log.length + 0)
def Replica.mce (x : Replica) : Nat := sumN Row.mce x.Log + 1 + 1
def Replica.mke (x : Replica) (n : Nat) : Replica := (Replica.mk (mkdL Row.mke Row.mce x.Log (n)) ((n + sumN Row.mce x.Log : Nat) : Int) ((n + sumN Row.mce x.Log + 1 : Nat) : Int))
def Replica.mkd (x : Replica) (n : Nat) : Replica := (Replica.mk (mkdL Row.mke Row.mce x.Log (n)) x.Epoch x.Known)
def Replica.en (x : Replica) (n : Nat) : Nat := n + sumN Row.mce x.Log
theorem Replica.mce_le (x : Replica) : x.mce ≤ 100 * (1 + x.nn) := by
  have h0 : sumN Row.mce x.Log = 2 * x.Log.length := sumN_const
  unfold Replica.mce
  simp only [Replica.nn]
  omega
theorem Replica.en_le {x : Replica} {n : Nat} (h : x.nn ≤ 1048576) : x.en n ≤ n + 100 * x.nn := by
  have h0 : sumN Row.mce x.Log = 2 * x.Log.length := sumN_const
  simp only [Replica.en, Replica.nn] at h ⊢
  omega
def Group.nn (x : Group) : Nat := (x.InStep.length + ((nnL Replica.nn x.Replicas) + 0))
def Group.mce (x : Group) : Nat := 1 + 1 + sumN (fun _ => 1) x.InStep + 1 + sumN Replica.mce x.Replicas
def Group.mke (x : Group) (n : Nat) : Group := (Group.mk ((n : Nat) : Int) ((n + 1 : Nat) : Int) (mkdL markI (fun _ => 1) x.InStep (n + 1 + 1)) ((n + 1 + 1 + sumN (fun _ => 1) x.InStep : Nat) : Int) (mkdL Replica.mke Replica.mce x.Replicas (n + 1 + 1 + sumN (fun _ => 1) x.InStep + 1)))
def Group.mkd (x : Group) (n : Nat) : Group := (Group.mk x.Epoch x.Leader (mkdL markI (fun _ => 1) x.InStep (n)) x.High (mkdL Replica.mke Replica.mce x.Replicas (n + sumN (fun _ => 1) x.InStep)))
def Group.en (x : Group) (n : Nat) : Nat := n + sumN (fun _ => 1) x.InStep + sumN Replica.mce x.Replicas
theorem Group.en_le {x : Group} {n : Nat} (h : x.nn ≤ 1048576) : x.en n ≤ n + 100 * x.nn := by
  have h0 : sumN (fun _ => 1) x.InStep = 1 * x.InStep.length := sumN_const
  have h1 := sumN_le (c := Replica.mce) (f := Replica.nn) (m := 100) Replica.mce_le (l := x.Replicas)
  simp only [Group.en, Group.nn] at h ⊢
  omega
def IsrStep.mce (x : IsrStep) : Nat := 1 + 1 + 1
def IsrStep.mke (x : IsrStep) (n : Nat) : IsrStep := (IsrStep.mk ((n : Nat) : Int) ((n + 1 : Nat) : Int) ((n + 1 + 1 : Nat) : Int))
theorem eqIntS_ev {a b : List Int} (hl : a.length ≤ 1048576) : Ev (fun k => laws_eqIntS k a b) (decide (a = b)) := by
  unfold laws_eqIntS
  refine eqL_ev (fun hab => eqS_evk hl hab (fun i x y hx hy => ?_) ?_)
  · unfold laws_eqIntS_b1
    have hi : i < a.length := (List.getElem?_eq_some_iff.1 hx).1
    refine Ev.iteT (by simpa using hi) ?_
    refine Ev.bindp (geti_nat hx) ?_
    refine Ev.bindp (geti_nat hy) ?_
    rw [wadd (by omega)]
    by_cases e : x = y
    · rw [if_pos e]
      exact Ev.iteF (by simp [e]) Ev.rfl
    · rw [if_neg e]
      exact Ev.iteT (by simp [e]) Ev.rfl
  · unfold laws_eqIntS_b1
    exact Ev.iteF (by simp) Ev.rfl
theorem eqRow_ev {a b : Row} : Ev (fun k => laws_eqRow a b) (decide (a = b)) := by
  refine eq_done (p := a.Epoch = b.Epoch ∧ a.Value = b.Value ∧ True) ?_ (by cases a; cases b; simp)
  unfold laws_eqRow
  refine eq_iteI ?_
  refine eq_iteI ?_
  exact eq_end
theorem eqRowS_ev {a b : List Row} (hl : a.length ≤ 1048576) : Ev (fun k => laws_eqRowS k a b) (decide (a = b)) := by
  unfold laws_eqRowS
  refine eqL_ev (fun hab => eqS_evk hl hab (fun i x y hx hy => ?_) ?_)
  · unfold laws_eqRowS_b1
    have hi : i < a.length := (List.getElem?_eq_some_iff.1 hx).1
    refine Ev.iteT (by simpa using hi) ?_
    refine Ev.bindp (geti_nat hx) ?_
    refine Ev.bindp (geti_nat hy) ?_
    refine Ev.bind (eqRow_ev) ?_
    rw [wadd (by omega)]
    by_cases e : x = y
    · rw [if_pos e]
      exact Ev.iteF (by simp [e]) Ev.rfl
    · rw [if_neg e]
      exact Ev.iteT (by simp [e]) Ev.rfl
  · unfold laws_eqRowS_b1
    exact Ev.iteF (by simp) Ev.rfl
theorem eqReplica_ev {a b : Replica} (h : a.nn ≤ 1048576) : Ev (fun k => laws_eqReplica k a b) (decide (a = b)) := by
  have h : (a.Log.length + 0) ≤ 1048576 := h
  refine eq_done (p := a.Log = b.Log ∧ a.Epoch = b.Epoch ∧ a.Known = b.Known ∧ True) ?_ (by cases a; cases b; simp)
  unfold laws_eqReplica
  refine eq_bind (eqRowS_ev (by omega)) ?_
  refine eq_iteI ?_
  refine eq_iteI ?_
  exact eq_end
theorem eqReplicaS_ev {a b : List Replica} (h : nnL Replica.nn a ≤ 1048576) : Ev (fun k => laws_eqReplicaS k a b) (decide (a = b)) := by
  have hl : a.length ≤ 1048576 := Nat.le_trans nnL_len h
  unfold laws_eqReplicaS
  refine eqL_ev (fun hab => eqS_evk hl hab (fun i x y hx hy => ?_) ?_)
  · unfold laws_eqReplicaS_b1
    have hi : i < a.length := (List.getElem?_eq_some_iff.1 hx).1
    refine Ev.iteT (by simpa using hi) ?_
    refine Ev.bindp (geti_nat hx) ?_
    refine Ev.bindp (geti_nat hy) ?_
    refine Ev.bind (eqReplica_ev (Nat.le_trans (nnL_get hx) h)) ?_
    rw [wadd (by omega)]
    by_cases e : x = y
    · rw [if_pos e]
      exact Ev.iteF (by simp [e]) Ev.rfl
    · rw [if_neg e]
      exact Ev.iteT (by simp [e]) Ev.rfl
  · unfold laws_eqReplicaS_b1
    exact Ev.iteF (by simp) Ev.rfl
theorem eqGroup_ev {a b : Group} (h : a.nn ≤ 1048576) : Ev (fun k => laws_eqGroup k a b) (decide (a = b)) := by
  have h : (a.InStep.length + ((nnL Replica.nn a.Replicas) + 0)) ≤ 1048576 := h
  refine eq_done (p := a.Epoch = b.Epoch ∧ a.Leader = b.Leader ∧ a.InStep = b.InStep ∧ a.High = b.High ∧ a.Replicas = b.Replicas ∧ True) ?_ (by cases a; cases b; simp)
  unfold laws_eqGroup
  refine eq_iteI ?_
  refine eq_iteI ?_
  refine eq_bind (eqIntS_ev (by omega)) ?_
  refine eq_iteI ?_
  refine eq_bind (eqReplicaS_ev (by omega)) ?_
  exact eq_end
theorem markIntS_ev {l : List Int} {n : Nat} (hl : l.length ≤ 1048576) (hn : n + sumN (fun _ => 1) l < 4611686018427387904) : Ev (fun k => laws_markIntS k l (n : Int)) (((n + sumN (fun _ => 1) l : Nat) : Int), mkdL markI (fun _ => 1) l n) := by
  unfold laws_markIntS
  refine Ev.jn (markS_evk (c := (fun _ => 1)) (M := markI) hl hn (fun n i s x hn hi hx hsx hs => ?_) (fun n s hs => ?_)) (Ev.of rfl)
  · try dsimp only at hn
    unfold laws_markIntS_b1
    try dsimp only
    refine Ev.iteT (by rw [hs]; simpa using hi) ?_
    refine Ev.bindp (geti_nat hsx) ?_
    try simp (disch := omega) only [wadd]
    exact Ev.rfl
  · unfold laws_markIntS_b1
    try dsimp only
    exact Ev.iteF (by rw [hs]; simp) Ev.rfl
theorem markRowS_ev {l : List Row} {n : Nat} (hl : l.length ≤ 1048576) (hn : n + sumN Row.mce l < 4611686018427387904) : Ev (fun k => laws_markRowS k l (n : Int)) (((n + sumN Row.mce l : Nat) : Int), mkdL Row.mke Row.mce l n) := by
  unfold laws_markRowS
  refine Ev.jn (markS_evk (c := Row.mce) (M := Row.mke) hl hn (fun n i s x hn hi hx hsx hs => ?_) (fun n s hs => ?_)) (Ev.of rfl)
  · have hc : Row.mce x = 1 + 1 := rfl
    rw [hc] at hn
    rw [show n + Row.mce x = n + 1 + 1 by omega]
    unfold laws_markRowS_b1
    try dsimp only
    refine Ev.iteT (by rw [hs]; simpa using hi) ?_
    refine Ev.bindp (geti_nat hsx) ?_
    try simp (disch := omega) only [wadd]
    exact Ev.rfl
  · unfold laws_markRowS_b1
    try dsimp only
    exact Ev.iteF (by rw [hs]; simp) Ev.rfl
theorem markReplicaS_ev {l : List Replica} {n : Nat} (h : nnL Replica.nn l ≤ 1048576) (hn : n + sumN Replica.mce l < 4611686018427387904) : Ev (fun k => laws_markReplicaS k l (n : Int)) (((n + sumN Replica.mce l : Nat) : Int), mkdL Replica.mke Replica.mce l n) := by
  have hl : l.length ≤ 1048576 := Nat.le_trans nnL_len h
  unfold laws_markReplicaS
  refine Ev.jn (markS_evk (c := Replica.mce) (M := Replica.mke) hl hn (fun n i s x hn hi hx hsx hs => ?_) (fun n s hs => ?_)) (Ev.of rfl)
  · have hc : Replica.mce x = sumN Row.mce x.Log + 1 + 1 := rfl
    rw [hc] at hn
    rw [show n + Replica.mce x = n + sumN Row.mce x.Log + 1 + 1 by omega]
    have hb : (x.Log.length + 0) ≤ 1048576 := Nat.le_trans (nnL_get (f := Replica.nn) hx) h
    unfold laws_markReplicaS_b1
    try dsimp only
    refine Ev.iteT (by rw [hs]; simpa using hi) ?_
    refine Ev.bindp (geti_nat hsx) ?_
    try simp (disch := omega) only [wadd]
    refine Ev.bind (markRowS_ev (l := x.Log) (n := n) (by omega) (by omega)) ?_
    try dsimp only
    try simp (disch := omega) only [wadd]
    exact Ev.rfl
  · unfold laws_markReplicaS_b1
    try dsimp only
    exact Ev.iteF (by rw [hs]; simp) Ev.rfl
theorem markGroup_ev {x : Group} {n : Nat} (h : x.nn ≤ 1048576) (hn : x.en n < 4611686018427387904) : Ev (fun k => laws_markGroup k x (n : Int)) (((x.en n : Nat) : Int), x.mkd n) := by
  simp only [Group.en, Group.nn] at h hn
  unfold laws_markGroup
  refine Ev.bind (markIntS_ev (l := x.InStep) (n := n) (by omega) (by (try simp only [Group.en, Group.nn]); omega)) ?_
  refine Ev.bind (markReplicaS_ev (l := x.Replicas) (n := n + sumN (fun _ => 1) x.InStep) (by omega) (by (try simp only [Group.en, Group.nn]); omega)) ?_
  exact Ev.rfl
theorem heldIntS_ev {l : List Int} {n : Nat} (hl : l.length ≤ 1048576) (hn : n + sumN (fun _ => 1) l < 4611686018427387904) : Ev (fun k => laws_heldIntS k (mkdL markI (fun _ => 1) l n) (n : Int)) ((n + sumN (fun _ => 1) l : Nat) : Int) := by
  unfold laws_heldIntS
  refine Ev.jn (heldS_evk (l := l) (c := (fun _ => 1)) hl hn (fun i x hx hn => ?_) (fun n => ?_)) (Ev.of rfl)
  · have hg := mkdL_get (M := markI) (c := (fun _ => 1)) (n := n) hx
    have hi : i < l.length := (List.getElem?_eq_some_iff.1 hx).1
    generalize n + sumN (fun _ => 1) (l.take i) = n at hg hn ⊢
    try dsimp only at hn
    unfold laws_heldIntS_b1
    try dsimp only
    refine Ev.iteT (by rw [mkdL_length]; simpa using hi) ?_
    try simp (disch := omega) only [wadd]
    refine Ev.bindp (geti_nat hg) ?_
    refine Ev.iteF (by simp [markI]) ?_
    exact Ev.rfl
  · unfold laws_heldIntS_b1
    try dsimp only
    exact Ev.iteF (by rw [mkdL_length]; simp) Ev.rfl
theorem heldRowS_ev {l : List Row} {n : Nat} (hl : l.length ≤ 1048576) (hn : n + sumN Row.mce l < 4611686018427387904) : Ev (fun k => laws_heldRowS k (mkdL Row.mke Row.mce l n) (n : Int)) ((n + sumN Row.mce l : Nat) : Int) := by
  unfold laws_heldRowS
  refine Ev.jn (heldS_evk (l := l) (c := Row.mce) hl hn (fun i x hx hn => ?_) (fun n => ?_)) (Ev.of rfl)
  · have hg := mkdL_get (M := Row.mke) (c := Row.mce) (n := n) hx
    have hi : i < l.length := (List.getElem?_eq_some_iff.1 hx).1
    generalize n + sumN Row.mce (l.take i) = n at hg hn ⊢
    have hc : Row.mce x = 1 + 1 := rfl
    rw [hc] at hn
    rw [show n + Row.mce x = n + 1 + 1 by omega]
    unfold laws_heldRowS_b1
    try dsimp only
    refine Ev.iteT (by rw [mkdL_length]; simpa using hi) ?_
    try simp (disch := omega) only [wadd]
    refine Ev.bindp (geti_nat hg) ?_
    refine Ev.iteF (by simp [Row.mke]) ?_
    refine Ev.bindp (geti_nat hg) ?_
    refine Ev.iteF (by simp [Row.mke]) ?_
    exact Ev.rfl
  · unfold laws_heldRowS_b1
    try dsimp only
    exact Ev.iteF (by rw [mkdL_length]; simp) Ev.rfl
theorem heldReplicaS_ev {l : List Replica} {n : Nat} (h : nnL Replica.nn l ≤ 1048576) (hn : n + sumN Replica.mce l < 4611686018427387904) : Ev (fun k => laws_heldReplicaS k (mkdL Replica.mke Replica.mce l n) (n : Int)) ((n + sumN Replica.mce l : Nat) : Int) := by
  have hl : l.length ≤ 1048576 := Nat.le_trans nnL_len h
  unfold laws_heldReplicaS
  refine Ev.jn (heldS_evk (l := l) (c := Replica.mce) hl hn (fun i x hx hn => ?_) (fun n => ?_)) (Ev.of rfl)
  · have hg := mkdL_get (M := Replica.mke) (c := Replica.mce) (n := n) hx
    have hi : i < l.length := (List.getElem?_eq_some_iff.1 hx).1
    generalize n + sumN Replica.mce (l.take i) = n at hg hn ⊢
    have hc : Replica.mce x = sumN Row.mce x.Log + 1 + 1 := rfl
    rw [hc] at hn
    rw [show n + Replica.mce x = n + sumN Row.mce x.Log + 1 + 1 by omega]
    have hb : (x.Log.length + 0) ≤ 1048576 := Nat.le_trans (nnL_get (f := Replica.nn) hx) h
    unfold laws_heldReplicaS_b1
    try dsimp only
    refine Ev.iteT (by rw [mkdL_length]; simpa using hi) ?_
    try simp (disch := omega) only [wadd]
    refine Ev.bindp (geti_nat hg) ?_
    refine Ev.bind (heldRowS_ev (l := x.Log) (n := n) (by omega) (by omega)) ?_
    refine Ev.iteF (by simp only [decide_eq_false_iff_not]; omega) ?_
    try simp (disch := omega) only [wadd]
    refine Ev.bindp (geti_nat hg) ?_
    refine Ev.iteF (by simp [Replica.mke]) ?_
    refine Ev.bindp (geti_nat hg) ?_
    refine Ev.iteF (by simp [Replica.mke]) ?_
    exact Ev.rfl
  · unfold laws_heldReplicaS_b1
    try dsimp only
    exact Ev.iteF (by rw [mkdL_length]; simp) Ev.rfl
theorem heldGroup_ev {x : Group} {n : Nat} (h : x.nn ≤ 1048576) (hn : x.en n < 4611686018427387904) : Ev (fun k => laws_heldGroup k (x.mkd n) (n : Int)) ((x.en n : Nat) : Int) := by
  simp only [Group.en, Group.nn] at h hn
  unfold laws_heldGroup
  refine Ev.bind (heldIntS_ev (l := x.InStep) (n := n) (by omega) (by (try simp only [Group.en, Group.nn]); omega)) ?_
  refine Ev.iteF (by simp only [decide_eq_false_iff_not]; omega) ?_
  refine Ev.bind (heldReplicaS_ev (l := x.Replicas) (n := n + sumN (fun _ => 1) x.InStep) (by omega) (by (try simp only [Group.en, Group.nn]); omega)) ?_
  refine Ev.iteF (by simp only [decide_eq_false_iff_not]; omega) ?_
  exact Ev.rfl
theorem szIsrStepS_ev {l : List IsrStep} {left : Int} (hl : l.length ≤ 4611686018427387904) (h0 : 0 ≤ left) (h1 : left ≤ 1048576) : Ev (fun k => laws_szIsrStepS l left) (szr l.length left) := by
  unfold laws_szIsrStepS
  exact Ev.of (szr_flat hl h0 h1)
theorem toIsrStepS_ev {l : List IsrStep} (hl : l.length ≤ 1048576) : Ev (fun k => laws_toIsrStepS k l) l := by
  unfold laws_toIsrStepS
  refine Ev.bindp (mkN_ok (by omega)) ?_
  refine Ev.jn (s := ((l.length : Int), l)) (toS_evk hl (fun i s x y hx hy => ?_) (fun s => ?_)) (Ev.of rfl)
  · unfold laws_toIsrStepS_b1
    have hi : i < l.length := (List.getElem?_eq_some_iff.1 hx).1
    refine Ev.iteT (by simpa using hi) ?_
    refine Ev.bindp (geti_nat hx) ?_
    refine Ev.bindp (geti_nat hy) ?_
    rw [wadd (by omega)]
    exact Ev.rfl
  · unfold laws_toIsrStepS_b1
    exact Ev.iteF (by simp) Ev.rfl
theorem eqBoolS_ev {a b : List Bool} (hl : a.length ≤ 1048576) : Ev (fun k => laws_eqBoolS k a b) (decide (a = b)) := by
  unfold laws_eqBoolS
  refine eqL_ev (fun hab => eqS_evk hl hab (fun i x y hx hy => ?_) ?_)
  · unfold laws_eqBoolS_b1
    have hi : i < a.length := (List.getElem?_eq_some_iff.1 hx).1
    refine Ev.iteT (by simpa using hi) ?_
    refine Ev.bindp (geti_nat hx) ?_
    refine Ev.bindp (geti_nat hy) ?_
    rw [wadd (by omega)]
    by_cases e : x = y
    · rw [if_pos e]
      exact Ev.iteF (by simp [e]) Ev.rfl
    · rw [if_neg e]
      exact Ev.iteT (by simp [e]) Ev.rfl
  · unfold laws_eqBoolS_b1
    exact Ev.iteF (by simp) Ev.rfl
theorem eqIsrStep_ev {a b : IsrStep} : Ev (fun k => laws_eqIsrStep a b) (decide (a = b)) := by
  refine eq_done (p := a.Kind = b.Kind ∧ a.K = b.K ∧ a.N = b.N ∧ True) ?_ (by cases a; cases b; simp)
  unfold laws_eqIsrStep
  refine eq_iteI ?_
  refine eq_iteI ?_
  refine eq_iteI ?_
  exact eq_end
theorem eqIsrStepS_ev {a b : List IsrStep} (hl : a.length ≤ 1048576) : Ev (fun k => laws_eqIsrStepS k a b) (decide (a = b)) := by
  unfold laws_eqIsrStepS
  refine eqL_ev (fun hab => eqS_evk hl hab (fun i x y hx hy => ?_) ?_)
  · unfold laws_eqIsrStepS_b1
    have hi : i < a.length := (List.getElem?_eq_some_iff.1 hx).1
    refine Ev.iteT (by simpa using hi) ?_
    refine Ev.bindp (geti_nat hx) ?_
    refine Ev.bindp (geti_nat hy) ?_
    refine Ev.bind (eqIsrStep_ev) ?_
    rw [wadd (by omega)]
    by_cases e : x = y
    · rw [if_pos e]
      exact Ev.iteF (by simp [e]) Ev.rfl
    · rw [if_neg e]
      exact Ev.iteT (by simp [e]) Ev.rfl
  · unfold laws_eqIsrStepS_b1
    exact Ev.iteF (by simp) Ev.rfl
theorem markIsrStepS_ev {l : List IsrStep} {n : Nat} (hl : l.length ≤ 1048576) (hn : n + sumN IsrStep.mce l < 4611686018427387904) : Ev (fun k => laws_markIsrStepS k l (n : Int)) (((n + sumN IsrStep.mce l : Nat) : Int), mkdL IsrStep.mke IsrStep.mce l n) := by
  unfold laws_markIsrStepS
  refine Ev.jn (markS_evk (c := IsrStep.mce) (M := IsrStep.mke) hl hn (fun n i s x hn hi hx hsx hs => ?_) (fun n s hs => ?_)) (Ev.of rfl)
  · have hc : IsrStep.mce x = 1 + 1 + 1 := rfl
    rw [hc] at hn
    rw [show n + IsrStep.mce x = n + 1 + 1 + 1 by omega]
    unfold laws_markIsrStepS_b1
    try dsimp only
    refine Ev.iteT (by rw [hs]; simpa using hi) ?_
    refine Ev.bindp (geti_nat hsx) ?_
    try simp (disch := omega) only [wadd]
    exact Ev.rfl
  · unfold laws_markIsrStepS_b1
    try dsimp only
    exact Ev.iteF (by rw [hs]; simp) Ev.rfl
theorem markBoolS_ev {l : List Bool} {n : Nat} (hl : l.length ≤ 1048576) (hn : n + sumN (fun _ => 1) l < 4611686018427387904) : Ev (fun k => laws_markBoolS k l (n : Int)) (((n + sumN (fun _ => 1) l : Nat) : Int), mkdL markB (fun _ => 1) l n) := by
  unfold laws_markBoolS
  refine Ev.jn (markS_evk (c := (fun _ => 1)) (M := markB) hl hn (fun n i s x hn hi hx hsx hs => ?_) (fun n s hs => ?_)) (Ev.of rfl)
  · try dsimp only at hn
    unfold laws_markBoolS_b1
    try dsimp only
    refine Ev.iteT (by rw [hs]; simpa using hi) ?_
    refine Ev.bindp (geti_nat hsx) ?_
    try simp (disch := omega) only [wadd]
    exact Ev.rfl
  · unfold laws_markBoolS_b1
    try dsimp only
    exact Ev.iteF (by rw [hs]; simp) Ev.rfl
theorem heldBoolS_ev {l : List Bool} {n : Nat} (hl : l.length ≤ 1048576) (hn : n + sumN (fun _ => 1) l < 4611686018427387904) : Ev (fun k => laws_heldBoolS k (mkdL markB (fun _ => 1) l n) (n : Int)) ((n + sumN (fun _ => 1) l : Nat) : Int) := by
  unfold laws_heldBoolS
  refine Ev.jn (heldS_evk (l := l) (c := (fun _ => 1)) hl hn (fun i x hx hn => ?_) (fun n => ?_)) (Ev.of rfl)
  · have hg := mkdL_get (M := markB) (c := (fun _ => 1)) (n := n) hx
    have hi : i < l.length := (List.getElem?_eq_some_iff.1 hx).1
    generalize n + sumN (fun _ => 1) (l.take i) = n at hg hn ⊢
    try dsimp only at hn
    unfold laws_heldBoolS_b1
    try dsimp only
    refine Ev.iteT (by rw [mkdL_length]; simpa using hi) ?_
    try simp (disch := omega) only [wadd]
    refine Ev.bindp (geti_nat hg) ?_
    refine Ev.iteF (by simp [markB]) ?_
    exact Ev.rfl
  · unfold laws_heldBoolS_b1
    try dsimp only
    exact Ev.iteF (by rw [mkdL_length]; simp) Ev.rfl
end Go.Proofs.Ytefgfcalgjmhjaa.X
