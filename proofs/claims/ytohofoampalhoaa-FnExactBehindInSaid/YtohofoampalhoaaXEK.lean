/- The laws' own walks: sizes, copies, comparisons, marks. -/
import Derived.Test.YtohofoampalhoaaXED
import Derived.Test.YtohofoampalhoaaXEW
import Derived.Test.YtohofoampalhoaaXLib2
set_option linter.unusedVariables false
set_option linter.unusedSimpArgs false
set_option maxRecDepth 100000
namespace Go.Proofs.Ytohofoampalhoaa.X
open Go
def markI (_ : Int) (n : Nat) : Int := (n : Int)
def markB (_ : Bool) (n : Nat) : Bool := decide (Int.tmod (n : Int) 3 = 0)
def View.nn (x : View) : Nat := (x.InStep.length + 0)
def View.mce (x : View) : Nat := 1 + 1 + sumN (fun _ => 1) x.InStep
def View.mke (x : View) (n : Nat) : View := (View.mk ((n : Nat) : Int) ((n + 1 : Nat) : Int) (mkdL markI (fun _ => 1) x.InStep (n + 1 + 1)))
def View.mkd (x : View) (n : Nat) : View := (View.mk x.Epoch x.Leader (mkdL markI (fun _ => 1) x.InStep (n)))
def View.en (x : View) (n : Nat) : Nat := n + sumN (fun _ => 1) x.InStep
theorem View.mce_le (x : View) : x.mce ≤ 100 * (1 + x.nn) := by
  have h0 : sumN (fun _ => 1) x.InStep = 1 * x.InStep.length := sumN_const
  unfold View.mce
  simp only [View.nn]
  omega
theorem View.en_le {x : View} {n : Nat} (h : x.nn ≤ 1048576) : x.en n ≤ n + 100 * x.nn := by
  have h0 : sumN (fun _ => 1) x.InStep = 1 * x.InStep.length := sumN_const
  simp only [View.en, View.nn] at h ⊢
  omega
def Row.mce (x : Row) : Nat := 1 + 1
def Row.mke (x : Row) (n : Nat) : Row := (Row.mk ((n : Nat) : Int) ((n + 1 : Nat) : Int))
def Node.nn (x : Node) : Nat := (x.View.nn + (x.Log.length + (x.Known.length + 0)))
def Node.mce (x : Node) : Nat := 1 + 1 + sumN (fun _ => 1) x.View.InStep + sumN Row.mce x.Log + sumN (fun _ => 1) x.Known + 1
def Node.mke (x : Node) (n : Nat) : Node := (Node.mk (View.mk ((n : Nat) : Int) ((n + 1 : Nat) : Int) (mkdL markI (fun _ => 1) x.View.InStep (n + 1 + 1))) (mkdL Row.mke Row.mce x.Log (n + 1 + 1 + sumN (fun _ => 1) x.View.InStep)) (mkdL markI (fun _ => 1) x.Known (n + 1 + 1 + sumN (fun _ => 1) x.View.InStep + sumN Row.mce x.Log)) ((n + 1 + 1 + sumN (fun _ => 1) x.View.InStep + sumN Row.mce x.Log + sumN (fun _ => 1) x.Known : Nat) : Int))
def Node.mkd (x : Node) (n : Nat) : Node := (Node.mk (View.mkd x.View (n)) (mkdL Row.mke Row.mce x.Log (View.en x.View (n))) (mkdL markI (fun _ => 1) x.Known (View.en x.View (n) + sumN Row.mce x.Log)) x.Told)
def Node.en (x : Node) (n : Nat) : Nat := View.en x.View (n) + sumN Row.mce x.Log + sumN (fun _ => 1) x.Known
theorem Node.mce_le (x : Node) : x.mce ≤ 100 * (1 + x.nn) := by
  have h0 : sumN (fun _ => 1) x.View.InStep = 1 * x.View.InStep.length := sumN_const
  have h1 : sumN Row.mce x.Log = 2 * x.Log.length := sumN_const
  have h2 : sumN (fun _ => 1) x.Known = 1 * x.Known.length := sumN_const
  unfold Node.mce
  simp only [Node.nn, View.nn]
  omega
theorem Node.en_le {x : Node} {n : Nat} (h : x.nn ≤ 1048576) : x.en n ≤ n + 100 * x.nn := by
  have h0 : sumN (fun _ => 1) x.View.InStep = 1 * x.View.InStep.length := sumN_const
  have h1 : sumN Row.mce x.Log = 2 * x.Log.length := sumN_const
  have h2 : sumN (fun _ => 1) x.Known = 1 * x.Known.length := sumN_const
  simp only [Node.en, Node.nn, View.en, View.nn] at h ⊢
  omega
def Cluster.nn (x : Cluster) : Nat := (x.Truth.nn + ((nnL Node.nn x.Nodes) + (x.Acked.length + 0)))
def Cluster.mce (x : Cluster) : Nat := 1 + 1 + sumN (fun _ => 1) x.Truth.InStep + sumN Node.mce x.Nodes + sumN Row.mce x.Acked
def Cluster.mke (x : Cluster) (n : Nat) : Cluster := (Cluster.mk (View.mk ((n : Nat) : Int) ((n + 1 : Nat) : Int) (mkdL markI (fun _ => 1) x.Truth.InStep (n + 1 + 1))) (mkdL Node.mke Node.mce x.Nodes (n + 1 + 1 + sumN (fun _ => 1) x.Truth.InStep)) (mkdL Row.mke Row.mce x.Acked (n + 1 + 1 + sumN (fun _ => 1) x.Truth.InStep + sumN Node.mce x.Nodes)))
def Cluster.mkd (x : Cluster) (n : Nat) : Cluster := (Cluster.mk (View.mkd x.Truth (n)) (mkdL Node.mke Node.mce x.Nodes (View.en x.Truth (n))) (mkdL Row.mke Row.mce x.Acked (View.en x.Truth (n) + sumN Node.mce x.Nodes)))
def Cluster.en (x : Cluster) (n : Nat) : Nat := View.en x.Truth (n) + sumN Node.mce x.Nodes + sumN Row.mce x.Acked
theorem Cluster.en_le {x : Cluster} {n : Nat} (h : x.nn ≤ 1048576) : x.en n ≤ n + 100 * x.nn := by
  have h0 : sumN (fun _ => 1) x.Truth.InStep = 1 * x.Truth.InStep.length := sumN_const
  have h1 := sumN_le (c := Node.mce) (f := Node.nn) (m := 100) Node.mce_le (l := x.Nodes)
  have h2 : sumN Row.mce x.Acked = 2 * x.Acked.length := sumN_const
  simp only [Cluster.en, Cluster.nn, View.en, View.nn] at h ⊢
  omega
theorem eqIntS_ev {a b : List Int} (hl : a.length ≤ 1048576) : Ev (fun k => laws_eqIntS k a b) (decide (a = b)) := by
  unfold laws_eqIntS
  refine eqL_ev (fun hab => eqS_evk hl hab (fun i x y hx hy => ?_) ?_)
  · unfold laws_eqIntS_b1
    have hi : i < a.length := (List.getElem?_eq_some_iff.1 hx).1
    refine Ev.iteT (by simpa using hi) ?_
    refine Ev.bindp (geti_nat hx) ?_
    refine Ev.bindp (geti_nat hy) ?_
    rw [wadd (by omega)]
    by_cases e : x = y
    · rw [if_pos e]
      exact Ev.iteF (by simp [e]) Ev.rfl
    · rw [if_neg e]
      exact Ev.iteT (by simp [e]) Ev.rfl
  · unfold laws_eqIntS_b1
    exact Ev.iteF (by simp) Ev.rfl
theorem eqView_ev {a b : View} (h : a.nn ≤ 1048576) : Ev (fun k => laws_eqView k a b) (decide (a = b)) := by
  have h : (a.InStep.length + 0) ≤ 1048576 := h
  refine eq_done (p := a.Epoch = b.Epoch ∧ a.Leader = b.Leader ∧ a.InStep = b.InStep ∧ True) ?_ (by cases a; cases b; simp)
  unfold laws_eqView
  refine eq_iteI ?_
  refine eq_iteI ?_
  refine eq_bind (eqIntS_ev (by omega)) ?_
  exact eq_end
theorem eqRow_ev {a b : Row} : Ev (fun k => laws_eqRow a b) (decide (a = b)) := by
  refine eq_done (p := a.Epoch = b.Epoch ∧ a.Value = b.Value ∧ True) ?_ (by cases a; cases b; simp)
  unfold laws_eqRow
  refine eq_iteI ?_
  refine eq_iteI ?_
  exact eq_end
theorem eqRowS_ev {a b : List Row} (hl : a.length ≤ 1048576) : Ev (fun k => laws_eqRowS k a b) (decide (a = b)) := by
  unfold laws_eqRowS
  refine eqL_ev (fun hab => eqS_evk hl hab (fun i x y hx hy => ?_) ?_)
  · unfold laws_eqRowS_b1
    have hi : i < a.length := (List.getElem?_eq_some_iff.1 hx).1
    refine Ev.iteT (by simpa using hi) ?_
    refine Ev.bindp (geti_nat hx) ?_
    refine Ev.bindp (geti_nat hy) ?_
    refine Ev.bind (eqRow_ev) ?_
    rw [wadd (by omega)]
    by_cases e : x = y
    · rw [if_pos e]
      exact Ev.iteF (by simp [e]) Ev.rfl
    · rw [if_neg e]
      exact Ev.iteT (by simp [e]) Ev.rfl
  · unfold laws_eqRowS_b1
    exact Ev.iteF (by simp) Ev.rfl
theorem eqNode_ev {a b : Node} (h : a.nn ≤ 1048576) : Ev (fun k => laws_eqNode k a b) (decide (a = b)) := by
  have h : (a.View.nn + (a.Log.length + (a.Known.length + 0))) ≤ 1048576 := h
  refine eq_done (p := a.View = b.View ∧ a.Log = b.Log ∧ a.Known = b.Known ∧ a.Told = b.Told ∧ True) ?_ (by cases a; cases b; simp)
  unfold laws_eqNode
  refine eq_bind (eqView_ev (by omega)) ?_
  refine eq_bind (eqRowS_ev (by omega)) ?_
  refine eq_bind (eqIntS_ev (by omega)) ?_
  refine eq_iteI ?_
  exact eq_end
theorem eqNodeS_ev {a b : List Node} (h : nnL Node.nn a ≤ 1048576) : Ev (fun k => laws_eqNodeS k a b) (decide (a = b)) := by
  have hl : a.length ≤ 1048576 := Nat.le_trans nnL_len h
  unfold laws_eqNodeS
  refine eqL_ev (fun hab => eqS_evk hl hab (fun i x y hx hy => ?_) ?_)
  · unfold laws_eqNodeS_b1
    have hi : i < a.length := (List.getElem?_eq_some_iff.1 hx).1
    refine Ev.iteT (by simpa using hi) ?_
    refine Ev.bindp (geti_nat hx) ?_
    refine Ev.bindp (geti_nat hy) ?_
    refine Ev.bind (eqNode_ev (Nat.le_trans (nnL_get hx) h)) ?_
    rw [wadd (by omega)]
    by_cases e : x = y
    · rw [if_pos e]
      exact Ev.iteF (by simp [e]) Ev.rfl
    · rw [if_neg e]
      exact Ev.iteT (by simp [e]) Ev.rfl
  · unfold laws_eqNodeS_b1
    exact Ev.iteF (by simp) Ev.rfl
theorem eqCluster_ev {a b : Cluster} (h : a.nn ≤ 1048576) : Ev (fun k => laws_eqCluster k a b) (decide (a = b)) := by
  have h : (a.Truth.nn + ((nnL Node.nn a.Nodes) + (a.Acked.length + 0))) ≤ 1048576 := h
  refine eq_done (p := a.Truth = b.Truth ∧ a.Nodes = b.Nodes ∧ a.Acked = b.Acked ∧ True) ?_ (by cases a; cases b; simp)
  unfold laws_eqCluster
  refine eq_bind (eqView_ev (by omega)) ?_
  refine eq_bind (eqNodeS_ev (by omega)) ?_
  refine eq_bind (eqRowS_ev (by omega)) ?_
  exact eq_end
theorem markIntS_ev {l : List Int} {n : Nat} (hl : l.length ≤ 1048576) (hn : n + sumN (fun _ => 1) l < 4611686018427387904) : Ev (fun k => laws_markIntS k l (n : Int)) (((n + sumN (fun _ => 1) l : Nat) : Int), mkdL markI (fun _ => 1) l n) := by
  unfold laws_markIntS
  refine Ev.jn (markS_evk (c := (fun _ => 1)) (M := markI) hl hn (fun n i s x hn hi hx hsx hs => ?_) (fun n s hs => ?_)) (Ev.of rfl)
  · try dsimp only at hn
    unfold laws_markIntS_b1
    try dsimp only
    refine Ev.iteT (by rw [hs]; simpa using hi) ?_
    refine Ev.bindp (geti_nat hsx) ?_
    try simp (disch := omega) only [wadd]
    exact Ev.rfl
  · unfold laws_markIntS_b1
    try dsimp only
    exact Ev.iteF (by rw [hs]; simp) Ev.rfl
theorem markView_ev {x : View} {n : Nat} (h : x.nn ≤ 1048576) (hn : x.en n < 4611686018427387904) : Ev (fun k => laws_markView k x (n : Int)) (((x.en n : Nat) : Int), x.mkd n) := by
  simp only [View.en, View.nn] at h hn
  unfold laws_markView
  refine Ev.bind (markIntS_ev (l := x.InStep) (n := n) (by omega) (by (try simp only [View.en, View.nn]); omega)) ?_
  exact Ev.rfl
theorem markRowS_ev {l : List Row} {n : Nat} (hl : l.length ≤ 1048576) (hn : n + sumN Row.mce l < 4611686018427387904) : Ev (fun k => laws_markRowS k l (n : Int)) (((n + sumN Row.mce l : Nat) : Int), mkdL Row.mke Row.mce l n) := by
  unfold laws_markRowS
  refine Ev.jn (markS_evk (c := Row.mce) (M := Row.mke) hl hn (fun n i s x hn hi hx hsx hs => ?_) (fun n s hs => ?_)) (Ev.of rfl)
  · have hc : Row.mce x = 1 + 1 := rfl
    rw [hc] at hn
    rw [show n + Row.mce x = n + 1 + 1 by omega]
    unfold laws_markRowS_b1
    try dsimp only
    refine Ev.iteT (by rw [hs]; simpa using hi) ?_
    refine Ev.bindp (geti_nat hsx) ?_
    try simp (disch := omega) only [wadd]
    exact Ev.rfl
  · unfold laws_markRowS_b1
    try dsimp only
    exact Ev.iteF (by rw [hs]; simp) Ev.rfl
theorem markNodeS_ev {l : List Node} {n : Nat} (h : nnL Node.nn l ≤ 1048576) (hn : n + sumN Node.mce l < 4611686018427387904) : Ev (fun k => laws_markNodeS k l (n : Int)) (((n + sumN Node.mce l : Nat) : Int), mkdL Node.mke Node.mce l n) := by
  have hl : l.length ≤ 1048576 := Nat.le_trans nnL_len h
  unfold laws_markNodeS
  refine Ev.jn (markS_evk (c := Node.mce) (M := Node.mke) hl hn (fun n i s x hn hi hx hsx hs => ?_) (fun n s hs => ?_)) (Ev.of rfl)
  · have hc : Node.mce x = 1 + 1 + sumN (fun _ => 1) x.View.InStep + sumN Row.mce x.Log + sumN (fun _ => 1) x.Known + 1 := rfl
    rw [hc] at hn
    rw [show n + Node.mce x = n + 1 + 1 + sumN (fun _ => 1) x.View.InStep + sumN Row.mce x.Log + sumN (fun _ => 1) x.Known + 1 by omega]
    have hb : (x.View.nn + (x.Log.length + (x.Known.length + 0))) ≤ 1048576 := Nat.le_trans (nnL_get (f := Node.nn) hx) h
    simp only [View.nn] at hb
    unfold laws_markNodeS_b1
    try dsimp only
    refine Ev.iteT (by rw [hs]; simpa using hi) ?_
    refine Ev.bindp (geti_nat hsx) ?_
    try simp (disch := omega) only [wadd]
    refine Ev.bind (markIntS_ev (l := x.View.InStep) (n := n + 1 + 1) (by omega) (by omega)) ?_
    try dsimp only
    try simp (disch := omega) only [wadd]
    refine Ev.bind (markRowS_ev (l := x.Log) (n := n + 1 + 1 + sumN (fun _ => 1) x.View.InStep) (by omega) (by omega)) ?_
    try dsimp only
    try simp (disch := omega) only [wadd]
    refine Ev.bind (markIntS_ev (l := x.Known) (n := n + 1 + 1 + sumN (fun _ => 1) x.View.InStep + sumN Row.mce x.Log) (by omega) (by omega)) ?_
    try dsimp only
    try simp (disch := omega) only [wadd]
    exact Ev.rfl
  · unfold laws_markNodeS_b1
    try dsimp only
    exact Ev.iteF (by rw [hs]; simp) Ev.rfl
theorem markCluster_ev {x : Cluster} {n : Nat} (h : x.nn ≤ 1048576) (hn : x.en n < 4611686018427387904) : Ev (fun k => laws_markCluster k x (n : Int)) (((x.en n : Nat) : Int), x.mkd n) := by
  simp only [Cluster.en, Cluster.nn, View.en, View.nn] at h hn
  unfold laws_markCluster
  refine Ev.bind (markView_ev (x := x.Truth) (n := n) (by simp only [Cluster.en, Cluster.nn, View.en, View.nn]; omega) (by simp only [Cluster.en, Cluster.nn, View.en, View.nn]; omega)) ?_
  refine Ev.bind (markNodeS_ev (l := x.Nodes) (n := View.en x.Truth (n)) (by omega) (by (try simp only [Cluster.en, Cluster.nn, View.en, View.nn]); omega)) ?_
  refine Ev.bind (markRowS_ev (l := x.Acked) (n := View.en x.Truth (n) + sumN Node.mce x.Nodes) (by omega) (by (try simp only [Cluster.en, Cluster.nn, View.en, View.nn]); omega)) ?_
  exact Ev.rfl
theorem szIntS_ev {l : List Int} {left : Int} (hl : l.length ≤ 4611686018427387904) (h0 : 0 ≤ left) (h1 : left ≤ 1048576) : Ev (fun k => laws_szIntS l left) (szr l.length left) := by
  unfold laws_szIntS
  exact Ev.of (szr_flat hl h0 h1)
theorem szView_ev {x : View} {left : Int} (w : x.wf) (h0 : 0 ≤ left) (h1 : left ≤ 1048576) : Ev (fun k => laws_szView x left) (szr x.nn left) := by
  unfold laws_szView
  refine szr_bind h0 (szIntS_ev (by have := w.2.2.1; omega) h0 (by omega)) (fun v0 b0 c0 => ?_)
  exact Ev.of (by rw [szr0 b0])
theorem szRowS_ev {l : List Row} {left : Int} (hl : l.length ≤ 4611686018427387904) (h0 : 0 ≤ left) (h1 : left ≤ 1048576) : Ev (fun k => laws_szRowS l left) (szr l.length left) := by
  unfold laws_szRowS
  exact Ev.of (szr_flat hl h0 h1)
theorem szNode_ev {x : Node} {left : Int} (w : x.wf) (h0 : 0 ≤ left) (h1 : left ≤ 1048576) : Ev (fun k => laws_szNode x left) (szr x.nn left) := by
  unfold laws_szNode
  refine szr_bind h0 (szView_ev w.1 h0 (by omega)) (fun v0 b0 c0 => ?_)
  refine szr_bind b0 (szRowS_ev (by have := w.2.1.1; omega) b0 (by omega)) (fun v1 b1 c1 => ?_)
  refine szr_bind b1 (szIntS_ev (by have := w.2.2.1.1; omega) b1 (by omega)) (fun v2 b2 c2 => ?_)
  exact Ev.of (by rw [szr0 b2])
theorem szNodeS_ev {l : List Node} {left : Int} (w : wfL 96 Node.wf l) (h0 : 0 ≤ left) (h1 : left ≤ 1048576) : Ev (fun k => laws_szNodeS k l left) (szr (nnL Node.nn l) left) := by
  unfold laws_szNodeS
  refine szr_nn (by have := w.1; omega) h0 h1 (fun hl h2 => ?_)
  rw [i64_id (by omega) (by omega)]
  refine szL_ev hl h2 (by omega) (fun i x s hx hs0 hs1 => ?_) (fun s => ?_)
  · unfold laws_szNodeS_b1
    have hi : i < l.length := (List.getElem?_eq_some_iff.1 hx).1
    refine Ev.iteT (by simpa using hi) ?_
    refine Ev.bindp (geti_nat hx) ?_
    refine Ev.bind (szNode_ev (w.2 _ (List.mem_of_getElem? hx)) hs0 hs1) ?_
    unfold szr
    by_cases hc : (x.nn : Int) ≤ s
    · rw [if_pos hc, if_pos hc]
      refine Ev.iteF (by simp only [decide_eq_false_iff_not]; omega) ?_
      rw [wadd (by omega)]
      exact Ev.rfl
    · rw [if_neg hc, if_neg hc]
      exact Ev.iteT (by decide) Ev.rfl
  · unfold laws_szNodeS_b1
    exact Ev.iteF (by simp) Ev.rfl
theorem szCluster_ev {x : Cluster} {left : Int} (w : x.wf) (h0 : 0 ≤ left) (h1 : left ≤ 1048576) : Ev (fun k => laws_szCluster k x left) (szr x.nn left) := by
  unfold laws_szCluster
  refine szr_bind h0 (szView_ev w.1 h0 (by omega)) (fun v0 b0 c0 => ?_)
  refine szr_bind b0 (szNodeS_ev w.2.1 b0 (by omega)) (fun v1 b1 c1 => ?_)
  refine szr_bind b1 (szRowS_ev (by have := w.2.2.1; omega) b1 (by omega)) (fun v2 b2 c2 => ?_)
  exact Ev.of (by rw [szr0 b2])
theorem toIntS_ev {l : List Int} (hl : l.length ≤ 1048576) : Ev (fun k => laws_toIntS k l) l := by
  unfold laws_toIntS
  refine Ev.bindp (mkN_ok (by omega)) ?_
  refine Ev.jn (s := ((l.length : Int), l)) (toS_evk hl (fun i s x y hx hy => ?_) (fun s => ?_)) (Ev.of rfl)
  · unfold laws_toIntS_b1
    have hi : i < l.length := (List.getElem?_eq_some_iff.1 hx).1
    refine Ev.iteT (by simpa using hi) ?_
    refine Ev.bindp (geti_nat hx) ?_
    refine Ev.bindp (geti_nat hy) ?_
    rw [wadd (by omega)]
    exact Ev.rfl
  · unfold laws_toIntS_b1
    exact Ev.iteF (by simp) Ev.rfl
theorem toView_ev {x : View} (h : x.nn ≤ 1048576) : Ev (fun k => laws_toView k x) x := by
  have h : (x.InStep.length + 0) ≤ 1048576 := h
  unfold laws_toView
  refine Ev.bind (toIntS_ev (by omega)) ?_
  exact Ev.rfl
theorem toRowS_ev {l : List Row} (hl : l.length ≤ 1048576) : Ev (fun k => laws_toRowS k l) l := by
  unfold laws_toRowS
  refine Ev.bindp (mkN_ok (by omega)) ?_
  refine Ev.jn (s := ((l.length : Int), l)) (toS_evk hl (fun i s x y hx hy => ?_) (fun s => ?_)) (Ev.of rfl)
  · unfold laws_toRowS_b1
    have hi : i < l.length := (List.getElem?_eq_some_iff.1 hx).1
    refine Ev.iteT (by simpa using hi) ?_
    refine Ev.bindp (geti_nat hx) ?_
    refine Ev.bindp (geti_nat hy) ?_
    rw [wadd (by omega)]
    exact Ev.rfl
  · unfold laws_toRowS_b1
    exact Ev.iteF (by simp) Ev.rfl
theorem toNode_ev {x : Node} (h : x.nn ≤ 1048576) : Ev (fun k => laws_toNode k x) x := by
  have h : (x.View.nn + (x.Log.length + (x.Known.length + 0))) ≤ 1048576 := h
  unfold laws_toNode
  refine Ev.bind (toView_ev (by omega)) ?_
  refine Ev.bind (toRowS_ev (by omega)) ?_
  refine Ev.bind (toIntS_ev (by omega)) ?_
  exact Ev.rfl
theorem toNodeS_ev {l : List Node} (h : nnL Node.nn l ≤ 1048576) : Ev (fun k => laws_toNodeS k l) l := by
  have hl : l.length ≤ 1048576 := Nat.le_trans nnL_len h
  unfold laws_toNodeS
  refine Ev.bindp (mkN_ok (by omega)) ?_
  refine Ev.jn (s := ((l.length : Int), l)) (toS_evk hl (fun i s x y hx hy => ?_) (fun s => ?_)) (Ev.of rfl)
  · unfold laws_toNodeS_b1
    have hi : i < l.length := (List.getElem?_eq_some_iff.1 hx).1
    refine Ev.iteT (by simpa using hi) ?_
    refine Ev.bindp (geti_nat hx) ?_
    refine Ev.bind (toNode_ev (Nat.le_trans (nnL_get hx) h)) ?_
    refine Ev.bindp (geti_nat hy) ?_
    rw [wadd (by omega)]
    exact Ev.rfl
  · unfold laws_toNodeS_b1
    exact Ev.iteF (by simp) Ev.rfl
theorem toCluster_ev {x : Cluster} (h : x.nn ≤ 1048576) : Ev (fun k => laws_toCluster k x) x := by
  have h : (x.Truth.nn + ((nnL Node.nn x.Nodes) + (x.Acked.length + 0))) ≤ 1048576 := h
  unfold laws_toCluster
  refine Ev.bind (toView_ev (by omega)) ?_
  refine Ev.bind (toNodeS_ev (by omega)) ?_
  refine Ev.bind (toRowS_ev (by omega)) ?_
  exact Ev.rfl
theorem heldIntS_ev {l : List Int} {n : Nat} (hl : l.length ≤ 1048576) (hn : n + sumN (fun _ => 1) l < 4611686018427387904) : Ev (fun k => laws_heldIntS k (mkdL markI (fun _ => 1) l n) (n : Int)) ((n + sumN (fun _ => 1) l : Nat) : Int) := by
  unfold laws_heldIntS
  refine Ev.jn (heldS_evk (l := l) (c := (fun _ => 1)) hl hn (fun i x hx hn => ?_) (fun n => ?_)) (Ev.of rfl)
  · have hg := mkdL_get (M := markI) (c := (fun _ => 1)) (n := n) hx
    have hi : i < l.length := (List.getElem?_eq_some_iff.1 hx).1
    generalize n + sumN (fun _ => 1) (l.take i) = n at hg hn ⊢
    try dsimp only at hn
    unfold laws_heldIntS_b1
    try dsimp only
    refine Ev.iteT (by rw [mkdL_length]; simpa using hi) ?_
    try simp (disch := omega) only [wadd]
    refine Ev.bindp (geti_nat hg) ?_
    refine Ev.iteF (by simp [markI]) ?_
    exact Ev.rfl
  · unfold laws_heldIntS_b1
    try dsimp only
    exact Ev.iteF (by rw [mkdL_length]; simp) Ev.rfl
end Go.Proofs.Ytohofoampalhoaa.X
