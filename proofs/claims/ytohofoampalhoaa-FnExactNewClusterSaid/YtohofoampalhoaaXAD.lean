/- The seat's types and functions, as plain Lean has them. -/
import Derived.Test.YtohofoampalhoaaXSlG
set_option linter.unusedVariables false
set_option linter.unusedSimpArgs false
set_option maxRecDepth 100000
namespace Go.Proofs.Ytohofoampalhoaa.X
open Go
structure BoundsError where
  x : Int
  y : Int
  signed : Bool
  code : Int
  deriving DecidableEq, Inhabited
def BoundsError.cells (x : BoundsError) : List XV := [.int .i64 x.x, .int .i64 x.y, .bool x.signed, .int .u8 x.code]
structure View where
  Epoch : Int
  Leader : Int
  InStep : List Int
  deriving DecidableEq, Inhabited
def View.cells (x : View) : List XV := [.int .i64 x.Epoch, .int .i64 x.Leader, lst cI x.InStep]
structure Row where
  Epoch : Int
  Value : Int
  deriving DecidableEq, Inhabited
def Row.cells (x : Row) : List XV := [.int .i64 x.Epoch, .int .i64 x.Value]
structure Node where
  View : View
  Log : List Row
  Known : List Int
  Told : Int
  deriving DecidableEq, Inhabited
def Node.cells (x : Node) : List XV := [.int .i64 x.View.Epoch, .int .i64 x.View.Leader, lst cI x.View.InStep, lst Row.cells x.Log, lst cI x.Known, .int .i64 x.Told]
structure Cluster where
  Truth : View
  Nodes : List Node
  Acked : List Row
  deriving DecidableEq, Inhabited
def Cluster.cells (x : Cluster) : List XV := [.int .i64 x.Truth.Epoch, .int .i64 x.Truth.Leader, lst cI x.Truth.InStep, lst Node.cells x.Nodes, lst Row.cells x.Acked]
structure ClusterStep where
  Kind : Int
  K : Int
  To : Int
  N : Int
  deriving DecidableEq, Inhabited
def ClusterStep.cells (x : ClusterStep) : List XV := [.int .i64 x.Kind, .int .i64 x.K, .int .i64 x.To, .int .i64 x.N]

/-- spec.l1In -/
def spec_l1In (n_0 : Int) (lo_1 : Int) (hi_2 : Int) : Bool := ((decide (lo_1 ≤ n_0)) && (decide (n_0 ≤ hi_2)))

/-- spec.l17All -/
def spec_l17All_b1 (n_0 : Int) (s7 : List Int) (s12 : Int) : Option (Oc ((List Int) × Int) (List Int)) := (if (decide (s12 < n_0)) = true then ((appN 8 s7 [s12]).bind fun l41 =>
    (some (.nxt (l41, (IntKind.wrap .i64 (s12 + 1)))))) else (some (.brk (s7, s12))))
def spec_l17All_j1 (s53 : List Int) (s58 : Int)  : Option (List Int) := (some s53)
def spec_l17All (k : Nat) (n_0 : Int) : Option (List Int) := (jn (loopF (fun s52 => spec_l17All_b1 n_0 s52.1 s52.2) k (([],
    0) : (List Int) × Int)) (fun s65 => spec_l17All_j1 s65.1 s65.2))

/-- spec.NewCluster -/
def spec_NewCluster_b1 (k : Nat) (nodes_0 : Int) (v8 : List Int) (s32 : Int) (s33 : Cluster) : Option (Oc (Int × Cluster) (Cluster × Bool)) := (if (decide
    (s32 < nodes_0)) = true then ((mkN 8 nodes_0 (0 : Int)).bind fun l61 => ((spec_l17All k nodes_0).bind fun v70 => ((appN 96 s33.Nodes ([(Node.mk
    (View.mk 0 0 v70) [] l61 0)])).bind fun l88 => (some (.nxt ((IntKind.wrap .i64 (s32 + 1)),
    (Cluster.mk (View.mk s33.Truth.Epoch s33.Truth.Leader v8) l88 []))))))) else (some (.brk (s32, (Cluster.mk (View.mk s33.Truth.Epoch s33.Truth.Leader v8) s33.Nodes [])))))
def spec_NewCluster_j1 (v8 : List Int) (s102 : Int) (s103 : Cluster)  : Option (Cluster × Bool) := (some ((Cluster.mk
    (View.mk s103.Truth.Epoch s103.Truth.Leader v8) s103.Nodes []), true))
def spec_NewCluster (k : Nat) (nodes_0 : Int) : Option (Cluster × Bool) := (if (!(spec_l1In nodes_0 2 4)) = true then (some ((Cluster.mk (View.mk 0 0 []) [] []),
    false)) else ((spec_l17All k nodes_0).bind fun v8 => (jn (loopF (fun s101 => spec_NewCluster_b1 k nodes_0 v8 s101.1 s101.2) k (0,
    (Cluster.mk (View.mk 0 0 v8) [] []))) (fun s117 => spec_NewCluster_j1 v8 s117.1 s117.2))))

/-- impl.in -/
def impl_in (n_0 : Int) (low_1 : Int) (high_2 : Int) : Bool := ((decide (low_1 ≤ n_0)) && (decide (n_0 ≤ high_2)))

/-- impl.copyView -/
def impl_copyView (v_0 : View) : Option View := ((appN 8 ([] : List Int) v_0.InStep).bind fun l15 => (some (View.mk v_0.Epoch v_0.Leader l15)))

/-- impl.newCluster -/
def impl_newCluster_b1 (i21 : Nat) (s16 : Cluster) : Option (Oc Cluster Cluster) := ((appN 8 s16.Truth.InStep [(i21 : Int)]).bind fun l50 => (some (.nxt (Cluster.mk
    (View.mk s16.Truth.Epoch s16.Truth.Leader l50) [] []))))
def impl_newCluster_b2 (nodes_0 : Int) (s63 : Cluster) (i84 : Nat) (s79 : Cluster) : Option (Oc Cluster Cluster) := ((mkN 8 nodes_0 (0 : Int)).bind fun l107 => ((impl_copyView
    (View.mk s79.Truth.Epoch s79.Truth.Leader s63.Truth.InStep)).bind fun v116 => ((appN 96 s79.Nodes ([(Node.mk v116 [] l107 0)])).bind fun l134 => (some (.nxt (Cluster.mk
    (View.mk s79.Truth.Epoch s79.Truth.Leader s63.Truth.InStep) l134 []))))))
def impl_newCluster_j1 (s63 : Cluster) (s147 : Cluster)  : Option Cluster := (some (Cluster.mk (View.mk s147.Truth.Epoch s147.Truth.Leader s63.Truth.InStep) s147.Nodes []))
def impl_newCluster_j2 (nodes_0 : Int) (s63 : Cluster)  : Option Cluster := (jn (rangeI (fun i84 s146 => impl_newCluster_b2 nodes_0 s63 i84 s146) nodes_0
    (Cluster.mk s63.Truth [] [])) (fun s160 => impl_newCluster_j1 s63 s160))
def impl_newCluster (nodes_0 : Int) : Option Cluster := (jn (rangeI (fun i21 s62 => impl_newCluster_b1 i21 s62) nodes_0 (Cluster.mk (View.mk 0 0 []) [] []))
    (fun s161 => impl_newCluster_j2 nodes_0 s161))

/-- impl.NewCluster -/
def impl_NewCluster (nodes_0 : Int) : Option (Cluster × Bool) := (if (!(impl_in nodes_0 2 4)) = true then (some ((Cluster.mk (View.mk 0 0 []) [] []),
    false)) else ((impl_newCluster nodes_0).bind fun v8 => (some (v8, true))))

/-- laws.eqIntS -/
def laws_eqIntS_b1 (a_0 : List Int) (b_1 : List Int) (s3 : Int) : Option (Oc Int Bool) := (if (decide (s3 < (List.length a_0 : Int))) = true then ((geti a_0 s3).bind fun x26 =>
    ((geti b_1 s3).bind fun x29 => (if (decide (x26 ≠ x29)) = true then (some (.ret false)) else (some (.nxt (IntKind.wrap .i64 (s3 + 1))))))) else (some (.brk s3)))
def laws_eqIntS_j1 (s39 : Int)  : Option Bool := (some true)
def laws_eqIntS (k : Nat) (a_0 : List Int) (b_1 : List Int) : Option Bool := (if (decide ((List.length a_0 : Int) ≠ (List.length b_1 : Int))) = true then (some false) else (jn
    (loopF (fun s38 => laws_eqIntS_b1 a_0 b_1 s38) k 0) (fun s46 => laws_eqIntS_j1 s46)))

/-- laws.eqView -/
def laws_eqView (k : Nat) (a_0 : View) (b_1 : View) : Option Bool := (if (decide (a_0.Epoch ≠ b_1.Epoch)) = true then (some false) else (if (decide
    (a_0.Leader ≠ b_1.Leader)) = true then (some false) else ((laws_eqIntS k a_0.InStep b_1.InStep).bind fun v15 => (if (!v15) = true then (some false) else (some true)))))

/-- laws.eqRow -/
def laws_eqRow (a_0 : Row) (b_1 : Row) : Option Bool := (if (decide (a_0.Epoch ≠ b_1.Epoch)) = true then (some false) else (if (decide (a_0.Value ≠ b_1.Value)) = true then
    (some false) else (some true)))

/-- laws.eqRowS -/
def laws_eqRowS_b1 (a_0 : List Row) (b_1 : List Row) (s3 : Int) : Option (Oc Int Bool) := (if (decide (s3 < (List.length a_0 : Int))) = true then ((geti a_0 s3).bind fun x26 =>
    ((geti b_1 s3).bind fun x29 => ((laws_eqRow x26 x29).bind fun v32 => (if (!v32) = true then (some (.ret false)) else (some (.nxt (IntKind.wrap .i64 (s3 + 1)))))))) else (some
    (.brk s3)))
def laws_eqRowS_j1 (s42 : Int)  : Option Bool := (some true)
def laws_eqRowS (k : Nat) (a_0 : List Row) (b_1 : List Row) : Option Bool := (if (decide ((List.length a_0 : Int) ≠ (List.length b_1 : Int))) = true then (some false) else (jn
    (loopF (fun s41 => laws_eqRowS_b1 a_0 b_1 s41) k 0) (fun s49 => laws_eqRowS_j1 s49)))

/-- laws.eqNode -/
def laws_eqNode (k : Nat) (a_0 : Node) (b_1 : Node) : Option Bool := ((laws_eqView k a_0.View b_1.View).bind fun v13 => (if (!v13) = true then (some false) else
    ((laws_eqRowS k a_0.Log b_1.Log).bind fun v17 => (if (!v17) = true then (some false) else ((laws_eqIntS k a_0.Known b_1.Known).bind fun v21 => (if (!v21) = true then
    (some false) else (if (decide (a_0.Told ≠ b_1.Told)) = true then (some false) else (some true))))))))

/-- laws.eqNodeS -/
def laws_eqNodeS_b1 (k : Nat) (a_0 : List Node) (b_1 : List Node) (s3 : Int) : Option (Oc Int Bool) := (if (decide (s3 < (List.length a_0 : Int))) = true then
    ((geti a_0 s3).bind fun x26 => ((geti b_1 s3).bind fun x29 => ((laws_eqNode k x26 x29).bind fun v32 => (if (!v32) = true then (some (.ret false)) else (some (.nxt
    (IntKind.wrap .i64 (s3 + 1)))))))) else (some (.brk s3)))
def laws_eqNodeS_j1 (s42 : Int)  : Option Bool := (some true)
def laws_eqNodeS (k : Nat) (a_0 : List Node) (b_1 : List Node) : Option Bool := (if (decide ((List.length a_0 : Int) ≠ (List.length b_1 : Int))) = true then (some false) else (jn
    (loopF (fun s41 => laws_eqNodeS_b1 k a_0 b_1 s41) k 0) (fun s49 => laws_eqNodeS_j1 s49)))

/-- laws.eqCluster -/
def laws_eqCluster (k : Nat) (a_0 : Cluster) (b_1 : Cluster) : Option Bool := ((laws_eqView k a_0.Truth b_1.Truth).bind fun v13 => (if (!v13) = true then (some false) else
    ((laws_eqNodeS k a_0.Nodes b_1.Nodes).bind fun v17 => (if (!v17) = true then (some false) else ((laws_eqRowS k a_0.Acked b_1.Acked).bind fun v21 => (if (!v21) = true then
    (some false) else (some true)))))))

/-- laws.markIntS -/
def laws_markIntS_b1 (s6 : Int) (s7 : Int) (s8 : List Int) : Option (Oc (Int × Int × (List Int)) (Int × (List Int))) := (if (decide (s7 < (List.length s8 : Int))) = true then
    ((geti s8 s7).bind fun x33 => (some (.nxt ((IntKind.wrap .i64 (s6 + 1)), (IntKind.wrap .i64 (s7 + 1)), (List.set s8 s7.toNat s6))))) else (some (.brk (s6, s7, s8))))
def laws_markIntS_j1 (s46 : Int) (s47 : Int) (s48 : List Int)  : Option (Int × (List Int)) := (some (s46, s48))
def laws_markIntS (k : Nat) (a_0 : List Int) (k_1 : Int) : Option (Int × (List Int)) := (jn (loopF (fun s45 => laws_markIntS_b1 s45.1 s45.2.1 s45.2.2) k (k_1, 0,
    a_0)) (fun s57 => laws_markIntS_j1 s57.1 s57.2.1 s57.2.2))

/-- laws.markView -/
def laws_markView (k : Nat) (a_0 : View) (k_1 : Int) : Option (Int × View) := ((laws_markIntS k a_0.InStep k_1).bind fun v7 => (some (v7.1, (View.mk a_0.Epoch a_0.Leader v7.2))))

/-- laws.markRowS -/
def laws_markRowS_b1 (s6 : Int) (s7 : Int) (s8 : List Row) : Option (Oc (Int × Int × (List Row)) (Int × (List Row))) := (if (decide (s7 < (List.length s8 : Int))) = true then
    ((geti s8 s7).bind fun x33 => (some (.nxt ((IntKind.wrap .i64 ((IntKind.wrap .i64 (s6 + 1)) + 1)), (IntKind.wrap .i64 (s7 + 1)),
    (List.set s8 s7.toNat (Row.mk s6 (IntKind.wrap .i64 (s6 + 1)))))))) else (some (.brk (s6, s7, s8))))
def laws_markRowS_j1 (s51 : Int) (s52 : Int) (s53 : List Row)  : Option (Int × (List Row)) := (some (s51, s53))
def laws_markRowS (k : Nat) (a_0 : List Row) (k_1 : Int) : Option (Int × (List Row)) := (jn (loopF (fun s50 => laws_markRowS_b1 s50.1 s50.2.1 s50.2.2) k (k_1, 0,
    a_0)) (fun s62 => laws_markRowS_j1 s62.1 s62.2.1 s62.2.2))

/-- laws.markNodeS -/
def laws_markNodeS_b1 (k : Nat) (s6 : Int) (s7 : Int) (s8 : List Node) : Option (Oc (Int × Int × (List Node)) (Int × (List Node))) := (if (decide (s7 <
    (List.length s8 : Int))) = true then ((geti s8 s7).bind fun x33 => ((laws_markIntS k x33.View.InStep (IntKind.wrap .i64 ((IntKind.wrap .i64 (s6 + 1)) + 1))).bind fun v65 =>
    ((laws_markRowS k x33.Log v65.1).bind fun v72 => ((laws_markIntS k x33.Known v72.1).bind fun v79 => (some (.nxt ((IntKind.wrap .i64 (v79.1 + 1)), (IntKind.wrap .i64 (s7 + 1)),
    (List.set s8 s7.toNat (Node.mk (View.mk s6 (IntKind.wrap .i64 (s6 + 1)) v65.2) v72.2 v79.2 v79.1))))))))) else (some (.brk (s6, s7, s8))))
def laws_markNodeS_j1 (s98 : Int) (s99 : Int) (s100 : List Node)  : Option (Int × (List Node)) := (some (s98, s100))
def laws_markNodeS (k : Nat) (a_0 : List Node) (k_1 : Int) : Option (Int × (List Node)) := (jn (loopF (fun s97 => laws_markNodeS_b1 k s97.1 s97.2.1 s97.2.2) k (k_1, 0,
    a_0)) (fun s109 => laws_markNodeS_j1 s109.1 s109.2.1 s109.2.2))

/-- laws.markCluster -/
def laws_markCluster (k : Nat) (a_0 : Cluster) (k_1 : Int) : Option (Int × Cluster) := ((laws_markView k a_0.Truth k_1).bind fun v7 =>
    ((laws_markNodeS k a_0.Nodes v7.1).bind fun v14 => ((laws_markRowS k a_0.Acked v14.1).bind fun v21 => (some (v21.1,
    (Cluster.mk (View.mk a_0.Truth.Epoch a_0.Truth.Leader v7.2.InStep) v14.2 v21.2))))))

/-- laws.heldIntS -/
def laws_heldIntS_b1 (a_0 : List Int) (s3 : Int) (s4 : Int) : Option (Oc (Int × Int) Int) := (if (decide (s4 < (List.length a_0 : Int))) = true then
    ((geti a_0 s4).bind fun x27 => (if (decide (x27 ≠ s3)) = true then (some (.ret (-1))) else (some (.nxt ((IntKind.wrap .i64 (s3 + 1)),
    (IntKind.wrap .i64 (s4 + 1))))))) else (some (.brk (s3, s4))))
def laws_heldIntS_j1 (s37 : Int) (s38 : Int)  : Option Int := (some s37)
def laws_heldIntS (k : Nat) (a_0 : List Int) (k_1 : Int) : Option Int := (jn (loopF (fun s36 => laws_heldIntS_b1 a_0 s36.1 s36.2) k (k_1,
    0)) (fun s45 => laws_heldIntS_j1 s45.1 s45.2))

/-- laws.heldView -/
def laws_heldView (k : Nat) (a_0 : View) (k_1 : Int) : Option Int := ((laws_heldIntS k a_0.InStep k_1).bind fun v7 => (if (decide (v7 < 0)) = true then (some (-1)) else (some v7)))

/-- laws.heldRowS -/
def laws_heldRowS_b1 (a_0 : List Row) (s3 : Int) (s4 : Int) : Option (Oc (Int × Int) Int) := (if (decide (s4 < (List.length a_0 : Int))) = true then
    ((geti a_0 s4).bind fun x27 => (if (decide (x27.Epoch ≠ s3)) = true then (some (.ret (-1))) else ((geti a_0 s4).bind fun x34 => (if (decide (x34.Value ≠ (IntKind.wrap .i64
    (s3 + 1)))) = true then (some (.ret (-1))) else (some (.nxt ((IntKind.wrap .i64 ((IntKind.wrap .i64 (s3 + 1)) + 1)), (IntKind.wrap .i64 (s4 + 1))))))))) else (some (.brk (s3,
    s4))))
def laws_heldRowS_j1 (s44 : Int) (s45 : Int)  : Option Int := (some s44)
def laws_heldRowS (k : Nat) (a_0 : List Row) (k_1 : Int) : Option Int := (jn (loopF (fun s43 => laws_heldRowS_b1 a_0 s43.1 s43.2) k (k_1,
    0)) (fun s52 => laws_heldRowS_j1 s52.1 s52.2))

/-- laws.heldNodeS -/
def laws_heldNodeS_b1 (k : Nat) (v_0 : List Node) (s3 : Int) (s4 : Int) : Option (Oc (Int × Int) Int) := (if (decide (s4 < (List.length v_0 : Int))) = true then
    ((geti v_0 s4).bind fun x27 => (if (decide (x27.View.Epoch ≠ s3)) = true then (some (.ret (-1))) else ((geti v_0 s4).bind fun x34 => (if (decide (x34.View.Leader ≠
    (IntKind.wrap .i64 (s3 + 1)))) = true then (some (.ret (-1))) else ((geti v_0 s4).bind fun x41 => ((laws_heldIntS k x41.View.InStep (IntKind.wrap .i64 ((IntKind.wrap .i64
    (s3 + 1)) + 1))).bind fun v44 => (if (decide (v44 < 0)) = true then (some (.ret (-1))) else ((geti v_0 s4).bind fun x51 => ((laws_heldRowS k x51.Log v44).bind fun v54 => (if
    (decide (v54 < 0)) = true then (some (.ret (-1))) else ((geti v_0 s4).bind fun x61 => ((laws_heldIntS k x61.Known v54).bind fun v64 => (if (decide (v64 < 0)) = true then
    (some (.ret (-1))) else ((geti v_0 s4).bind fun x71 => (if (decide (x71.Told ≠ v64)) = true then (some (.ret (-1))) else (some (.nxt ((IntKind.wrap .i64 (v64 + 1)),
    (IntKind.wrap .i64 (s4 + 1)))))))))))))))))))) else (some (.brk (s3, s4))))
def laws_heldNodeS_j1 (s81 : Int) (s82 : Int)  : Option Int := (some s81)
def laws_heldNodeS (k : Nat) (v_0 : List Node) (v_1 : Int) : Option Int := (jn (loopF (fun s80 => laws_heldNodeS_b1 k v_0 s80.1 s80.2) k (v_1,
    0)) (fun s89 => laws_heldNodeS_j1 s89.1 s89.2))

/-- laws.heldCluster -/
def laws_heldCluster (k : Nat) (a_0 : Cluster) (k_1 : Int) : Option Int := ((laws_heldView k a_0.Truth k_1).bind fun v7 => (if (decide (v7 < 0)) = true then (some (-1)) else
    ((laws_heldNodeS k a_0.Nodes v7).bind fun v11 => (if (decide (v11 < 0)) = true then (some (-1)) else ((laws_heldRowS k a_0.Acked v11).bind fun v15 => (if (decide
    (v15 < 0)) = true then (some (-1)) else (some v15)))))))

/-- laws.FnExactNewCluster -/
def laws_FnExactNewCluster (k : Nat) (aNodes_0 : Int) : Option Bool := ((spec_NewCluster k aNodes_0).bind fun v1 => ((impl_NewCluster aNodes_0).bind fun v29 =>
    ((laws_eqCluster k v29.1 v1.1).bind fun v57 => (if ((!v57) || (!(v29.2 == v1.2))) = true then (some false) else ((laws_markCluster k v29.1 1).bind fun v72 =>
    ((laws_heldCluster k (Cluster.mk (View.mk v29.1.Truth.Epoch v29.1.Truth.Leader v72.2.Truth.InStep) v72.2.Nodes v72.2.Acked) 1).bind fun v83 => (if (decide
    (v83 < 0)) = true then (some false) else (if (decide (v83 ≠ v72.1)) = true then (some false) else ((impl_NewCluster aNodes_0).bind fun v88 =>
    ((laws_eqCluster k v88.1 v1.1).bind fun v116 => (if ((!v116) || (!(v88.2 == v1.2))) = true then (some false) else ((laws_heldCluster k (Cluster.mk
    (View.mk v29.1.Truth.Epoch v29.1.Truth.Leader v72.2.Truth.InStep) v72.2.Nodes v72.2.Acked) 1).bind fun v129 => (if (decide (v129 < 0)) = true then (some false) else (if
    (decide (v129 ≠ v72.1)) = true then (some false) else (some true)))))))))))))))
end Go.Proofs.Ytohofoampalhoaa.X
