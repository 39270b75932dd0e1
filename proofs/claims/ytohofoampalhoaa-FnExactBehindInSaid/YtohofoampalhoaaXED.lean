/- The seat's types and functions, as plain Lean has them. -/
import Derived.Test.YtohofoampalhoaaXSlG
set_option linter.unusedVariables false
set_option linter.unusedSimpArgs false
set_option maxRecDepth 100000
namespace Go.Proofs.Ytohofoampalhoaa.X
open Go
structure BoundsError where
  x : Int
  y : Int
  signed : Bool
  code : Int
  deriving DecidableEq, Inhabited
def BoundsError.cells (x : BoundsError) : List XV := [.int .i64 x.x, .int .i64 x.y, .bool x.signed, .int .u8 x.code]
structure View where
  Epoch : Int
  Leader : Int
  InStep : List Int
  deriving DecidableEq, Inhabited
def View.cells (x : View) : List XV := [.int .i64 x.Epoch, .int .i64 x.Leader, lst cI x.InStep]
structure Row where
  Epoch : Int
  Value : Int
  deriving DecidableEq, Inhabited
def Row.cells (x : Row) : List XV := [.int .i64 x.Epoch, .int .i64 x.Value]
structure Node where
  View : View
  Log : List Row
  Known : List Int
  Told : Int
  deriving DecidableEq, Inhabited
def Node.cells (x : Node) : List XV := [.int .i64 x.View.Epoch, .int .i64 x.View.Leader, lst cI x.View.InStep, lst Row.cells x.Log, lst cI x.Known, .int .i64 x.Told]
structure Cluster where
  Truth : View
  Nodes : List Node
  Acked : List Row
  deriving DecidableEq, Inhabited
def Cluster.cells (x : Cluster) : List XV := [.int .i64 x.Truth.Epoch, .int .i64 x.Truth.Leader, lst cI x.Truth.InStep, lst Node.cells x.Nodes, lst Row.cells x.Acked]
structure ClusterStep where
  Kind : Int
  K : Int
  To : Int
  N : Int
  deriving DecidableEq, Inhabited
def ClusterStep.cells (x : ClusterStep) : List XV := [.int .i64 x.Kind, .int .i64 x.K, .int .i64 x.To, .int .i64 x.N]

/-- laws.eqIntS -/
def laws_eqIntS_b1 (a_0 : List Int) (b_1 : List Int) (s3 : Int) : Option (Oc Int Bool) := (if (decide (s3 < (List.length a_0 : Int))) = true then ((geti a_0 s3).bind fun x26 =>
    ((geti b_1 s3).bind fun x29 => (if (decide (x26 ≠ x29)) = true then (some (.ret false)) else (some (.nxt (IntKind.wrap .i64 (s3 + 1))))))) else (some (.brk s3)))
def laws_eqIntS_j1 (s39 : Int)  : Option Bool := (some true)
def laws_eqIntS (k : Nat) (a_0 : List Int) (b_1 : List Int) : Option Bool := (if (decide ((List.length a_0 : Int) ≠ (List.length b_1 : Int))) = true then (some false) else (jn
    (loopF (fun s38 => laws_eqIntS_b1 a_0 b_1 s38) k 0) (fun s46 => laws_eqIntS_j1 s46)))

/-- laws.eqView -/
def laws_eqView (k : Nat) (a_0 : View) (b_1 : View) : Option Bool := (if (decide (a_0.Epoch ≠ b_1.Epoch)) = true then (some false) else (if (decide
    (a_0.Leader ≠ b_1.Leader)) = true then (some false) else ((laws_eqIntS k a_0.InStep b_1.InStep).bind fun v15 => (if (!v15) = true then (some false) else (some true)))))

/-- laws.eqRow -/
def laws_eqRow (a_0 : Row) (b_1 : Row) : Option Bool := (if (decide (a_0.Epoch ≠ b_1.Epoch)) = true then (some false) else (if (decide (a_0.Value ≠ b_1.Value)) = true then
    (some false) else (some true)))

/-- laws.eqRowS -/
def laws_eqRowS_b1 (a_0 : List Row) (b_1 : List Row) (s3 : Int) : Option (Oc Int Bool) := (if (decide (s3 < (List.length a_0 : Int))) = true then ((geti a_0 s3).bind fun x26 =>
    ((geti b_1 s3).bind fun x29 => ((laws_eqRow x26 x29).bind fun v32 => (if (!v32) = true then (some (.ret false)) else (some (.nxt (IntKind.wrap .i64 (s3 + 1)))))))) else (some
    (.brk s3)))
def laws_eqRowS_j1 (s42 : Int)  : Option Bool := (some true)
def laws_eqRowS (k : Nat) (a_0 : List Row) (b_1 : List Row) : Option Bool := (if (decide ((List.length a_0 : Int) ≠ (List.length b_1 : Int))) = true then (some false) else (jn
    (loopF (fun s41 => laws_eqRowS_b1 a_0 b_1 s41) k 0) (fun s49 => laws_eqRowS_j1 s49)))

/-- laws.eqNode -/
def laws_eqNode (k : Nat) (a_0 : Node) (b_1 : Node) : Option Bool := ((laws_eqView k a_0.View b_1.View).bind fun v13 => (if (!v13) = true then (some false) else
    ((laws_eqRowS k a_0.Log b_1.Log).bind fun v17 => (if (!v17) = true then (some false) else ((laws_eqIntS k a_0.Known b_1.Known).bind fun v21 => (if (!v21) = true then
    (some false) else (if (decide (a_0.Told ≠ b_1.Told)) = true then (some false) else (some true))))))))

/-- laws.eqNodeS -/
def laws_eqNodeS_b1 (k : Nat) (a_0 : List Node) (b_1 : List Node) (s3 : Int) : Option (Oc Int Bool) := (if (decide (s3 < (List.length a_0 : Int))) = true then
    ((geti a_0 s3).bind fun x26 => ((geti b_1 s3).bind fun x29 => ((laws_eqNode k x26 x29).bind fun v32 => (if (!v32) = true then (some (.ret false)) else (some (.nxt
    (IntKind.wrap .i64 (s3 + 1)))))))) else (some (.brk s3)))
def laws_eqNodeS_j1 (s42 : Int)  : Option Bool := (some true)
def laws_eqNodeS (k : Nat) (a_0 : List Node) (b_1 : List Node) : Option Bool := (if (decide ((List.length a_0 : Int) ≠ (List.length b_1 : Int))) = true then (some false) else (jn
    (loopF (fun s41 => laws_eqNodeS_b1 k a_0 b_1 s41) k 0) (fun s49 => laws_eqNodeS_j1 s49)))

/-- laws.eqCluster -/
def laws_eqCluster (k : Nat) (a_0 : Cluster) (b_1 : Cluster) : Option Bool := ((laws_eqView k a_0.Truth b_1.Truth).bind fun v13 => (if (!v13) = true then (some false) else
    ((laws_eqNodeS k a_0.Nodes b_1.Nodes).bind fun v17 => (if (!v17) = true then (some false) else ((laws_eqRowS k a_0.Acked b_1.Acked).bind fun v21 => (if (!v21) = true then
    (some false) else (some true)))))))

/-- laws.markIntS -/
def laws_markIntS_b1 (s6 : Int) (s7 : Int) (s8 : List Int) : Option (Oc (Int × Int × (List Int)) (Int × (List Int))) := (if (decide (s7 < (List.length s8 : Int))) = true then
    ((geti s8 s7).bind fun x33 => (some (.nxt ((IntKind.wrap .i64 (s6 + 1)), (IntKind.wrap .i64 (s7 + 1)), (List.set s8 s7.toNat s6))))) else (some (.brk (s6, s7, s8))))
def laws_markIntS_j1 (s46 : Int) (s47 : Int) (s48 : List Int)  : Option (Int × (List Int)) := (some (s46, s48))
def laws_markIntS (k : Nat) (a_0 : List Int) (k_1 : Int) : Option (Int × (List Int)) := (jn (loopF (fun s45 => laws_markIntS_b1 s45.1 s45.2.1 s45.2.2) k (k_1, 0,
    a_0)) (fun s57 => laws_markIntS_j1 s57.1 s57.2.1 s57.2.2))

/-- laws.markView -/
def laws_markView (k : Nat) (a_0 : View) (k_1 : Int) : Option (Int × View) := ((laws_markIntS k a_0.InStep k_1).bind fun v7 => (some (v7.1, (View.mk a_0.Epoch a_0.Leader v7.2))))

/-- laws.markRowS -/
def laws_markRowS_b1 (s6 : Int) (s7 : Int) (s8 : List Row) : Option (Oc (Int × Int × (List Row)) (Int × (List Row))) := (if (decide (s7 < (List.length s8 : Int))) = true then
    ((geti s8 s7).bind fun x33 => (some (.nxt ((IntKind.wrap .i64 ((IntKind.wrap .i64 (s6 + 1)) + 1)), (IntKind.wrap .i64 (s7 + 1)),
    (List.set s8 s7.toNat (Row.mk s6 (IntKind.wrap .i64 (s6 + 1)))))))) else (some (.brk (s6, s7, s8))))
def laws_markRowS_j1 (s51 : Int) (s52 : Int) (s53 : List Row)  : Option (Int × (List Row)) := (some (s51, s53))
def laws_markRowS (k : Nat) (a_0 : List Row) (k_1 : Int) : Option (Int × (List Row)) := (jn (loopF (fun s50 => laws_markRowS_b1 s50.1 s50.2.1 s50.2.2) k (k_1, 0,
    a_0)) (fun s62 => laws_markRowS_j1 s62.1 s62.2.1 s62.2.2))

/-- laws.markNodeS -/
def laws_markNodeS_b1 (k : Nat) (s6 : Int) (s7 : Int) (s8 : List Node) : Option (Oc (Int × Int × (List Node)) (Int × (List Node))) := (if (decide (s7 <
    (List.length s8 : Int))) = true then ((geti s8 s7).bind fun x33 => ((laws_markIntS k x33.View.InStep (IntKind.wrap .i64 ((IntKind.wrap .i64 (s6 + 1)) + 1))).bind fun v65 =>
    ((laws_markRowS k x33.Log v65.1).bind fun v72 => ((laws_markIntS k x33.Known v72.1).bind fun v79 => (some (.nxt ((IntKind.wrap .i64 (v79.1 + 1)), (IntKind.wrap .i64 (s7 + 1)),
    (List.set s8 s7.toNat (Node.mk (View.mk s6 (IntKind.wrap .i64 (s6 + 1)) v65.2) v72.2 v79.2 v79.1))))))))) else (some (.brk (s6, s7, s8))))
def laws_markNodeS_j1 (s98 : Int) (s99 : Int) (s100 : List Node)  : Option (Int × (List Node)) := (some (s98, s100))
def laws_markNodeS (k : Nat) (a_0 : List Node) (k_1 : Int) : Option (Int × (List Node)) := (jn (loopF (fun s97 => laws_markNodeS_b1 k s97.1 s97.2.1 s97.2.2) k (k_1, 0,
    a_0)) (fun s109 => laws_markNodeS_j1 s109.1 s109.2.1 s109.2.2))

/-- laws.markCluster -/
def laws_markCluster (k : Nat) (a_0 : Cluster) (k_1 : Int) : Option (Int × Cluster) := ((laws_markView k a_0.Truth k_1).bind fun v7 =>
    ((laws_markNodeS k a_0.Nodes v7.1).bind fun v14 => ((laws_markRowS k a_0.Acked v14.1).bind fun v21 => (some (v21.1,
    (Cluster.mk (View.mk a_0.Truth.Epoch a_0.Truth.Leader v7.2.InStep) v14.2 v21.2))))))

/-- laws.szIntS -/
def laws_szIntS (a_0 : List Int) (left_1 : Int) : Option Int := (if (decide ((IntKind.wrap .i64 (left_1 - (List.length a_0 : Int))) < 0)) = true then (some (-1)) else (some
    (IntKind.wrap .i64 (left_1 - (List.length a_0 : Int)))))

/-- laws.szView -/
def laws_szView (a_0 : View) (left_1 : Int) : Option Int := ((laws_szIntS a_0.InStep left_1).bind fun v7 => (if (decide (v7 < 0)) = true then (some (-1)) else (some v7)))

/-- laws.szRowS -/
def laws_szRowS (a_0 : List Row) (left_1 : Int) : Option Int := (if (decide ((IntKind.wrap .i64 (left_1 - (List.length a_0 : Int))) < 0)) = true then (some (-1)) else (some
    (IntKind.wrap .i64 (left_1 - (List.length a_0 : Int)))))

/-- laws.szNode -/
def laws_szNode (a_0 : Node) (left_1 : Int) : Option Int := ((laws_szView a_0.View left_1).bind fun v7 => (if (decide (v7 < 0)) = true then (some (-1)) else
    ((laws_szRowS a_0.Log v7).bind fun v11 => (if (decide (v11 < 0)) = true then (some (-1)) else ((laws_szIntS a_0.Known v11).bind fun v15 => (if (decide (v15 < 0)) = true then
    (some (-1)) else (some v15)))))))

/-- laws.szNodeS -/
def laws_szNodeS_b1 (a_0 : List Node) (s4 : Int) (s5 : Int) : Option (Oc (Int × Int) Int) := (if (decide (s5 < (List.length a_0 : Int))) = true then
    ((geti a_0 s5).bind fun x28 => ((laws_szNode x28 s4).bind fun v31 => (if (decide (v31 < 0)) = true then (some (.ret (-1))) else (some (.nxt (v31,
    (IntKind.wrap .i64 (s5 + 1)))))))) else (some (.brk (s4, s5))))
def laws_szNodeS_j1 (s41 : Int) (s42 : Int)  : Option Int := (some s41)
def laws_szNodeS (k : Nat) (a_0 : List Node) (left_1 : Int) : Option Int := (if (decide ((IntKind.wrap .i64 (left_1 - (List.length a_0 : Int))) < 0)) = true then (some (-1)) else
    (jn (loopF (fun s40 => laws_szNodeS_b1 a_0 s40.1 s40.2) k ((IntKind.wrap .i64 (left_1 - (List.length a_0 : Int))), 0)) (fun s49 => laws_szNodeS_j1 s49.1 s49.2)))

/-- laws.szCluster -/
def laws_szCluster (k : Nat) (a_0 : Cluster) (left_1 : Int) : Option Int := ((laws_szView a_0.Truth left_1).bind fun v7 => (if (decide (v7 < 0)) = true then (some (-1)) else
    ((laws_szNodeS k a_0.Nodes v7).bind fun v11 => (if (decide (v11 < 0)) = true then (some (-1)) else ((laws_szRowS a_0.Acked v11).bind fun v15 => (if (decide
    (v15 < 0)) = true then (some (-1)) else (some v15)))))))

/-- laws.toIntS -/
def laws_toIntS_b1 (a_0 : List Int) (s14 : Int) (s15 : List Int) : Option (Oc (Int × (List Int)) (List Int)) := (if (decide (s14 < (List.length a_0 : Int))) = true then
    ((geti a_0 s14).bind fun x40 => ((geti s15 s14).bind fun x43 => (some (.nxt ((IntKind.wrap .i64 (s14 + 1)), (List.set s15 s14.toNat x40)))))) else (some (.brk (s14, s15))))
def laws_toIntS_j1 (s56 : Int) (s57 : List Int)  : Option (List Int) := (some s57)
def laws_toIntS (k : Nat) (a_0 : List Int) : Option (List Int) := ((mkN 8 (List.length a_0 : Int) (0 : Int)).bind fun l1 => (jn (loopF
    (fun s55 => laws_toIntS_b1 a_0 s55.1 s55.2) k (0, l1)) (fun s66 => laws_toIntS_j1 s66.1 s66.2)))

/-- laws.toView -/
def laws_toView (k : Nat) (a_0 : View) : Option View := ((laws_toIntS k a_0.InStep).bind fun v19 => (some (View.mk a_0.Epoch a_0.Leader v19)))

/-- laws.toRow -/
def laws_toRow (a_0 : Row) : Row := a_0

/-- laws.toRowS -/
def laws_toRowS_b1 (a_0 : List Row) (s14 : Int) (s15 : List Row) : Option (Oc (Int × (List Row)) (List Row)) := (if (decide (s14 < (List.length a_0 : Int))) = true then
    ((geti a_0 s14).bind fun x40 => ((geti s15 s14).bind fun x43 => (some (.nxt ((IntKind.wrap .i64 (s14 + 1)),
    (List.set s15 s14.toNat (laws_toRow x40))))))) else (some (.brk (s14, s15))))
def laws_toRowS_j1 (s56 : Int) (s57 : List Row)  : Option (List Row) := (some s57)
def laws_toRowS (k : Nat) (a_0 : List Row) : Option (List Row) := ((mkN 16 (List.length a_0 : Int) (Row.mk (0 : Int) (0 : Int))).bind fun l1 => (jn (loopF
    (fun s55 => laws_toRowS_b1 a_0 s55.1 s55.2) k (0, l1)) (fun s66 => laws_toRowS_j1 s66.1 s66.2)))

/-- laws.toNode -/
def laws_toNode (k : Nat) (a_0 : Node) : Option Node := ((laws_toView k a_0.View).bind fun v15 => ((laws_toRowS k a_0.Log).bind fun v29 =>
    ((laws_toIntS k a_0.Known).bind fun v43 => (some (Node.mk v15 v29 v43 a_0.Told)))))

/-- laws.toNodeS -/
def laws_toNodeS_b1 (k : Nat) (a_0 : List Node) (s14 : Int) (s15 : List Node) : Option (Oc (Int × (List Node)) (List Node)) := (if (decide (s14 <
    (List.length a_0 : Int))) = true then ((geti a_0 s14).bind fun x40 => ((laws_toNode k x40).bind fun v43 => ((geti s15 s14).bind fun x63 => (some (.nxt ((IntKind.wrap .i64
    (s14 + 1)), (List.set s15 s14.toNat v43))))))) else (some (.brk (s14, s15))))
def laws_toNodeS_j1 (s99 : Int) (s100 : List Node)  : Option (List Node) := (some s100)
def laws_toNodeS (k : Nat) (a_0 : List Node) : Option (List Node) := ((mkN 96 (List.length a_0 : Int) (Node.mk (View.mk (0 : Int) (0 : Int) []) [] [] (0 : Int))).bind fun l1 =>
    (jn (loopF (fun s98 => laws_toNodeS_b1 k a_0 s98.1 s98.2) k (0, l1)) (fun s109 => laws_toNodeS_j1 s109.1 s109.2)))

/-- laws.toCluster -/
def laws_toCluster (k : Nat) (a_0 : Cluster) : Option Cluster := ((laws_toView k a_0.Truth).bind fun v15 => ((laws_toNodeS k a_0.Nodes).bind fun v29 =>
    ((laws_toRowS k a_0.Acked).bind fun v43 => (some (Cluster.mk v15 v29 v43)))))

/-- laws.heldIntS -/
def laws_heldIntS_b1 (a_0 : List Int) (s3 : Int) (s4 : Int) : Option (Oc (Int × Int) Int) := (if (decide (s4 < (List.length a_0 : Int))) = true then
    ((geti a_0 s4).bind fun x27 => (if (decide (x27 ≠ s3)) = true then (some (.ret (-1))) else (some (.nxt ((IntKind.wrap .i64 (s3 + 1)),
    (IntKind.wrap .i64 (s4 + 1))))))) else (some (.brk (s3, s4))))
def laws_heldIntS_j1 (s37 : Int) (s38 : Int)  : Option Int := (some s37)
def laws_heldIntS (k : Nat) (a_0 : List Int) (k_1 : Int) : Option Int := (jn (loopF (fun s36 => laws_heldIntS_b1 a_0 s36.1 s36.2) k (k_1,
    0)) (fun s45 => laws_heldIntS_j1 s45.1 s45.2))

/-- spec.l1In -/
def spec_l1In (n_0 : Int) (lo_1 : Int) (hi_2 : Int) : Bool := ((decide (lo_1 ≤ n_0)) && (decide (n_0 ≤ hi_2)))

/-- spec.l6Group -/
def spec_l6Group_b1 (l_0 : List Int) (many_1 : Int) (i1 : Nat) (x2 : Int) : Option (Oc Unit Bool) := ((if ((decide (x2 < 0)) || (decide (many_1 ≤ x2))) = true then
    (some true) else ((if (decide ((0 : Int) < (i1 : Int))) = true then ((geti l_0 (IntKind.wrap .i64 ((i1 : Int) - 1))).bind fun x44 => (some (decide (x2 ≤ x44)))) else
    (some false)).bind fun v44 => (some v44))).bind fun v41 => (if v41 = true then (some (.ret false)) else (some (.nxt ()))))
def spec_l6Group_j1  : Option Bool := (some true)
def spec_l6Group (l_0 : List Int) (many_1 : Int) : Option Bool := (jn (rangeL (fun i1 x2 _ => spec_l6Group_b1 l_0 many_1 i1 x2 ) l_0 ()) (fun _ => spec_l6Group_j1 ))

/-- spec.l1Has -/
def spec_l1Has_b1 (n_1 : Int) (i1 : Nat) (x2 : Int) : Option (Oc Unit Bool) := (if (decide (x2 = n_1)) = true then (some (.ret true)) else (some (.nxt ())))
def spec_l1Has_j1  : Option Bool := (some false)
def spec_l1Has (l_0 : List Int) (n_1 : Int) : Option Bool := (jn (rangeL (fun i1 x2 _ => spec_l1Has_b1 n_1 i1 x2 ) l_0 ()) (fun _ => spec_l1Has_j1 ))

/-- spec.l17View -/
def spec_l17View (v_0 : View) (n_1 : Int) : Option Bool := ((if (spec_l1In v_0.Epoch 0 100) = true then ((spec_l6Group v_0.InStep n_1).bind fun v10 => (some v10)) else
    (some false)).bind fun v10 => ((if v10 = true then ((spec_l1Has v_0.InStep v_0.Leader).bind fun v26 => (some v26)) else (some false)).bind fun v26 => (some v26)))

/-- spec.l11Log -/
def spec_l11Log_b1 (l_0 : List Row) (epoch_1 : Int) (i1 : Nat) (x2 : Row) : Option (Oc Unit Bool) := (if (!(spec_l1In x2.Epoch 0 epoch_1)) = true then (some (.ret false)) else
    ((if (!(spec_l1In x2.Value 0 99)) = true then (some true) else ((if (decide ((0 : Int) < (i1 : Int))) = true then ((geti l_0 (IntKind.wrap .i64
    ((i1 : Int) - 1))).bind fun x42 => (some (decide (x2.Epoch < x42.Epoch)))) else (some false)).bind fun v42 => (some v42))).bind fun v39 => (if v39 = true then (some
    (.ret false)) else (some (.nxt ())))))
def spec_l11Log_j1 (l_0 : List Row)  : Option Bool := (some (decide ((List.length l_0 : Int) ≤ 30)))
def spec_l11Log (l_0 : List Row) (epoch_1 : Int) : Option Bool := (jn (rangeL (fun i1 x2 _ => spec_l11Log_b1 l_0 epoch_1 i1 x2 ) l_0 ()) (fun _ => spec_l11Log_j1 l_0 ))

/-- spec.l17Thinks -/
def spec_l17Thinks (c_0 : Cluster) (k_1 : Int) : Option Bool := ((geti c_0.Nodes k_1).bind fun x7 => (some (decide (x7.View.Leader = k_1))))

/-- spec.l11Same -/
def spec_l11Same_b1 (a_0 : List Row) (b_1 : List Row) (s2 : Int) : Option (Oc Int Int) := ((if ((decide (s2 < (List.length a_0 : Int))) && (decide (s2 <
    (List.length b_1 : Int)))) = true then ((geti a_0 s2).bind fun x37 => ((geti b_1 s2).bind fun x40 => (some ((x37.Epoch == x40.Epoch) &&
    ((x37.Value == x40.Value) && true))))) else (some false)).bind fun v37 => (if v37 = true then (some (.nxt (IntKind.wrap .i64 (s2 + 1)))) else (some (.brk s2))))
def spec_l11Same_j1 (s59 : Int)  : Option Int := (some s59)
def spec_l11Same (k : Nat) (a_0 : List Row) (b_1 : List Row) : Option Int := (jn (loopF (fun s58 => spec_l11Same_b1 a_0 b_1 s58) k 0) (fun s66 => spec_l11Same_j1 s66))

/-- spec.l17Node -/
def spec_l17Node_b1 (v_0 : Cluster) (v_1 : Int) (x7 : Node) (i101 : Nat) (x102 : Int) : Option (Oc Unit Bool) := ((if ((decide (x102 < 0)) || (decide
    ((List.length x7.Log : Int) < x102))) = true then (some true) else ((spec_l17Thinks v_0 v_1).bind fun v142 => (some ((!v142) && (decide (x102 ≠ 0)))))).bind fun v142 =>
    (if v142 = true then (some (.ret false)) else (some (.nxt ()))))
def spec_l17Node_j1 (k : Nat) (v_0 : Cluster) (v_1 : Int) (x7 : Node)  : Option Bool := ((spec_l1Has v_0.Truth.InStep v_1).bind fun v187 => (if (!v187) = true then
    (some true) else ((spec_l11Same k v_0.Acked x7.Log).bind fun v191 => (some (decide (v191 = (List.length v_0.Acked : Int)))))))
def spec_l17Node (k : Nat) (v_0 : Cluster) (v_1 : Int) : Option Bool := ((geti v_0.Nodes v_1).bind fun x7 => ((spec_l17View x7.View (List.length v_0.Nodes : Int)).bind fun v18 =>
    ((if (((!v18) || (decide (v_0.Truth.Epoch < x7.View.Epoch))) || ((decide (x7.View.Epoch = v_0.Truth.Epoch)) && (decide (x7.View.Leader ≠ v_0.Truth.Leader)))) = true then
    (some true) else ((spec_l11Log x7.Log x7.View.Epoch).bind fun v55 => (some (!v55)))).bind fun v55 => (if (((v55 || (decide ((List.length x7.Known : Int) ≠
    (List.length v_0.Nodes : Int)))) || (decide (x7.Told < 0))) || (decide ((List.length x7.Log : Int) < x7.Told))) = true then (some false) else (jn (rangeL
    (fun i101 x102 _ => spec_l17Node_b1 v_0 v_1 x7 i101 x102 ) x7.Known ()) (fun _ => spec_l17Node_j1 k v_0 v_1 x7 ))))))

/-- spec.GoodCluster -/
def spec_GoodCluster_b1 (k : Nat) (c_0 : Cluster) (i40 : Nat) : Option (Oc Unit Bool) := ((spec_l17Node k c_0 (i40 : Int)).bind fun v61 => (if (!v61) = true then (some
    (.ret false)) else (some (.nxt ()))))
def spec_GoodCluster_j1  : Option Bool := (some true)
def spec_GoodCluster (k : Nat) (c_0 : Cluster) : Option Bool := ((if (!(spec_l1In (List.length c_0.Nodes : Int) 2 4)) = true then (some true) else ((spec_l17View c_0.Truth
    (List.length c_0.Nodes : Int)).bind fun v10 => (some (!v10)))).bind fun v10 => ((if v10 = true then (some true) else ((spec_l11Log c_0.Acked 100).bind fun v26 => (some
    (!v26)))).bind fun v26 => (if v26 = true then (some false) else (jn (rangeI (fun i40 _ => spec_GoodCluster_b1 k c_0 i40 ) (List.length c_0.Nodes : Int) ())
    (fun _ => spec_GoodCluster_j1 )))))

/-- spec.l6Has -/
def spec_l6Has_b1 (a_0 : List Int) (i1 : Nat) (x2 : Int) : Option (Oc Unit Bool) := ((spec_l1Has a_0 x2).bind fun v23 => (if (!v23) = true then (some (.ret false)) else (some
    (.nxt ()))))
def spec_l6Has_j1  : Option Bool := (some true)
def spec_l6Has (a_0 : List Int) (b_1 : List Int) : Option Bool := (jn (rangeL (fun i1 x2 _ => spec_l6Has_b1 a_0 i1 x2 ) b_1 ()) (fun _ => spec_l6Has_j1 ))

/-- spec.l14Same -/
def spec_l14Same (a_0 : List Int) (b_1 : List Int) : Option Bool := ((spec_l6Has a_0 b_1).bind fun v1 => (some (v1 && (decide ((List.length a_0 : Int) =
    (List.length b_1 : Int))))))

/-- spec.l17Same -/
def spec_l17Same (a_0 : View) (b_1 : View) : Option Bool := ((if ((decide (a_0.Epoch = b_1.Epoch)) && (decide (a_0.Leader = b_1.Leader))) = true then
    ((spec_l14Same a_0.InStep b_1.InStep).bind fun v25 => (some v25)) else (some false)).bind fun v25 => (some v25))

/-- spec.BehindIn -/
def spec_BehindIn_b1 (c_0 : Cluster) (i21 : Nat) (x22 : Node) (s16 : List Int) : Option (Oc (List Int) ((List Int) × Bool)) := ((spec_l17Same x22.View c_0.Truth).bind fun v52 =>
    (if (!v52) = true then ((appN 8 s16 [(i21 : Int)]).bind fun l62 => (some (.nxt l62))) else (some (.nxt s16))))
def spec_BehindIn_j1 (s74 : List Int)  : Option ((List Int) × Bool) := (some (s74, true))
def spec_BehindIn (k : Nat) (c_0 : Cluster) : Option ((List Int) × Bool) := ((spec_GoodCluster k c_0).bind fun v7 => (if (!v7) = true then (some ([],
    false)) else (jn (rangeL (fun i21 x22 s73 => spec_BehindIn_b1 c_0 i21 x22 s73) c_0.Nodes ([] : (List Int))) (fun s85 => spec_BehindIn_j1 s85))))

/-- impl.in -/
def impl_in (n_0 : Int) (low_1 : Int) (high_2 : Int) : Bool := ((decide (low_1 ≤ n_0)) && (decide (n_0 ≤ high_2)))

/-- slices.Index[[]int,int] -/
def slices_Index_int_b1 (v_1 : Int) (i1 : Nat) (x2 : Int) : Option (Oc Unit Int) := (if (decide (v_1 = x2)) = true then (some (.ret (i1 : Int))) else (some (.nxt ())))
def slices_Index_int_j1  : Option Int := (some (-1))
def slices_Index_int (s_0 : List Int) (v_1 : Int) : Option Int := (jn (rangeL (fun i1 x2 _ => slices_Index_int_b1 v_1 i1 x2 ) s_0 ()) (fun _ => slices_Index_int_j1 ))

/-- slices.Contains[[]int,int] -/
def slices_Contains_int (s_0 : List Int) (v_1 : Int) : Option Bool := ((slices_Index_int s_0 v_1).bind fun v1 => (some (decide ((0 : Int) ≤ v1))))

/-- impl.areMembers -/
def impl_areMembers_b1 (list_0 : List Int) (many_1 : Int) (i1 : Nat) (x2 : Int) : Option (Oc Unit Bool) := ((if (!(impl_in x2 0 (IntKind.wrap .i64 (many_1 - 1)))) = true then
    (some true) else ((if (decide ((0 : Int) < (i1 : Int))) = true then ((geti list_0 (IntKind.wrap .i64 ((i1 : Int) - 1))).bind fun x30 => (some (decide (x2 ≤ x30)))) else
    (some false)).bind fun v30 => (some v30))).bind fun v27 => (if v27 = true then (some (.ret false)) else (some (.nxt ()))))
def impl_areMembers_j1  : Option Bool := (some true)
def impl_areMembers (list_0 : List Int) (many_1 : Int) : Option Bool := (jn (rangeL (fun i1 x2 _ => impl_areMembers_b1 list_0 many_1 i1 x2 ) list_0 ())
    (fun _ => impl_areMembers_j1 ))

/-- impl.isView -/
def impl_isView (v_0 : View) (nodes_1 : Int) : Option Bool := ((if (impl_in v_0.Epoch 0 100) = true then ((impl_areMembers v_0.InStep nodes_1).bind fun v10 => (some v10)) else
    (some false)).bind fun v10 => ((if v10 = true then ((slices_Contains_int v_0.InStep v_0.Leader).bind fun v26 => (some v26)) else (some false)).bind fun v26 => (some v26)))

/-- impl.isRows -/
def impl_isRows_b1 (most_1 : Int) (i3 : Nat) (x4 : Row) (s2 : Int) : Option (Oc Int Bool) := (if ((!(impl_in x4.Epoch s2 most_1)) || (!(impl_in x4.Value 0 99))) = true then (some
    (.ret false)) else (some (.nxt x4.Epoch)))
def impl_isRows_j1 (l_0 : List Row) (s54 : Int)  : Option Bool := (some (decide ((List.length l_0 : Int) ≤ 30)))
def impl_isRows (l_0 : List Row) (most_1 : Int) : Option Bool := (jn (rangeL (fun i3 x4 s53 => impl_isRows_b1 most_1 i3 x4 s53) l_0 0) (fun s62 => impl_isRows_j1 l_0 s62))

/-- slices.IndexFunc[[]int,int] -/
def slices_IndexFunc_int_b1 (f_1 : Int → Option Bool) (i1 : Nat) (x2 : Int) : Option (Oc Unit Int) := ((f_1 x2).bind fun v23 => (if v23 = true then (some (.ret (i1 : Int))) else
    (some (.nxt ()))))
def slices_IndexFunc_int_j1  : Option Int := (some (-1))
def slices_IndexFunc_int (s_0 : List Int) (f_1 : Int → Option Bool) : Option Int := (jn (rangeL (fun i1 x2 _ => slices_IndexFunc_int_b1 f_1 i1 x2 ) s_0 ())
    (fun _ => slices_IndexFunc_int_j1 ))

/-- slices.ContainsFunc[[]int,int] -/
def slices_ContainsFunc_int (s_0 : List Int) (f_1 : Int → Option Bool) : Option Bool := ((slices_IndexFunc_int s_0 f_1).bind fun v1 => (some (decide ((0 : Int) ≤ v1))))

/-- impl.isClusterNode$1 -/
def impl_isClusterNode_1 (k_0 : Int) (cap_0 : Node) (cap_1 : Int) : Bool := ((!(impl_in k_0 0 (List.length cap_0.Log : Int))) || ((decide (cap_0.View.Leader ≠ cap_1)) && (decide
    (k_0 ≠ 0))))

/-- impl.isClusterNode -/
def impl_isClusterNode (n_0 : Node) (own_1 : Int) (nodes_2 : Int) : Option Bool := ((impl_isView n_0.View nodes_2).bind fun v13 => ((if (!v13) = true then (some true) else
    ((impl_isRows n_0.Log n_0.View.Epoch).bind fun v19 => (some (!v19)))).bind fun v19 => (if ((v19 || (decide ((List.length n_0.Known : Int) ≠ nodes_2))) ||
    (!(impl_in n_0.Told 0 (List.length n_0.Log : Int)))) = true then (some false) else ((slices_ContainsFunc_int n_0.Known (fun a0 => some
    (impl_isClusterNode_1 a0 n_0 own_1))).bind fun v53 => (some (!v53))))))

/-- impl.Row] -/
def slices_Equal_Row_b1 (s2_1 : List Row) (i2 : Nat) (x3 : Row) : Option (Oc Unit Bool) := ((geti s2_1 (i2 : Int)).bind fun x24 => (if (!((x3.Epoch == x24.Epoch) &&
    ((x3.Value == x24.Value) && true))) = true then (some (.ret false)) else (some (.nxt ()))))
def slices_Equal_Row_j1  : Option Bool := (some true)
def slices_Equal_Row (s1_0 : List Row) (s2_1 : List Row) : Option Bool := (if (decide ((List.length s1_0 : Int) ≠ (List.length s2_1 : Int))) = true then (some false) else (jn
    (rangeL (fun i2 x3 _ => slices_Equal_Row_b1 s2_1 i2 x3 ) s1_0 ()) (fun _ => slices_Equal_Row_j1 )))

/-- impl.isCluster -/
def impl_isCluster_b1 (v_0 : Cluster) (i32 : Nat) (x33 : Node) : Option (Oc Unit Bool) := ((impl_isClusterNode x33 (i32 : Int) (List.length v_0.Nodes : Int)).bind fun v62 => (if
    (((!v62) || (decide (v_0.Truth.Epoch < x33.View.Epoch))) || ((decide (x33.View.Epoch = v_0.Truth.Epoch)) && (decide (x33.View.Leader ≠ v_0.Truth.Leader)))) = true then (some
    (.ret false)) else ((slices_Contains_int v_0.Truth.InStep (i32 : Int)).bind fun v109 => (if v109 = true then (if (decide ((List.length x33.Log : Int) <
    (List.length v_0.Acked : Int))) = true then (some (.ret false)) else ((sl x33.Log 0 (List.length v_0.Acked : Int)).bind fun l117 =>
    ((slices_Equal_Row l117 v_0.Acked).bind fun v120 => (if (!v120) = true then (some (.ret false)) else (some (.nxt ())))))) else (some (.nxt ()))))))
def impl_isCluster_j1  : Option Bool := (some true)
def impl_isCluster (v_0 : Cluster) : Option Bool := ((if (!(impl_in (List.length v_0.Nodes : Int) 2 4)) = true then (some true) else ((impl_isView v_0.Truth
    (List.length v_0.Nodes : Int)).bind fun v10 => (some (!v10)))).bind fun v10 => (if (v10 || (decide ((30 : Int) < (List.length v_0.Acked : Int)))) = true then
    (some false) else (jn (rangeL (fun i32 x33 _ => impl_isCluster_b1 v_0 i32 x33 ) v_0.Nodes ()) (fun _ => impl_isCluster_j1 ))))

/-- slices.Equal[[]int,int] -/
def slices_Equal_int_b1 (s2_1 : List Int) (i2 : Nat) (x3 : Int) : Option (Oc Unit Bool) := ((geti s2_1 (i2 : Int)).bind fun x24 => (if (decide (x3 ≠ x24)) = true then (some
    (.ret false)) else (some (.nxt ()))))
def slices_Equal_int_j1  : Option Bool := (some true)
def slices_Equal_int (s1_0 : List Int) (s2_1 : List Int) : Option Bool := (if (decide ((List.length s1_0 : Int) ≠ (List.length s2_1 : Int))) = true then (some false) else (jn
    (rangeL (fun i2 x3 _ => slices_Equal_int_b1 s2_1 i2 x3 ) s1_0 ()) (fun _ => slices_Equal_int_j1 )))

/-- impl.sameView -/
def impl_sameView (a_0 : View) (b_1 : View) : Option Bool := ((if ((decide (a_0.Epoch = b_1.Epoch)) && (decide (a_0.Leader = b_1.Leader))) = true then
    ((slices_Equal_int a_0.InStep b_1.InStep).bind fun v25 => (some v25)) else (some false)).bind fun v25 => (some v25))

/-- impl.BehindIn -/
def impl_BehindIn_b1 (c_0 : Cluster) (i27 : Nat) (x28 : Node) (s22 : List Int) : Option (Oc (List Int) ((List Int) × Bool)) := ((impl_sameView x28.View c_0.Truth).bind fun v58 =>
    (if (!v58) = true then ((appN 8 s22 [(i27 : Int)]).bind fun l68 => (some (.nxt l68))) else (some (.nxt s22))))
def impl_BehindIn_j1 (s80 : List Int)  : Option ((List Int) × Bool) := (some (s80, true))
def impl_BehindIn (c_0 : Cluster) : Option ((List Int) × Bool) := ((impl_isCluster c_0).bind fun v7 => (if (!v7) = true then (some ([],
    false)) else (jn (rangeL (fun i27 x28 s79 => impl_BehindIn_b1 c_0 i27 x28 s79) c_0.Nodes ([] : List Int)) (fun s91 => impl_BehindIn_j1 s91))))

/-- laws.FnExactBehindIn -/
def laws_FnExactBehindIn (k : Nat) (v_0 : Cluster) : Option Bool := ((laws_szCluster k v_0 1048576).bind fun v7 => (if (decide (v7 < 0)) = true then (some true) else
    ((laws_toCluster k v_0).bind fun v11 => ((spec_BehindIn k v11).bind fun v31 => ((laws_toCluster k v_0).bind fun v43 => ((impl_BehindIn v43).bind fun v71 =>
    ((laws_eqIntS k v71.1 v31.1).bind fun v83 => (if ((!v83) || (!(v71.2 == v31.2))) = true then (some false) else ((laws_toCluster k v_0).bind fun v100 =>
    ((laws_eqCluster k v43 v100).bind fun v120 => (if (!v120) = true then (some false) else ((laws_markCluster k v43 1).bind fun v124 => ((if (decide (v124.1 < 0)) = true then
    (some true) else ((laws_eqIntS k v71.1 v31.1).bind fun v138 => (some (!v138)))).bind fun v138 => (if (v138 || (!(v71.2 == v31.2))) = true then (some false) else
    ((laws_markIntS k v71.1 1).bind fun v167 => ((laws_heldIntS k v167.2 1).bind fun v174 => (if (decide (v174 < 0)) = true then (some false) else (if (decide
    (v174 ≠ v167.1)) = true then (some false) else ((laws_toCluster k v_0).bind fun v179 => ((impl_BehindIn v179).bind fun v199 => ((laws_eqIntS k v199.1 v31.1).bind fun v211 =>
    (if ((!v211) || (!(v199.2 == v31.2))) = true then (some false) else ((laws_heldIntS k v167.2 1).bind fun v224 => (if (decide (v224 < 0)) = true then (some false) else (if
    (decide (v224 ≠ v167.1)) = true then (some false) else (some true))))))))))))))))))))))))))
end Go.Proofs.Ytohofoampalhoaa.X
