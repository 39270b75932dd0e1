/- The seat's types and functions, as plain Lean has them. -/
import Derived.Test.YtefgfcalgjmhjaaZIns
set_option linter.unusedVariables false
set_option linter.unusedSimpArgs false
set_option maxRecDepth 100000
namespace Go.Proofs.Ytefgfcalgjmhjaa.X
open Go
open Nat (reduceEqDiff)
structure BoundsError where
  x : Int
  y : Int
  signed : Bool
  code : Int
  deriving DecidableEq, Inhabited
def BoundsError.cells (x : BoundsError) : List XV := [.int .i64 x.x, .int .i64 x.y, .bool x.signed, .int .u8 x.code]
structure Row where
  Epoch : Int
  Value : Int
  deriving DecidableEq, Inhabited
def Row.cells (x : Row) : List XV := [.int .i64 x.Epoch, .int .i64 x.Value]
structure Replica where
  Log : List Row
  Epoch : Int
  Known : Int
  deriving DecidableEq, Inhabited
def Replica.cells (x : Replica) : List XV := [lst Row.cells x.Log, .int .i64 x.Epoch, .int .i64 x.Known]
structure Group where
  Epoch : Int
  Leader : Int
  InStep : List Int
  High : Int
  Replicas : List Replica
  deriving DecidableEq, Inhabited
def Group.cells (x : Group) : List XV := [.int .i64 x.Epoch, .int .i64 x.Leader, lst cI x.InStep, .int .i64 x.High, lst Replica.cells x.Replicas]
structure IsrStep where
  Kind : Int
  K : Int
  N : Int
  deriving DecidableEq, Inhabited
def IsrStep.cells (x : IsrStep) : List XV := [.int .i64 x.Kind, .int .i64 x.K, .int .i64 x.N]
structure L1Cur where
  code : List Int
  at_ : Int
  seed : Int
  deriving DecidableEq, Inhabited
def L1Cur.cells (x : L1Cur) : List XV := [lst cU8 x.code, .int .i64 x.at_, .int .u64 x.seed]

/-- slices.Insert[[]int,int] -/
def slices_Insert_int (s_0 : List Int) (i_1 : Int) (v_2 : List Int) : Option (List Int × List Int) := insN s_0 i_1 v_2

/-- laws.eqIntS -/
def laws_eqIntS_b1 (a_0 : List Int) (b_1 : List Int) (s3 : Int) : Option (Oc Int Bool) := (if (decide (s3 < (List.length a_0 : Int))) = true then ((geti a_0 s3).bind fun x26 =>
    ((geti b_1 s3).bind fun x29 => (if (decide (x26 ≠ x29)) = true then (some (.ret false)) else (some (.nxt (IntKind.wrap .i64 (s3 + 1))))))) else (some (.brk s3)))
def laws_eqIntS_j1 (s39 : Int)  : Option Bool := (some true)
def laws_eqIntS (k : Nat) (a_0 : List Int) (b_1 : List Int) : Option Bool := (if (decide ((List.length a_0 : Int) ≠ (List.length b_1 : Int))) = true then (some false) else (jn
    (loopF (fun s38 => laws_eqIntS_b1 a_0 b_1 s38) k 0) (fun s46 => laws_eqIntS_j1 s46)))

/-- laws.eqRow -/
def laws_eqRow (a_0 : Row) (b_1 : Row) : Option Bool := (if (decide (a_0.Epoch ≠ b_1.Epoch)) = true then (some false) else (if (decide (a_0.Value ≠ b_1.Value)) = true then
    (some false) else (some true)))

/-- laws.eqRowS -/
def laws_eqRowS_b1 (a_0 : List Row) (b_1 : List Row) (s3 : Int) : Option (Oc Int Bool) := (if (decide (s3 < (List.length a_0 : Int))) = true then ((geti a_0 s3).bind fun x26 =>
    ((geti b_1 s3).bind fun x29 => ((laws_eqRow x26 x29).bind fun v32 => (if (!v32) = true then (some (.ret false)) else (some (.nxt (IntKind.wrap .i64 (s3 + 1)))))))) else (some
    (.brk s3)))
def laws_eqRowS_j1 (s42 : Int)  : Option Bool := (some true)
def laws_eqRowS (k : Nat) (a_0 : List Row) (b_1 : List Row) : Option Bool := (if (decide ((List.length a_0 : Int) ≠ (List.length b_1 : Int))) = true then (some false) else (jn
    (loopF (fun s41 => laws_eqRowS_b1 a_0 b_1 s41) k 0) (fun s49 => laws_eqRowS_j1 s49)))

/-- laws.eqReplica -/
def laws_eqReplica (k : Nat) (a_0 : Replica) (b_1 : Replica) : Option Bool := ((laws_eqRowS k a_0.Log b_1.Log).bind fun v13 => (if (!v13) = true then (some false) else (if
    (decide (a_0.Epoch ≠ b_1.Epoch)) = true then (some false) else (if (decide (a_0.Known ≠ b_1.Known)) = true then (some false) else (some true)))))

/-- laws.eqReplicaS -/
def laws_eqReplicaS_b1 (k : Nat) (a_0 : List Replica) (b_1 : List Replica) (s3 : Int) : Option (Oc Int Bool) := (if (decide (s3 < (List.length a_0 : Int))) = true then
    ((geti a_0 s3).bind fun x26 => ((geti b_1 s3).bind fun x29 => ((laws_eqReplica k x26 x29).bind fun v32 => (if (!v32) = true then (some (.ret false)) else (some (.nxt
    (IntKind.wrap .i64 (s3 + 1)))))))) else (some (.brk s3)))
def laws_eqReplicaS_j1 (s42 : Int)  : Option Bool := (some true)
def laws_eqReplicaS (k : Nat) (a_0 : List Replica) (b_1 : List Replica) : Option Bool := (if (decide ((List.length a_0 : Int) ≠ (List.length b_1 : Int))) = true then
    (some false) else (jn (loopF (fun s41 => laws_eqReplicaS_b1 k a_0 b_1 s41) k 0) (fun s49 => laws_eqReplicaS_j1 s49)))

/-- laws.eqGroup -/
def laws_eqGroup (k : Nat) (a_0 : Group) (b_1 : Group) : Option Bool := (if (decide (a_0.Epoch ≠ b_1.Epoch)) = true then (some false) else (if (decide
    (a_0.Leader ≠ b_1.Leader)) = true then (some false) else ((laws_eqIntS k a_0.InStep b_1.InStep).bind fun v15 => (if (!v15) = true then (some false) else (if (decide
    (a_0.High ≠ b_1.High)) = true then (some false) else ((laws_eqReplicaS k a_0.Replicas b_1.Replicas).bind fun v20 => (if (!v20) = true then (some false) else (some true))))))))

/-- laws.markIntS -/
def laws_markIntS_b1 (s6 : Int) (s7 : Int) (s8 : List Int) : Option (Oc (Int × Int × (List Int)) (Int × (List Int))) := (if (decide (s7 < (List.length s8 : Int))) = true then
    ((geti s8 s7).bind fun x33 => (some (.nxt ((IntKind.wrap .i64 (s6 + 1)), (IntKind.wrap .i64 (s7 + 1)), (List.set s8 s7.toNat s6))))) else (some (.brk (s6, s7, s8))))
def laws_markIntS_j1 (s46 : Int) (s47 : Int) (s48 : List Int)  : Option (Int × (List Int)) := (some (s46, s48))
def laws_markIntS (k : Nat) (a_0 : List Int) (k_1 : Int) : Option (Int × (List Int)) := (jn (loopF (fun s45 => laws_markIntS_b1 s45.1 s45.2.1 s45.2.2) k (k_1, 0,
    a_0)) (fun s57 => laws_markIntS_j1 s57.1 s57.2.1 s57.2.2))

/-- laws.markRowS -/
def laws_markRowS_b1 (s6 : Int) (s7 : Int) (s8 : List Row) : Option (Oc (Int × Int × (List Row)) (Int × (List Row))) := (if (decide (s7 < (List.length s8 : Int))) = true then
    ((geti s8 s7).bind fun x33 => (some (.nxt ((IntKind.wrap .i64 ((IntKind.wrap .i64 (s6 + 1)) + 1)), (IntKind.wrap .i64 (s7 + 1)),
    (List.set s8 s7.toNat (Row.mk s6 (IntKind.wrap .i64 (s6 + 1)))))))) else (some (.brk (s6, s7, s8))))
def laws_markRowS_j1 (s51 : Int) (s52 : Int) (s53 : List Row)  : Option (Int × (List Row)) := (some (s51, s53))
def laws_markRowS (k : Nat) (a_0 : List Row) (k_1 : Int) : Option (Int × (List Row)) := (jn (loopF (fun s50 => laws_markRowS_b1 s50.1 s50.2.1 s50.2.2) k (k_1, 0,
    a_0)) (fun s62 => laws_markRowS_j1 s62.1 s62.2.1 s62.2.2))

/-- laws.markReplicaS -/
def laws_markReplicaS_b1 (k : Nat) (s6 : Int) (s7 : Int) (s8 : List Replica) : Option (Oc (Int × Int × (List Replica)) (Int × (List Replica))) := (if (decide (s7 <
    (List.length s8 : Int))) = true then ((geti s8 s7).bind fun x33 => ((laws_markRowS k x33.Log s6).bind fun v49 => (some (.nxt ((IntKind.wrap .i64 ((IntKind.wrap .i64
    (v49.1 + 1)) + 1)), (IntKind.wrap .i64 (s7 + 1)), (List.set s8 s7.toNat (Replica.mk v49.2 v49.1 (IntKind.wrap .i64 (v49.1 + 1))))))))) else (some (.brk (s6, s7, s8))))
def laws_markReplicaS_j1 (s72 : Int) (s73 : Int) (s74 : List Replica)  : Option (Int × (List Replica)) := (some (s72, s74))
def laws_markReplicaS (k : Nat) (a_0 : List Replica) (k_1 : Int) : Option (Int × (List Replica)) := (jn (loopF (fun s71 => laws_markReplicaS_b1 k s71.1 s71.2.1 s71.2.2) k (k_1, 0,
    a_0)) (fun s83 => laws_markReplicaS_j1 s83.1 s83.2.1 s83.2.2))

/-- laws.markGroup -/
def laws_markGroup (k : Nat) (a_0 : Group) (k_1 : Int) : Option (Int × Group) := ((laws_markIntS k a_0.InStep k_1).bind fun v7 =>
    ((laws_markReplicaS k a_0.Replicas v7.1).bind fun v14 => (some (v14.1, (Group.mk a_0.Epoch a_0.Leader v7.2 a_0.High v14.2)))))

/-- laws.heldIntS -/
def laws_heldIntS_b1 (a_0 : List Int) (s3 : Int) (s4 : Int) : Option (Oc (Int × Int) Int) := (if (decide (s4 < (List.length a_0 : Int))) = true then
    ((geti a_0 s4).bind fun x27 => (if (decide (x27 ≠ s3)) = true then (some (.ret (-1))) else (some (.nxt ((IntKind.wrap .i64 (s3 + 1)),
    (IntKind.wrap .i64 (s4 + 1))))))) else (some (.brk (s3, s4))))
def laws_heldIntS_j1 (s37 : Int) (s38 : Int)  : Option Int := (some s37)
def laws_heldIntS (k : Nat) (a_0 : List Int) (k_1 : Int) : Option Int := (jn (loopF (fun s36 => laws_heldIntS_b1 a_0 s36.1 s36.2) k (k_1,
    0)) (fun s45 => laws_heldIntS_j1 s45.1 s45.2))

/-- laws.heldRowS -/
def laws_heldRowS_b1 (a_0 : List Row) (s3 : Int) (s4 : Int) : Option (Oc (Int × Int) Int) := (if (decide (s4 < (List.length a_0 : Int))) = true then
    ((geti a_0 s4).bind fun x27 => (if (decide (x27.Epoch ≠ s3)) = true then (some (.ret (-1))) else ((geti a_0 s4).bind fun x34 => (if (decide (x34.Value ≠ (IntKind.wrap .i64
    (s3 + 1)))) = true then (some (.ret (-1))) else (some (.nxt ((IntKind.wrap .i64 ((IntKind.wrap .i64 (s3 + 1)) + 1)), (IntKind.wrap .i64 (s4 + 1))))))))) else (some (.brk (s3,
    s4))))
def laws_heldRowS_j1 (s44 : Int) (s45 : Int)  : Option Int := (some s44)
def laws_heldRowS (k : Nat) (a_0 : List Row) (k_1 : Int) : Option Int := (jn (loopF (fun s43 => laws_heldRowS_b1 a_0 s43.1 s43.2) k (k_1,
    0)) (fun s52 => laws_heldRowS_j1 s52.1 s52.2))

/-- laws.heldReplicaS -/
def laws_heldReplicaS_b1 (k : Nat) (a_0 : List Replica) (s3 : Int) (s4 : Int) : Option (Oc (Int × Int) Int) := (if (decide (s4 < (List.length a_0 : Int))) = true then
    ((geti a_0 s4).bind fun x27 => ((laws_heldRowS k x27.Log s3).bind fun v30 => (if (decide (v30 < 0)) = true then (some (.ret (-1))) else ((geti a_0 s4).bind fun x37 => (if
    (decide (x37.Epoch ≠ v30)) = true then (some (.ret (-1))) else ((geti a_0 s4).bind fun x44 => (if (decide (x44.Known ≠ (IntKind.wrap .i64 (v30 + 1)))) = true then (some (.ret
    (-1))) else (some (.nxt ((IntKind.wrap .i64 ((IntKind.wrap .i64 (v30 + 1)) + 1)), (IntKind.wrap .i64 (s4 + 1)))))))))))) else (some (.brk (s3, s4))))
def laws_heldReplicaS_j1 (s54 : Int) (s55 : Int)  : Option Int := (some s54)
def laws_heldReplicaS (k : Nat) (a_0 : List Replica) (k_1 : Int) : Option Int := (jn (loopF (fun s53 => laws_heldReplicaS_b1 k a_0 s53.1 s53.2) k (k_1,
    0)) (fun s62 => laws_heldReplicaS_j1 s62.1 s62.2))

/-- laws.heldGroup -/
def laws_heldGroup (k : Nat) (a_0 : Group) (k_1 : Int) : Option Int := ((laws_heldIntS k a_0.InStep k_1).bind fun v7 => (if (decide (v7 < 0)) = true then (some (-1)) else
    ((laws_heldReplicaS k a_0.Replicas v7).bind fun v11 => (if (decide (v11 < 0)) = true then (some (-1)) else (some v11)))))

/-- impl.in -/
def impl_in (n_0 : Int) (low_1 : Int) (high_2 : Int) : Bool := ((decide (low_1 ≤ n_0)) && (decide (n_0 ≤ high_2)))

/-- impl.newGroup -/
def impl_newGroup_b1 (l5 : List Replica) (i30 : Nat) (s25 : Group) : Option (Oc Group Group) := ((appN 8 s25.InStep [(i30 : Int)]).bind fun l58 => (some (.nxt
    (Group.mk s25.Epoch s25.Leader l58 s25.High l5))))
def impl_newGroup_j1 (l5 : List Replica) (s71 : Group)  : Option Group := (some (Group.mk s71.Epoch s71.Leader s71.InStep s71.High l5))
def impl_newGroup (replicas_0 : Int) : Option Group := ((mkN 40 replicas_0 (Replica.mk [] (0 : Int) (0 : Int))).bind fun l5 => (jn (rangeI
    (fun i30 s70 => impl_newGroup_b1 l5 i30 s70) replicas_0 (Group.mk 0 0 [] 0 l5)) (fun s83 => impl_newGroup_j1 l5 s83)))

/-- impl.Group).know -/
def impl_Group_know (g_0 : Group) (k_1 : Int) : Option Group := ((geti g_0.Replicas k_1).bind fun x1 => (some (Group.mk g_0.Epoch g_0.Leader g_0.InStep g_0.High
    (List.set g_0.Replicas k_1.toNat (Replica.mk x1.Log g_0.Epoch (List.length x1.Log : Int))))))

/-- impl.Group).shared -/
def impl_Group_shared_b1 (x7 : Replica) (x10 : Replica) (s14 : Int) : Option (Oc Int Int) := ((if (decide (s14 < (mnI (List.length x7.Log : Int)
    (List.length x10.Log : Int)))) = true then ((geti x7.Log s14).bind fun x39 => ((geti x10.Log s14).bind fun x42 => (some ((x39.Epoch == x42.Epoch) &&
    ((x39.Value == x42.Value) && true))))) else (some false)).bind fun v39 => (if v39 = true then (some (.nxt (IntKind.wrap .i64 (s14 + 1)))) else (some (.brk s14))))
def impl_Group_shared_j1 (s61 : Int)  : Option Int := (some s61)
def impl_Group_shared (k : Nat) (g_0 : Group) (k_1 : Int) : Option Int := ((geti g_0.Replicas k_1).bind fun x7 => ((geti g_0.Replicas g_0.Leader).bind fun x10 => (jn (loopF
    (fun s60 => impl_Group_shared_b1 x7 x10 s60) k 0) (fun s68 => impl_Group_shared_j1 s68))))

/-- impl.Group).fetch -/
def impl_Group_fetch (k : Nat) (g_0 : Group) (k_1 : Int) (many_2 : Int) : Option Group := ((impl_Group_shared k g_0 k_1).bind fun v1 =>
    ((geti g_0.Replicas g_0.Leader).bind fun x4 => ((sl x4.Log v1 (List.length x4.Log)).bind fun l20 => ((geti g_0.Replicas k_1).bind fun x27 => (ck (g_0.Leader ≠ k_1)
    ((sl x27.Log 0 v1).bind fun l50 => ((appN 16 ([] : List Row) l50).bind fun l57 => ((sl l20 0 (mnI many_2 (List.length l20 : Int))).bind fun l66 =>
    ((appN 16 l57 l66).bind fun l73 => ((impl_Group_know (Group.mk g_0.Epoch g_0.Leader g_0.InStep g_0.High (List.set g_0.Replicas k_1.toNat
    (Replica.mk l73 x27.Epoch x27.Known))) k_1).bind fun v95 => (some v95)))))))))))

/-- cmp.isNaN[int] -/
def cmp_isNaN_int (x_0 : Int) : Bool := (decide (x_0 ≠ x_0))

/-- cmp.Less[int] -/
def cmp_Less_int (x_0 : Int) (y_1 : Int) : Bool := (((cmp_isNaN_int x_0) && (!(cmp_isNaN_int y_1))) || (decide (x_0 < y_1)))

/-- slices.isNaN[int] -/
def slices_isNaN_int (x_0 : Int) : Bool := (decide (x_0 ≠ x_0))

/-- slices.BinarySearch[[]int,int] -/
def slices_BinarySearch_int_b1 (x_0 : List Int) (target_1 : Int) (s3 : Int) (s4 : Int) : Option (Oc (Int × Int) (Int × Bool)) := (if (decide (s3 < s4)) = true then ((geti x_0
    (IntKind.wrap .i64 (wshr .u64 (IntKind.wrap .u64 (IntKind.wrap .i64 (s3 + s4))) 1))).bind fun x29 => (if (cmp_Less_int x29 target_1) = true then (some (.nxt
    ((IntKind.wrap .i64 ((IntKind.wrap .i64 (wshr .u64 (IntKind.wrap .u64 (IntKind.wrap .i64 (s3 + s4))) 1)) + 1)), s4))) else (some (.nxt (s3,
    (IntKind.wrap .i64 (wshr .u64 (IntKind.wrap .u64 (IntKind.wrap .i64 (s3 + s4))) 1))))))) else (some (.brk (s3, s4))))
def slices_BinarySearch_int_j1 (x_0 : List Int) (target_1 : Int) (s37 : Int) (s38 : Int)  : Option (Int × Bool) := ((if (decide (s37 < (List.length x_0 : Int))) = true then
    ((geti x_0 s37).bind fun x50 => ((if (decide (x50 = target_1)) = true then (some true) else ((geti x_0 s37).bind fun x56 => (some ((slices_isNaN_int x56) &&
    (slices_isNaN_int target_1))))).bind fun v56 => (some v56))) else (some false)).bind fun v50 => (some (s37, v50)))
def slices_BinarySearch_int (k : Nat) (x_0 : List Int) (target_1 : Int) : Option (Int × Bool) := (jn (loopF (fun s36 => slices_BinarySearch_int_b1 x_0 target_1 s36.1 s36.2) k (0,
    (List.length x_0 : Int))) (fun s90 => slices_BinarySearch_int_j1 x_0 target_1 s90.1 s90.2))

/-- slices.Delete[[]int,int] -/
def slices_Delete_int (s_0 : List Int) (i_1 : Int) (j_2 : Int) : Option (List Int) := delN s_0 i_1 j_2

/-- impl.Group).step -/
def impl_Group_step_b1 (v_0 : Group) (i295 : Nat) (s291 : Int) (s292 : List Replica) : Option (Oc (Int × (List Replica)) (Bool × Group)) := ((geti v_0.InStep
    (i295 : Int)).bind fun x319 => ((geti s292 x319).bind fun x324 => (if (decide (x324.Epoch ≠ v_0.Epoch)) = true then (some (.ret (false,
    (Group.mk v_0.Epoch v_0.Leader v_0.InStep v_0.High s292)))) else (some (.nxt ((mnI s291 x324.Known), s292))))))
def impl_Group_step_j1 (v_0 : Group) (v_1 : IsrStep) (s352 : Int) (s353 : List Replica)  : Option (Bool × Group) := (if ((decide (v_1.K ≠ 0)) || (decide
    (s352 ≤ v_0.High))) = true then (some (false, (Group.mk v_0.Epoch v_0.Leader v_0.InStep v_0.High s353))) else (some (true,
    (Group.mk v_0.Epoch v_0.Leader v_0.InStep s352 s353))))
def impl_Group_step (k : Nat) (v_0 : Group) (v_1 : IsrStep) : Option (Bool × Group) := (if (((decide (v_1.Kind ≠ 2)) && (decide (v_1.Kind ≠ 3))) && (decide
    (v_1.N ≠ 0))) = true then (some (false, v_0)) else (if (!(impl_in v_1.K 0 (IntKind.wrap .i64 ((List.length v_0.Replicas : Int) - 1)))) = true then (some (false,
    v_0)) else ((slices_BinarySearch_int k v_0.InStep v_1.K).bind fun v27 => ((geti v_0.Replicas v_1.K).bind fun x30 => (if (decide (v_1.Kind = 1)) = true then (if ((!v27.2) ||
    (decide (v_0.Epoch = 100))) = true then (some (false,
    v_0)) else ((impl_Group_know (Group.mk (IntKind.wrap .i64 (v_0.Epoch + 1)) v_1.K v_0.InStep v_0.High v_0.Replicas) v_1.K).bind fun v77 => (some (true,
    v77)))) else (if (decide (v_1.Kind = 2)) = true then ((geti v_0.Replicas v_0.Leader).bind fun x87 => (if (((decide (v_1.K ≠ 0)) || (!(impl_in v_1.N 0 99))) || (decide
    ((List.length x87.Log : Int) = 30))) = true then (some (false,
    v_0)) else ((appN 16 x87.Log [(Row.mk v_0.Epoch v_1.N)]).bind fun l151 => ((impl_Group_know (Group.mk v_0.Epoch v_0.Leader v_0.InStep v_0.High
    (List.set v_0.Replicas v_0.Leader.toNat (Replica.mk l151 x87.Epoch x87.Known))) v_0.Leader).bind fun v169 => (some (true,
    v169)))))) else (if (decide (v_1.Kind = 3)) = true then (if (decide (v_1.K = v_0.Leader)) = true then (some (false,
    v_0)) else (if (!(impl_in v_1.N 0 30)) = true then (some (false, v_0)) else ((impl_Group_fetch k v_0 v_1.K v_1.N).bind fun v193 => (some (true,
    v193))))) else (if (decide (v_1.Kind = 4)) = true then (if ((!v27.2) || (decide (v_1.K = v_0.Leader))) = true then (some (false,
    v_0)) else ((slices_Delete_int v_0.InStep v27.1 (IntKind.wrap .i64 (v27.1 + 1))).bind fun v217 => (some (true,
    (Group.mk v_0.Epoch v_0.Leader v217 v_0.High v_0.Replicas))))) else (if (decide (v_1.Kind = 5)) = true then (if ((v27.2 || (decide (x30.Epoch ≠ v_0.Epoch))) || (decide
    (x30.Known < v_0.High))) = true then (some (false, v_0)) else ((slices_Insert_int v_0.InStep v27.1 [v_1.K]).bind fun v265 => (some (true,
    (Group.mk v_0.Epoch v_0.Leader v265.1 v_0.High v_0.Replicas))))) else (if (decide (v_1.Kind = 6)) = true then (jn (rangeI
    (fun i295 s351 => impl_Group_step_b1 v_0 i295 s351.1 s351.2) (List.length v_0.InStep : Int) (31,
    v_0.Replicas)) (fun s375 => impl_Group_step_j1 v_0 v_1 s375.1 s375.2)) else (some (false, v_0))))))))))))

/-- impl.PlayGroup -/
def impl_PlayGroup_b1 (k : Nat) (i72 : Nat) (x73 : IsrStep) (s59 : List Bool) (s64 : Group) (s69 : List Replica) : Option (Oc ((List Bool) × Group × (List Replica)) (Group ×
    (List Bool) × Bool)) := ((impl_Group_step k (Group.mk s64.Epoch s64.Leader s64.InStep s64.High s69) x73).bind fun v104 => ((appN 1 s59 [v104.1]).bind fun l121 => (some (.nxt
    (l121, v104.2, v104.2.Replicas)))))
def impl_PlayGroup_j1 (s132 : List Bool) (s137 : Group) (s142 : List Replica)  : Option (Group × (List Bool) × Bool) := (some
    ((Group.mk s137.Epoch s137.Leader s137.InStep s137.High s142), s132, true))
def impl_PlayGroup (k : Nat) (replicas_0 : Int) (l_1 : List IsrStep) : Option (Group × (List Bool) × Bool) := (if ((!(impl_in replicas_0 2 4)) || (decide ((100 : Int) <
    (List.length l_1 : Int)))) = true then (some ((Group.mk 0 0 [] 0 []), [],
    false)) else ((impl_newGroup replicas_0).bind fun v18 => (jn (rangeL (fun i72 x73 s131 => impl_PlayGroup_b1 k i72 x73 s131.1 s131.2.1 s131.2.2) l_1 (([] : List Bool), v18,
    v18.Replicas)) (fun s154 => impl_PlayGroup_j1 s154.1 s154.2.1 s154.2.2))))

/-- spec.l1In -/
def spec_l1In (n_0 : Int) (lo_1 : Int) (hi_2 : Int) : Bool := ((decide (lo_1 ≤ n_0)) && (decide (n_0 ≤ hi_2)))

/-- spec.NewGroup -/
def spec_NewGroup_b1 (replicas_0 : Int) (l8 : List Replica) (s29 : Int) (s30 : Group) : Option (Oc (Int × Group) (Group × Bool)) := (if (decide (s29 < replicas_0)) = true then
    ((appN 8 s30.InStep [s29]).bind fun l64 => (some (.nxt ((IntKind.wrap .i64 (s29 + 1)), (Group.mk s30.Epoch s30.Leader l64 s30.High l8))))) else (some (.brk (s29,
    (Group.mk s30.Epoch s30.Leader s30.InStep s30.High l8)))))
def spec_NewGroup_j1 (l8 : List Replica) (s78 : Int) (s79 : Group)  : Option (Group × Bool) := (some ((Group.mk s79.Epoch s79.Leader s79.InStep s79.High l8), true))
def spec_NewGroup (k : Nat) (replicas_0 : Int) : Option (Group × Bool) := (if (!(spec_l1In replicas_0 2 4)) = true then (some ((Group.mk 0 0 [] 0 []),
    false)) else ((mkN 40 replicas_0 (Replica.mk [] (0 : Int) (0 : Int))).bind fun l8 => (jn (loopF (fun s77 => spec_NewGroup_b1 replicas_0 l8 s77.1 s77.2) k (0,
    (Group.mk 0 0 [] 0 l8))) (fun s93 => spec_NewGroup_j1 l8 s93.1 s93.2))))

/-- spec.l11Own -/
def spec_l11Own_b1 (l21 : List Int) (i42 : Nat) (x43 : Replica) (s37 : Group) : Option (Oc Group Group) := ((appN 16 ([] : List Row) x43.Log).bind fun l77 =>
    ((appN 40 s37.Replicas [(Replica.mk l77 x43.Epoch x43.Known)]).bind fun l94 => (some (.nxt (Group.mk s37.Epoch s37.Leader l21 s37.High l94)))))
def spec_l11Own_j1 (l21 : List Int) (s107 : Group)  : Option Group := (some (Group.mk s107.Epoch s107.Leader l21 s107.High s107.Replicas))
def spec_l11Own (g_0 : Group) : Option Group := ((appN 8 ([] : List Int) g_0.InStep).bind fun l21 => (jn (rangeL
    (fun i42 x43 s106 => spec_l11Own_b1 l21 i42 x43 s106) g_0.Replicas (Group.mk g_0.Epoch g_0.Leader l21 g_0.High [])) (fun s120 => spec_l11Own_j1 l21 s120)))

/-- spec.l11Same -/
def spec_l11Same_b1 (a_0 : List Row) (b_1 : List Row) (s2 : Int) : Option (Oc Int Int) := ((if ((decide (s2 < (List.length a_0 : Int))) && (decide (s2 <
    (List.length b_1 : Int)))) = true then ((geti a_0 s2).bind fun x37 => ((geti b_1 s2).bind fun x40 => (some ((x37.Epoch == x40.Epoch) &&
    ((x37.Value == x40.Value) && true))))) else (some false)).bind fun v37 => (if v37 = true then (some (.nxt (IntKind.wrap .i64 (s2 + 1)))) else (some (.brk s2))))
def spec_l11Same_j1 (s59 : Int)  : Option Int := (some s59)
def spec_l11Same (k : Nat) (a_0 : List Row) (b_1 : List Row) : Option Int := (jn (loopF (fun s58 => spec_l11Same_b1 a_0 b_1 s58) k 0) (fun s66 => spec_l11Same_j1 s66))

/-- spec.l11Fetch -/
def spec_l11Fetch_j1 (g_0 : Group) (k_1 : Int) (x11 : Replica) (v50 : Int) (s53 : Int)  : Option Group := ((sl x11.Log 0 (IntKind.wrap .i64 (v50 + s53))).bind fun l80 =>
    ((appN 16 ([] : List Row) l80).bind fun l87 => (some (Group.mk g_0.Epoch g_0.Leader g_0.InStep g_0.High (List.set g_0.Replicas k_1.toNat (Replica.mk l87 g_0.Epoch
    (List.length l87 : Int)))))))
def spec_l11Fetch (k : Nat) (g_0 : Group) (k_1 : Int) (n_2 : Int) : Option Group := ((geti g_0.Replicas g_0.Leader).bind fun x11 => ((geti g_0.Replicas k_1).bind fun x27 => (ck
    (g_0.Leader ≠ k_1) ((spec_l11Same k x27.Log x11.Log).bind fun v50 => ((if (decide ((IntKind.wrap .i64 ((List.length x11.Log : Int) - v50)) < n_2)) = true then (some
    (IntKind.wrap .i64 ((List.length x11.Log : Int) - v50))) else (some n_2)).bind (fun s117 => spec_l11Fetch_j1 g_0 k_1 x11 v50 s117))))))

/-- spec.l1Put -/
def spec_l1Put_b1 (l_0 : List Int) (n_1 : Int) (s2 : Int) : Option (Oc Int (List Int)) := ((if (decide (s2 < (List.length l_0 : Int))) = true then ((geti l_0 s2).bind fun x27 =>
    (some (decide (x27 < n_1)))) else (some false)).bind fun v27 => (if v27 = true then (some (.nxt (IntKind.wrap .i64 (s2 + 1)))) else (some (.brk s2))))
def spec_l1Put_j1 (l_0 : List Int) (n_1 : Int) (s48 : Int)  : Option (List Int) := ((if (decide (s48 < (List.length l_0 : Int))) = true then ((geti l_0 s48).bind fun x58 => (some
    (decide (x58 = n_1)))) else (some false)).bind fun v58 => (if v58 = true then (some l_0) else ((sl l_0 0 s48).bind fun l76 => ((appN 8 ([] : List Int) l76).bind fun l83 =>
    ((appN 8 l83 [n_1]).bind fun l98 => ((sl l_0 s48 (List.length l_0)).bind fun l107 => ((appN 8 l98 l107).bind fun l114 => (some l114))))))))
def spec_l1Put (k : Nat) (l_0 : List Int) (n_1 : Int) : Option (List Int) := (jn (loopF (fun s47 => spec_l1Put_b1 l_0 n_1 s47) k 0) (fun s123 => spec_l1Put_j1 l_0 n_1 s123))

/-- spec.l11Least -/
def spec_l11Least_b1 (g_0 : Group) (i9 : Nat) (x10 : Int) (s8 : Int) : Option (Oc Int Int) := ((geti g_0.Replicas x10).bind fun x32 => (if (decide
    (x32.Epoch ≠ g_0.Epoch)) = true then (some (.ret (-1))) else (if (decide (x32.Known < s8)) = true then (some (.nxt x32.Known)) else (some (.nxt s8)))))
def spec_l11Least_j1 (s51 : Int)  : Option Int := (some s51)
def spec_l11Least (g_0 : Group) : Option Int := (jn (rangeL (fun i9 x10 s50 => spec_l11Least_b1 g_0 i9 x10 s50) g_0.InStep 30) (fun s58 => spec_l11Least_j1 s58))

/-- spec.l1Has -/
def spec_l1Has_b1 (n_1 : Int) (i1 : Nat) (x2 : Int) : Option (Oc Unit Bool) := (if (decide (x2 = n_1)) = true then (some (.ret true)) else (some (.nxt ())))
def spec_l1Has_j1  : Option Bool := (some false)
def spec_l1Has (l_0 : List Int) (n_1 : Int) : Option Bool := (jn (rangeL (fun i1 x2 _ => spec_l1Has_b1 n_1 i1 x2 ) l_0 ()) (fun _ => spec_l1Has_j1 ))

/-- spec.l11Step -/
def spec_l11Step_b1 (v_0 : Group) (v_1 : IsrStep) (i309 : Nat) (s304 : List Int) : Option (Oc (List Int) (Group × Bool)) := ((geti v_0.InStep (i309 : Int)).bind fun x334 => (if
    (decide (x334 ≠ v_1.K)) = true then ((appN 8 s304 [x334]).bind fun l346 => (some (.nxt l346))) else (some (.nxt s304))))
def spec_l11Step_j1 (v_0 : Group) (s358 : List Int)  : Option (Group × Bool) := (some ((Group.mk v_0.Epoch v_0.Leader s358 v_0.High v_0.Replicas), true))
def spec_l11Step (k : Nat) (v_0 : Group) (v_1 : IsrStep) : Option (Group × Bool) := ((spec_l1Has v_0.InStep v_1.K).bind fun v15 => ((geti v_0.Replicas v_0.Leader).bind fun x29 =>
    (if ((((decide (v_1.Kind = 1)) && v15) && (decide (v_1.N = 0))) && (decide (v_0.Epoch < 100))) = true then ((geti v_0.Replicas v_1.K).bind fun x95 => (some ((Group.mk
    (IntKind.wrap .i64 (v_0.Epoch + 1)) v_1.K v_0.InStep v_0.High (List.set v_0.Replicas v_1.K.toNat (Replica.mk x95.Log (IntKind.wrap .i64 (v_0.Epoch + 1))
    (List.length x95.Log : Int)))), true))) else (if ((((decide (v_1.Kind = 2)) && (decide (v_1.K = 0))) && (spec_l1In v_1.N 0 99)) && (decide
    ((List.length x29.Log : Int) < 30))) = true then ((appN 16 x29.Log [(Row.mk v_0.Epoch v_1.N)]).bind fun l180 => (some ((Group.mk v_0.Epoch v_0.Leader v_0.InStep v_0.High
    (List.set v_0.Replicas v_0.Leader.toNat (Replica.mk l180 v_0.Epoch (List.length l180 : Int)))),
    true))) else (if ((((decide (v_1.Kind = 3)) && ((decide ((0 : Int) ≤ v_1.K)) && (decide (v_1.K < (List.length v_0.Replicas : Int))))) && (decide (v_1.K ≠ v_0.Leader))) &&
    (spec_l1In v_1.N 0 30)) = true then ((spec_l11Fetch k v_0 v_1.K v_1.N).bind fun v247 => (some (v247,
    true))) else (if ((((decide (v_1.Kind = 4)) && v15) && (decide (v_1.K ≠ v_0.Leader))) && (decide (v_1.N = 0))) = true then (jn (rangeI
    (fun i309 s357 => spec_l11Step_b1 v_0 v_1 i309 s357) (List.length v_0.InStep : Int) ([] : (List Int))) (fun s375 => spec_l11Step_j1 v_0 s375)) else ((if ((((decide
    (v_1.Kind = 5)) && ((decide ((0 : Int) ≤ v_1.K)) && (decide (v_1.K < (List.length v_0.Replicas : Int))))) && (!v15)) && (decide (v_1.N = 0))) = true then
    ((geti v_0.Replicas v_1.K).bind fun x410 => (some (decide (x410.Epoch = v_0.Epoch)))) else (some false)).bind fun v410 => ((if v410 = true then
    ((geti v_0.Replicas v_1.K).bind fun x443 => (some (decide (v_0.High ≤ x443.Known)))) else (some false)).bind fun v443 => (if v443 = true then
    ((spec_l1Put k v_0.InStep v_1.K).bind fun v474 => (some ((Group.mk v_0.Epoch v_0.Leader v474 v_0.High v_0.Replicas),
    true))) else (if (((decide (v_1.Kind = 6)) && (decide (v_1.K = 0))) && (decide (v_1.N = 0))) = true then ((spec_l11Least v_0).bind fun v515 => (if (decide
    (v_0.High < v515)) = true then ((spec_l11Least v_0).bind fun v519 => (some ((Group.mk v_0.Epoch v_0.Leader v_0.InStep v519 v_0.Replicas), true))) else (some (v_0,
    false)))) else (some (v_0, false))))))))))))

/-- spec.PlayGroup -/
def spec_PlayGroup_j1 (s54 : List Bool) (v120 : Group × Bool) (s135 : Group)  : Option (Oc ((List Bool) × Group) (Group × (List Bool) × Bool)) :=
    ((appN 1 s54 [v120.2]).bind fun l172 => (some (.nxt (l172, s135))))
def spec_PlayGroup_b1 (k : Nat) (i68 : Nat) (x69 : IsrStep) (s54 : List Bool) (s59 : Group) : Option (Oc ((List Bool) × Group) (Group × (List Bool) × Bool)) :=
    ((spec_l11Own s59).bind fun v104 => ((spec_l11Step k v104 x69).bind fun v120 => ((if v120.2 = true then (some v120.1) else (some s59)).bind
    (fun s182 => spec_PlayGroup_j1 s54 v120 s182))))
def spec_PlayGroup_j2 (s184 : List Bool) (s189 : Group)  : Option (Group × (List Bool) × Bool) := ((spec_l11Own s189).bind fun v205 => (some (v205, s184, true)))
def spec_PlayGroup (k : Nat) (replicas_0 : Int) (l_1 : List IsrStep) : Option (Group × (List Bool) × Bool) := ((spec_NewGroup k replicas_0).bind fun v5 => (if ((!v5.2) || (decide
    ((100 : Int) < (List.length l_1 : Int)))) = true then (some ((Group.mk 0 0 [] 0 []), [],
    false)) else (jn (rangeL (fun i68 x69 s183 => spec_PlayGroup_b1 k i68 x69 s183.1 s183.2) l_1 (([],
    v5.1) : (List Bool) × Group)) (fun s223 => spec_PlayGroup_j2 s223.1 s223.2))))

/-- laws.szIsrStepS -/
def laws_szIsrStepS (a_0 : List IsrStep) (left_1 : Int) : Option Int := (if (decide ((IntKind.wrap .i64 (left_1 - (List.length a_0 : Int))) < 0)) = true then (some (-1)) else
    (some (IntKind.wrap .i64 (left_1 - (List.length a_0 : Int)))))

/-- laws.toIsrStep -/
def laws_toIsrStep (a_0 : IsrStep) : IsrStep := a_0

/-- laws.toIsrStepS -/
def laws_toIsrStepS_b1 (a_0 : List IsrStep) (s14 : Int) (s15 : List IsrStep) : Option (Oc (Int × (List IsrStep)) (List IsrStep)) := (if (decide (s14 <
    (List.length a_0 : Int))) = true then ((geti a_0 s14).bind fun x40 => ((geti s15 s14).bind fun x43 => (some (.nxt ((IntKind.wrap .i64 (s14 + 1)),
    (List.set s15 s14.toNat (laws_toIsrStep x40))))))) else (some (.brk (s14, s15))))
def laws_toIsrStepS_j1 (s56 : Int) (s57 : List IsrStep)  : Option (List IsrStep) := (some s57)
def laws_toIsrStepS (k : Nat) (a_0 : List IsrStep) : Option (List IsrStep) := ((mkN 24 (List.length a_0 : Int) (IsrStep.mk (0 : Int) (0 : Int) (0 : Int))).bind fun l1 => (jn
    (loopF (fun s55 => laws_toIsrStepS_b1 a_0 s55.1 s55.2) k (0, l1)) (fun s66 => laws_toIsrStepS_j1 s66.1 s66.2)))

/-- laws.eqBoolS -/
def laws_eqBoolS_b1 (a_0 : List Bool) (b_1 : List Bool) (s3 : Int) : Option (Oc Int Bool) := (if (decide (s3 < (List.length a_0 : Int))) = true then
    ((geti a_0 s3).bind fun x26 => ((geti b_1 s3).bind fun x29 => (if (!(x26 == x29)) = true then (some (.ret false)) else (some (.nxt (IntKind.wrap .i64 (s3 + 1))))))) else
    (some (.brk s3)))
def laws_eqBoolS_j1 (s39 : Int)  : Option Bool := (some true)
def laws_eqBoolS (k : Nat) (a_0 : List Bool) (b_1 : List Bool) : Option Bool := (if (decide ((List.length a_0 : Int) ≠ (List.length b_1 : Int))) = true then (some false) else (jn
    (loopF (fun s38 => laws_eqBoolS_b1 a_0 b_1 s38) k 0) (fun s46 => laws_eqBoolS_j1 s46)))

/-- laws.eqIsrStep -/
def laws_eqIsrStep (a_0 : IsrStep) (b_1 : IsrStep) : Option Bool := (if (decide (a_0.Kind ≠ b_1.Kind)) = true then (some false) else (if (decide (a_0.K ≠ b_1.K)) = true then
    (some false) else (if (decide (a_0.N ≠ b_1.N)) = true then (some false) else (some true))))

/-- laws.eqIsrStepS -/
def laws_eqIsrStepS_b1 (a_0 : List IsrStep) (b_1 : List IsrStep) (s3 : Int) : Option (Oc Int Bool) := (if (decide (s3 < (List.length a_0 : Int))) = true then
    ((geti a_0 s3).bind fun x26 => ((geti b_1 s3).bind fun x29 => ((laws_eqIsrStep x26 x29).bind fun v32 => (if (!v32) = true then (some (.ret false)) else (some (.nxt
    (IntKind.wrap .i64 (s3 + 1)))))))) else (some (.brk s3)))
def laws_eqIsrStepS_j1 (s42 : Int)  : Option Bool := (some true)
def laws_eqIsrStepS (k : Nat) (a_0 : List IsrStep) (b_1 : List IsrStep) : Option Bool := (if (decide ((List.length a_0 : Int) ≠ (List.length b_1 : Int))) = true then
    (some false) else (jn (loopF (fun s41 => laws_eqIsrStepS_b1 a_0 b_1 s41) k 0) (fun s49 => laws_eqIsrStepS_j1 s49)))

/-- laws.markIsrStepS -/
def laws_markIsrStepS_b1 (s6 : Int) (s7 : Int) (s8 : List IsrStep) : Option (Oc (Int × Int × (List IsrStep)) (Int × (List IsrStep))) := (if (decide (s7 <
    (List.length s8 : Int))) = true then ((geti s8 s7).bind fun x33 => (some (.nxt ((IntKind.wrap .i64 ((IntKind.wrap .i64 ((IntKind.wrap .i64 (s6 + 1)) + 1)) + 1)),
    (IntKind.wrap .i64 (s7 + 1)), (List.set s8 s7.toNat (IsrStep.mk s6 (IntKind.wrap .i64 (s6 + 1)) (IntKind.wrap .i64 ((IntKind.wrap .i64 (s6 + 1)) + 1)))))))) else (some (.brk
    (s6, s7, s8))))
def laws_markIsrStepS_j1 (s56 : Int) (s57 : Int) (s58 : List IsrStep)  : Option (Int × (List IsrStep)) := (some (s56, s58))
def laws_markIsrStepS (k : Nat) (a_0 : List IsrStep) (k_1 : Int) : Option (Int × (List IsrStep)) := (jn (loopF (fun s55 => laws_markIsrStepS_b1 s55.1 s55.2.1 s55.2.2) k (k_1, 0,
    a_0)) (fun s67 => laws_markIsrStepS_j1 s67.1 s67.2.1 s67.2.2))

/-- laws.markBoolS -/
def laws_markBoolS_b1 (s6 : Int) (s7 : Int) (s8 : List Bool) : Option (Oc (Int × Int × (List Bool)) (Int × (List Bool))) := (if (decide (s7 < (List.length s8 : Int))) = true then
    ((geti s8 s7).bind fun x33 => (some (.nxt ((IntKind.wrap .i64 (s6 + 1)), (IntKind.wrap .i64 (s7 + 1)),
    (List.set s8 s7.toNat (decide ((Int.tmod s6 3) = 0))))))) else (some (.brk (s6, s7, s8))))
def laws_markBoolS_j1 (s46 : Int) (s47 : Int) (s48 : List Bool)  : Option (Int × (List Bool)) := (some (s46, s48))
def laws_markBoolS (k : Nat) (a_0 : List Bool) (k_1 : Int) : Option (Int × (List Bool)) := (jn (loopF (fun s45 => laws_markBoolS_b1 s45.1 s45.2.1 s45.2.2) k (k_1, 0,
    a_0)) (fun s57 => laws_markBoolS_j1 s57.1 s57.2.1 s57.2.2))

/-- laws.heldBoolS -/
def laws_heldBoolS_b1 (a_0 : List Bool) (s3 : Int) (s4 : Int) : Option (Oc (Int × Int) Int) := (if (decide (s4 < (List.length a_0 : Int))) = true then
    ((geti a_0 s4).bind fun x27 => (if (!(x27 == (decide ((Int.tmod s3 3) = 0)))) = true then (some (.ret (-1))) else (some (.nxt ((IntKind.wrap .i64 (s3 + 1)),
    (IntKind.wrap .i64 (s4 + 1))))))) else (some (.brk (s3, s4))))
def laws_heldBoolS_j1 (s37 : Int) (s38 : Int)  : Option Int := (some s37)
def laws_heldBoolS (k : Nat) (a_0 : List Bool) (k_1 : Int) : Option Int := (jn (loopF (fun s36 => laws_heldBoolS_b1 a_0 s36.1 s36.2) k (k_1,
    0)) (fun s45 => laws_heldBoolS_j1 s45.1 s45.2))

/-- laws.FnExactPlayGroup -/
def laws_FnExactPlayGroup (k : Nat) (v_0 : Int) (v_1 : List IsrStep) : Option Bool := ((laws_szIsrStepS v_1 1048576).bind fun v1 => (if (decide (v1 < 0)) = true then
    (some true) else ((laws_toIsrStepS k v_1).bind fun v5 => ((spec_PlayGroup k v_0 v5).bind fun v17 => ((laws_toIsrStepS k v_1).bind fun v45 =>
    ((impl_PlayGroup k v_0 v45).bind fun v57 => ((laws_eqGroup k v57.1 v17.1).bind fun v85 => ((if (!v85) = true then (some true) else
    ((laws_eqBoolS k v57.2.1 v17.2.1).bind fun v91 => (some (!v91)))).bind fun v91 => (if (v91 || (!(v57.2.2 == v17.2.2))) = true then (some false) else
    ((laws_toIsrStepS k v_1).bind fun v129 => ((laws_eqIsrStepS k v45 v129).bind fun v141 => (if (!v141) = true then (some false) else
    ((laws_markIsrStepS k v45 1).bind fun v145 => ((if (decide (v145.1 < 0)) = true then (some true) else ((laws_eqGroup k v57.1 v17.1).bind fun v155 => (some
    (!v155)))).bind fun v155 => ((if v155 = true then (some true) else ((laws_eqBoolS k v57.2.1 v17.2.1).bind fun v178 => (some (!v178)))).bind fun v178 => (if (v178 ||
    (!(v57.2.2 == v17.2.2))) = true then (some false) else ((laws_markGroup k v57.1 1).bind fun v213 => ((laws_markBoolS k v57.2.1 v213.1).bind fun v222 => ((laws_heldGroup k
    (Group.mk v57.1.Epoch v57.1.Leader v213.2.InStep v57.1.High v213.2.Replicas) 1).bind fun v229 => (if (decide (v229 < 0)) = true then (some false) else
    ((laws_heldBoolS k v222.2 v229).bind fun v233 => (if (decide (v233 < 0)) = true then (some false) else (if (decide (v233 ≠ v222.1)) = true then (some false) else
    ((laws_toIsrStepS k v_1).bind fun v238 => ((impl_PlayGroup k v_0 v238).bind fun v250 => ((laws_eqGroup k v250.1 v17.1).bind fun v278 => ((if (!v278) = true then
    (some true) else ((laws_eqBoolS k v250.2.1 v17.2.1).bind fun v284 => (some (!v284)))).bind fun v284 => (if (v284 || (!(v250.2.2 == v17.2.2))) = true then (some false) else
    ((laws_heldGroup k (Group.mk v57.1.Epoch v57.1.Leader v213.2.InStep v57.1.High v213.2.Replicas) 1).bind fun v312 => (if (decide (v312 < 0)) = true then (some false) else
    ((laws_heldBoolS k v222.2 v312).bind fun v316 => (if (decide (v316 < 0)) = true then (some false) else (if (decide (v316 ≠ v222.1)) = true then (some false) else
    (some true))))))))))))))))))))))))))))))))))
end Go.Proofs.Ytefgfcalgjmhjaa.X
