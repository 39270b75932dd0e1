/- The seat's types and functions, as plain Lean has them. -/
import Derived.Test.YtddkoiapboeemaaZIns
set_option linter.unusedVariables false
set_option linter.unusedSimpArgs false
set_option maxRecDepth 100000
namespace Go.Proofs.Ytddkoiapboeemaa.X
open Go
open Nat (reduceEqDiff)
structure BoundsError where
  x : Int
  y : Int
  signed : Bool
  code : Int
  deriving DecidableEq, Inhabited
def BoundsError.cells (x : BoundsError) : List XV := [.int .i64 x.x, .int .i64 x.y, .bool x.signed, .int .u8 x.code]
structure Call where
  Client : Int
  Object : Int
  Write : Bool
  Value : Int
  Begin : Int
  End : Int
  deriving DecidableEq, Inhabited
def Call.cells (x : Call) : List XV := [.int .i64 x.Client, .int .i64 x.Object, .bool x.Write, .int .i64 x.Value, .int .i64 x.Begin, .int .i64 x.End]
structure L1Cur where
  code : List Int
  at_ : Int
  seed : Int
  deriving DecidableEq, Inhabited
def L1Cur.cells (x : L1Cur) : List XV := [lst cU8 x.code, .int .i64 x.at_, .int .u64 x.seed]

/-- slices.Sort[[]int,int] -/
def slices_Sort_int (s_0 : List Int) : Option (List Int) := srtN s_0

/-- laws.szCallS -/
def laws_szCallS (a_0 : List Call) (left_1 : Int) : Option Int := (if (decide ((IntKind.wrap .i64 (left_1 - (List.length a_0 : Int))) < 0)) = true then (some (-1)) else (some
    (IntKind.wrap .i64 (left_1 - (List.length a_0 : Int)))))

/-- laws.toCall -/
def laws_toCall (a_0 : Call) : Call := a_0

/-- laws.toCallS -/
def laws_toCallS_b1 (a_0 : List Call) (s14 : Int) (s15 : List Call) : Option (Oc (Int × (List Call)) (List Call)) := (if (decide (s14 < (List.length a_0 : Int))) = true then
    ((geti a_0 s14).bind fun x40 => ((geti s15 s14).bind fun x43 => (some (.nxt ((IntKind.wrap .i64 (s14 + 1)),
    (List.set s15 s14.toNat (laws_toCall x40))))))) else (some (.brk (s14, s15))))
def laws_toCallS_j1 (s56 : Int) (s57 : List Call)  : Option (List Call) := (some s57)
def laws_toCallS (k : Nat) (a_0 : List Call) : Option (List Call) := ((mkN 48 (List.length a_0 : Int) (Call.mk (0 : Int) (0 : Int) false (0 : Int) (0 : Int)
    (0 : Int))).bind fun l1 => (jn (loopF (fun s55 => laws_toCallS_b1 a_0 s55.1 s55.2) k (0, l1)) (fun s66 => laws_toCallS_j1 s66.1 s66.2)))

/-- laws.eqCall -/
def laws_eqCall (a_0 : Call) (b_1 : Call) : Option Bool := (if (decide (a_0.Client ≠ b_1.Client)) = true then (some false) else (if (decide (a_0.Object ≠ b_1.Object)) = true then
    (some false) else (if (!(a_0.Write == b_1.Write)) = true then (some false) else (if (decide (a_0.Value ≠ b_1.Value)) = true then (some false) else (if (decide
    (a_0.Begin ≠ b_1.Begin)) = true then (some false) else (if (decide (a_0.End ≠ b_1.End)) = true then (some false) else (some true)))))))

/-- laws.eqCallS -/
def laws_eqCallS_b1 (a_0 : List Call) (b_1 : List Call) (s3 : Int) : Option (Oc Int Bool) := (if (decide (s3 < (List.length a_0 : Int))) = true then
    ((geti a_0 s3).bind fun x26 => ((geti b_1 s3).bind fun x29 => ((laws_eqCall x26 x29).bind fun v32 => (if (!v32) = true then (some (.ret false)) else (some (.nxt
    (IntKind.wrap .i64 (s3 + 1)))))))) else (some (.brk s3)))
def laws_eqCallS_j1 (s42 : Int)  : Option Bool := (some true)
def laws_eqCallS (k : Nat) (a_0 : List Call) (b_1 : List Call) : Option Bool := (if (decide ((List.length a_0 : Int) ≠ (List.length b_1 : Int))) = true then (some false) else (jn
    (loopF (fun s41 => laws_eqCallS_b1 a_0 b_1 s41) k 0) (fun s49 => laws_eqCallS_j1 s49)))

/-- laws.eqIntS -/
def laws_eqIntS_b1 (a_0 : List Int) (b_1 : List Int) (s3 : Int) : Option (Oc Int Bool) := (if (decide (s3 < (List.length a_0 : Int))) = true then ((geti a_0 s3).bind fun x26 =>
    ((geti b_1 s3).bind fun x29 => (if (decide (x26 ≠ x29)) = true then (some (.ret false)) else (some (.nxt (IntKind.wrap .i64 (s3 + 1))))))) else (some (.brk s3)))
def laws_eqIntS_j1 (s39 : Int)  : Option Bool := (some true)
def laws_eqIntS (k : Nat) (a_0 : List Int) (b_1 : List Int) : Option Bool := (if (decide ((List.length a_0 : Int) ≠ (List.length b_1 : Int))) = true then (some false) else (jn
    (loopF (fun s38 => laws_eqIntS_b1 a_0 b_1 s38) k 0) (fun s46 => laws_eqIntS_j1 s46)))

/-- laws.toIntS -/
def laws_toIntS_b1 (a_0 : List Int) (s14 : Int) (s15 : List Int) : Option (Oc (Int × (List Int)) (List Int)) := (if (decide (s14 < (List.length a_0 : Int))) = true then
    ((geti a_0 s14).bind fun x40 => ((geti s15 s14).bind fun x43 => (some (.nxt ((IntKind.wrap .i64 (s14 + 1)), (List.set s15 s14.toNat x40)))))) else (some (.brk (s14, s15))))
def laws_toIntS_j1 (s56 : Int) (s57 : List Int)  : Option (List Int) := (some s57)
def laws_toIntS (k : Nat) (a_0 : List Int) : Option (List Int) := ((mkN 8 (List.length a_0 : Int) (0 : Int)).bind fun l1 => (jn (loopF
    (fun s55 => laws_toIntS_b1 a_0 s55.1 s55.2) k (0, l1)) (fun s66 => laws_toIntS_j1 s66.1 s66.2)))

/-- spec.l1In -/
def spec_l1In (n_0 : Int) (lo_1 : Int) (hi_2 : Int) : Bool := ((decide (lo_1 ≤ n_0)) && (decide (n_0 ≤ hi_2)))

/-- spec.l15Call -/
def spec_l15Call (x_0 : Call) : Bool := (((((((spec_l1In x_0.Client 0 3) && (spec_l1In x_0.Object 0 2)) && (spec_l1In x_0.Value 0 9)) && ((!x_0.Write) || (decide
    ((0 : Int) < x_0.Value)))) && (spec_l1In x_0.Begin 0 100)) && (spec_l1In x_0.End 0 100)) && (decide (x_0.Begin < x_0.End)))

/-- spec.GoodCalls -/
def spec_GoodCalls_b1 (x2 : Call) (i38 : Nat) (x39 : Call) : Option (Oc Unit (Oc Unit Bool)) := (if (((decide (x39.Client = x2.Client)) && (decide (x2.Begin < x39.End))) &&
    (decide (x39.Begin < x2.End))) = true then (some (.ret (.ret false))) else (some (.nxt ())))
def spec_GoodCalls_j1  : Option (Oc Unit Bool) := (some (.nxt ()))
def spec_GoodCalls_b2 (l_0 : List Call) (i1 : Nat) (x2 : Call) : Option (Oc Unit Bool) := (if (!(spec_l15Call x2)) = true then (some (.ret false)) else ((sl l_0 0
    (i1 : Int)).bind fun l35 => (jn (rangeL (fun i38 x39 _ => spec_GoodCalls_b1 x2 i38 x39 ) l35 ()) (fun _ => spec_GoodCalls_j1 ))))
def spec_GoodCalls_j2 (l_0 : List Call)  : Option Bool := (some (decide ((List.length l_0 : Int) ≤ 7)))
def spec_GoodCalls (l_0 : List Call) : Option Bool := (jn (rangeL (fun i1 x2 _ => spec_GoodCalls_b2 l_0 i1 x2 ) l_0 ()) (fun _ => spec_GoodCalls_j2 l_0 ))

/-- spec.l1Has -/
def spec_l1Has_b1 (n_1 : Int) (i1 : Nat) (x2 : Int) : Option (Oc Unit Bool) := (if (decide (x2 = n_1)) = true then (some (.ret true)) else (some (.nxt ())))
def spec_l1Has_j1  : Option Bool := (some false)
def spec_l1Has (l_0 : List Int) (n_1 : Int) : Option Bool := (jn (rangeL (fun i1 x2 _ => spec_l1Has_b1 n_1 i1 x2 ) l_0 ()) (fun _ => spec_l1Has_j1 ))

/-- spec.l15Order -/
def spec_l15Order_b1 (n_0 : Int) (order_1 : List Int) (i1 : Nat) (x2 : Int) : Option (Oc Unit Bool) := ((if ((decide (x2 < 0)) || (decide (n_0 ≤ x2))) = true then
    (some true) else ((sl order_1 0 (i1 : Int)).bind fun l41 => ((spec_l1Has l41 x2).bind fun v44 => (some v44)))).bind fun v41 => (if v41 = true then (some (.ret false)) else
    (some (.nxt ()))))
def spec_l15Order_j1 (n_0 : Int) (order_1 : List Int)  : Option Bool := (some (decide ((List.length order_1 : Int) = n_0)))
def spec_l15Order (n_0 : Int) (order_1 : List Int) : Option Bool := (jn (rangeL (fun i1 x2 _ => spec_l15Order_b1 n_0 order_1 i1 x2 ) order_1 ())
    (fun _ => spec_l15Order_j1 n_0 order_1 ))

/-- spec.l15Legal -/
def spec_l15Legal_b1 (l_0 : List Call) (i16 : Nat) (x17 : Int) (s13 : List Int) : Option (Oc (List Int) Bool) := ((geti l_0 x17).bind fun x39 => (if x39.Write = true then
    ((geti s13 x39.Object).bind fun x51 => (some (.nxt (List.set s13 x39.Object.toNat x39.Value)))) else ((geti s13 x39.Object).bind fun x62 => (if (decide
    (x62 ≠ x39.Value)) = true then (some (.ret false)) else (some (.nxt s13))))))
def spec_l15Legal_j1 (s73 : List Int)  : Option Bool := (some true)
def spec_l15Legal (l_0 : List Call) (order_1 : List Int) : Option Bool := ((mkN 8 3 (0 : Int)).bind fun l1 => (jn (rangeL
    (fun i16 x17 s72 => spec_l15Legal_b1 l_0 i16 x17 s72) order_1 l1) (fun s82 => spec_l15Legal_j1 s82)))

/-- spec.IsLegal -/
def spec_IsLegal (l_0 : List Call) (order_1 : List Int) : Option (Bool × Bool) := ((spec_GoodCalls l_0).bind fun v1 => ((if (!v1) = true then (some true) else ((spec_l15Order
    (List.length l_0 : Int) order_1).bind fun v7 => (some (!v7)))).bind fun v7 => (if v7 = true then (some (false,
    false)) else ((spec_l15Legal l_0 order_1).bind fun v22 => (some (v22, true))))))

/-- impl.in -/
def impl_in (n_0 : Int) (low_1 : Int) (high_2 : Int) : Bool := ((decide (low_1 ≤ n_0)) && (decide (n_0 ≤ high_2)))

/-- impl.areCalls -/
def impl_areCalls_b1 (x2 : Call) (i125 : Nat) (x126 : Call) : Option (Oc Unit (Oc Unit Bool)) := (if (((decide (x2.Client = x126.Client)) && (decide (x126.Begin < x2.End))) &&
    (decide (x2.Begin < x126.End))) = true then (some (.ret (.ret false))) else (some (.nxt ())))
def impl_areCalls_j2  : Option (Oc Unit Bool) := (some (.nxt ()))
def impl_areCalls_j1 (v_0 : List Call) (i1 : Nat) (x2 : Call) (s31 : Int)  : Option (Oc Unit Bool) := (if ((((((!(impl_in x2.Client 0 3)) || (!(impl_in x2.Object 0 2))) ||
    (!(impl_in x2.Value s31 9))) || (!(impl_in x2.Begin 0 100))) || (!(impl_in x2.End 0 100))) || (decide (x2.End ≤ x2.Begin))) = true then (some (.ret false)) else ((sl v_0 0
    (i1 : Int)).bind fun l122 => (jn (rangeL (fun i125 x126 _ => impl_areCalls_b1 x2 i125 x126 ) l122 ()) (fun _ => impl_areCalls_j2 ))))
def impl_areCalls_b2 (v_0 : List Call) (i1 : Nat) (x2 : Call) : Option (Oc Unit Bool) := ((if x2.Write = true then (some 1) else (some 0)).bind
    (fun s210 => impl_areCalls_j1 v_0 i1 x2 s210))
def impl_areCalls_j3 (v_0 : List Call)  : Option Bool := (some (decide ((List.length v_0 : Int) ≤ 7)))
def impl_areCalls (v_0 : List Call) : Option Bool := (jn (rangeL (fun i1 x2 _ => impl_areCalls_b2 v_0 i1 x2 ) v_0 ()) (fun _ => impl_areCalls_j3 v_0 ))

/-- impl.areMembers -/
def impl_areMembers_b1 (list_0 : List Int) (many_1 : Int) (i1 : Nat) (x2 : Int) : Option (Oc Unit Bool) := ((if (!(impl_in x2 0 (IntKind.wrap .i64 (many_1 - 1)))) = true then
    (some true) else ((if (decide ((0 : Int) < (i1 : Int))) = true then ((geti list_0 (IntKind.wrap .i64 ((i1 : Int) - 1))).bind fun x30 => (some (decide (x2 ≤ x30)))) else
    (some false)).bind fun v30 => (some v30))).bind fun v27 => (if v27 = true then (some (.ret false)) else (some (.nxt ()))))
def impl_areMembers_j1  : Option Bool := (some true)
def impl_areMembers (list_0 : List Int) (many_1 : Int) : Option Bool := (jn (rangeL (fun i1 x2 _ => impl_areMembers_b1 list_0 many_1 i1 x2 ) list_0 ())
    (fun _ => impl_areMembers_j1 ))

/-- impl.isOrder -/
def impl_isOrder (l_0 : List Call) (order_1 : List Int) : Option Bool := ((appN 8 ([] : List Int) order_1).bind fun l7 => ((slices_Sort_int l7).bind fun v16 => ((if (decide
    ((List.length order_1 : Int) = (List.length l_0 : Int))) = true then ((impl_areMembers v16 (List.length l_0 : Int)).bind fun v26 => (some v26)) else
    (some false)).bind fun v26 => (some v26))))

/-- impl.isLegal -/
def impl_isLegal_b1 (l_0 : List Call) (i11 : Nat) (x12 : Int) (s10 : List Int) : Option (Oc (List Int) Bool) := ((geti l_0 x12).bind fun x34 => (if x34.Write = true then
    ((geti s10 x34.Object).bind fun x46 => (ck (x34.Object < 3) (some (.nxt (List.set s10 x34.Object.toNat x34.Value))))) else ((geti s10 x34.Object).bind fun x55 => (ck
    (x34.Object < 3) (if (decide (x55 ≠ x34.Value)) = true then (some (.ret false)) else (some (.nxt s10)))))))
def impl_isLegal_j1 (s66 : List Int)  : Option Bool := (some true)
def impl_isLegal (l_0 : List Call) (order_1 : List Int) : Option Bool := (jn (rangeL (fun i11 x12 s65 => impl_isLegal_b1 l_0 i11 x12 s65) order_1 [(0 : Int), (0 : Int),
    (0 : Int)]) (fun s73 => impl_isLegal_j1 s73))

/-- impl.IsLegal -/
def impl_IsLegal (l_0 : List Call) (order_1 : List Int) : Option (Bool × Bool) := ((impl_areCalls l_0).bind fun v1 => ((if (!v1) = true then (some true) else
    ((impl_isOrder l_0 order_1).bind fun v7 => (some (!v7)))).bind fun v7 => (if v7 = true then (some (false, false)) else ((impl_isLegal l_0 order_1).bind fun v22 => (some (v22,
    true))))))

/-- laws.FnExactIsLegal -/
def laws_FnExactIsLegal (k : Nat) (aL_0 : List Call) (aOrder_1 : List Int) : Option Bool := (if (decide ((1048576 : Int) < (List.length aOrder_1 : Int))) = true then
    (some true) else ((laws_szCallS aL_0 1048576).bind fun v2 => (if (decide (v2 < 0)) = true then (some true) else ((laws_toCallS k aL_0).bind fun v6 =>
    ((laws_toIntS k aOrder_1).bind fun v18 => ((spec_IsLegal v6 v18).bind fun v30 => ((laws_toCallS k aL_0).bind fun v33 => ((laws_toIntS k aOrder_1).bind fun v45 =>
    ((impl_IsLegal v33 v45).bind fun v57 => (if ((!(v57.1 == v30.1)) || (!(v57.2 == v30.2))) = true then (some false) else ((laws_toCallS k aL_0).bind fun v72 =>
    ((laws_eqCallS k v33 v72).bind fun v84 => (if (!v84) = true then (some false) else ((laws_toIntS k aOrder_1).bind fun v88 => ((laws_eqIntS k v45 v88).bind fun v100 => (if
    (!v100) = true then (some false) else (some true)))))))))))))))))
end Go.Proofs.Ytddkoiapboeemaa.X
