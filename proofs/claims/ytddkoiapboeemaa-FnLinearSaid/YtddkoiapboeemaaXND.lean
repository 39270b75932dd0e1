/- The seat's types and functions, as plain Lean has them. -/
import Derived.Test.YtddkoiapboeemaaXSS
set_option linter.unusedVariables false
set_option linter.unusedSimpArgs false
set_option maxRecDepth 100000
namespace Go.Proofs.Ytddkoiapboeemaa.X
open Go
structure BoundsError where
  x : Int
  y : Int
  signed : Bool
  code : Int
  deriving DecidableEq, Inhabited
def BoundsError.cells (x : BoundsError) : List XV := [.int .i64 x.x, .int .i64 x.y, .bool x.signed, .int .u8 x.code]
structure Call where
  Client : Int
  Object : Int
  Write : Bool
  Value : Int
  Begin : Int
  End : Int
  deriving DecidableEq, Inhabited
def Call.cells (x : Call) : List XV := [.int .i64 x.Client, .int .i64 x.Object, .bool x.Write, .int .i64 x.Value, .int .i64 x.Begin, .int .i64 x.End]
structure L1Cur where
  code : List Int
  at_ : Int
  seed : Int
  deriving DecidableEq, Inhabited
def L1Cur.cells (x : L1Cur) : List XV := [lst cU8 x.code, .int .i64 x.at_, .int .u64 x.seed]

/-- impl.in -/
def impl_in (n_0 : Int) (low_1 : Int) (high_2 : Int) : Bool := ((decide (low_1 ≤ n_0)) && (decide (n_0 ≤ high_2)))

/-- impl.areCalls -/
def impl_areCalls_b1 (x2 : Call) (i125 : Nat) (x126 : Call) : Option (Oc Unit (Oc Unit Bool)) := (if (((decide (x2.Client = x126.Client)) && (decide (x126.Begin < x2.End))) &&
    (decide (x2.Begin < x126.End))) = true then (some (.ret (.ret false))) else (some (.nxt ())))
def impl_areCalls_j2  : Option (Oc Unit Bool) := (some (.nxt ()))
def impl_areCalls_j1 (v_0 : List Call) (i1 : Nat) (x2 : Call) (s31 : Int)  : Option (Oc Unit Bool) := (if ((((((!(impl_in x2.Client 0 3)) || (!(impl_in x2.Object 0 2))) ||
    (!(impl_in x2.Value s31 9))) || (!(impl_in x2.Begin 0 100))) || (!(impl_in x2.End 0 100))) || (decide (x2.End ≤ x2.Begin))) = true then (some (.ret false)) else ((sl v_0 0
    (i1 : Int)).bind fun l122 => (jn (rangeL (fun i125 x126 _ => impl_areCalls_b1 x2 i125 x126 ) l122 ()) (fun _ => impl_areCalls_j2 ))))
def impl_areCalls_b2 (v_0 : List Call) (i1 : Nat) (x2 : Call) : Option (Oc Unit Bool) := ((if x2.Write = true then (some 1) else (some 0)).bind
    (fun s210 => impl_areCalls_j1 v_0 i1 x2 s210))
def impl_areCalls_j3 (v_0 : List Call)  : Option Bool := (some (decide ((List.length v_0 : Int) ≤ 7)))
def impl_areCalls (v_0 : List Call) : Option Bool := (jn (rangeL (fun i1 x2 _ => impl_areCalls_b2 v_0 i1 x2 ) v_0 ()) (fun _ => impl_areCalls_j3 v_0 ))

/-- impl.Call] -/
def slices_IndexFunc_Call_b1 (f_1 : Call → Option Bool) (i1 : Nat) (x2 : Call) : Option (Oc Unit Int) := ((f_1 x2).bind fun v23 => (if v23 = true then (some (.ret
    (i1 : Int))) else (some (.nxt ()))))
def slices_IndexFunc_Call_j1  : Option Int := (some (-1))
def slices_IndexFunc_Call (s_0 : List Call) (f_1 : Call → Option Bool) : Option Int := (jn (rangeL (fun i1 x2 _ => slices_IndexFunc_Call_b1 f_1 i1 x2 ) s_0 ())
    (fun _ => slices_IndexFunc_Call_j1 ))

/-- impl.Call] -/
def slices_DeleteFunc_Call_b1 (del_1 : Call → Option Bool) (s10 : Int) (s11 : Int) (s12 : List Call) : Option (Oc (Int × Int × (List Call)) (List Call)) := (if (decide (s11 <
    (List.length s12 : Int))) = true then ((geti s12 s11).bind fun x38 => ((del_1 x38).bind fun v51 => (if (!v51) = true then ((geti s12 s10).bind fun x55 => (some (.nxt
    ((IntKind.wrap .i64 (s10 + 1)), (IntKind.wrap .i64 (s11 + 1)), (List.set s12 s10.toNat x38))))) else (some (.nxt (s10, (IntKind.wrap .i64 (s11 + 1)),
    s12)))))) else (some (.brk (s10, s11, s12))))
def slices_DeleteFunc_Call_j1 (s67 : Int) (s68 : Int) (s69 : List Call)  : Option (List Call) := ((clrF s69 s67 (Call.mk (0 : Int) (0 : Int) false (0 : Int) (0 : Int)
    (0 : Int))).bind fun l79 => ((sl l79 0 s67).bind fun l88 => (some l88)))
def slices_DeleteFunc_Call (k : Nat) (s_0 : List Call) (del_1 : Call → Option Bool) : Option (List Call) := ((slices_IndexFunc_Call s_0 del_1).bind fun v1 => (if (decide (v1 =
    (-1))) = true then (some s_0) else (jn (loopF (fun s66 => slices_DeleteFunc_Call_b1 del_1 s66.1 s66.2.1 s66.2.2) k (v1, (IntKind.wrap .i64 (v1 + 1)),
    s_0)) (fun s95 => slices_DeleteFunc_Call_j1 s95.1 s95.2.1 s95.2.2))))

/-- impl.OnObject$1 -/
def impl_OnObject_1 (c_0 : Call) (cap_0 : Int) : Bool := (decide (c_0.Object ≠ cap_0))

/-- impl.OnObject -/
def impl_OnObject (k : Nat) (l_0 : List Call) (object_1 : Int) : Option ((List Call) × Bool) := ((impl_areCalls l_0).bind fun v7 => (if ((!v7) ||
    (!(impl_in object_1 0 2))) = true then (some ([],
    false)) else ((appN 48 ([] : List Call) l_0).bind fun l26 => ((slices_DeleteFunc_Call k l26 (fun a0 => some (impl_OnObject_1 a0 object_1))).bind fun v35 => (some (v35,
    true))))))

/-- spec.l1In -/
def spec_l1In (n_0 : Int) (lo_1 : Int) (hi_2 : Int) : Bool := ((decide (lo_1 ≤ n_0)) && (decide (n_0 ≤ hi_2)))

/-- spec.l15Call -/
def spec_l15Call (x_0 : Call) : Bool := (((((((spec_l1In x_0.Client 0 3) && (spec_l1In x_0.Object 0 2)) && (spec_l1In x_0.Value 0 9)) && ((!x_0.Write) || (decide
    ((0 : Int) < x_0.Value)))) && (spec_l1In x_0.Begin 0 100)) && (spec_l1In x_0.End 0 100)) && (decide (x_0.Begin < x_0.End)))

/-- spec.GoodCalls -/
def spec_GoodCalls_b1 (x2 : Call) (i38 : Nat) (x39 : Call) : Option (Oc Unit (Oc Unit Bool)) := (if (((decide (x39.Client = x2.Client)) && (decide (x2.Begin < x39.End))) &&
    (decide (x39.Begin < x2.End))) = true then (some (.ret (.ret false))) else (some (.nxt ())))
def spec_GoodCalls_j1  : Option (Oc Unit Bool) := (some (.nxt ()))
def spec_GoodCalls_b2 (l_0 : List Call) (i1 : Nat) (x2 : Call) : Option (Oc Unit Bool) := (if (!(spec_l15Call x2)) = true then (some (.ret false)) else ((sl l_0 0
    (i1 : Int)).bind fun l35 => (jn (rangeL (fun i38 x39 _ => spec_GoodCalls_b1 x2 i38 x39 ) l35 ()) (fun _ => spec_GoodCalls_j1 ))))
def spec_GoodCalls_j2 (l_0 : List Call)  : Option Bool := (some (decide ((List.length l_0 : Int) ≤ 7)))
def spec_GoodCalls (l_0 : List Call) : Option Bool := (jn (rangeL (fun i1 x2 _ => spec_GoodCalls_b2 l_0 i1 x2 ) l_0 ()) (fun _ => spec_GoodCalls_j2 l_0 ))

/-- spec.l15Before -/
def spec_l15Before (a_0 : Call) (b_1 : Call) (clients_2 : Bool) : Option Bool := (if clients_2 = true then (some ((decide (a_0.Client = b_1.Client)) && (decide
    (a_0.Begin < b_1.Begin)))) else (some (decide (a_0.End ≤ b_1.Begin))))

/-- spec.l15Legal -/
def spec_l15Legal_b1 (l_0 : List Call) (i16 : Nat) (x17 : Int) (s13 : List Int) : Option (Oc (List Int) Bool) := ((geti l_0 x17).bind fun x39 => (if x39.Write = true then
    ((geti s13 x39.Object).bind fun x51 => (some (.nxt (List.set s13 x39.Object.toNat x39.Value)))) else ((geti s13 x39.Object).bind fun x62 => (if (decide
    (x62 ≠ x39.Value)) = true then (some (.ret false)) else (some (.nxt s13))))))
def spec_l15Legal_j1 (s73 : List Int)  : Option Bool := (some true)
def spec_l15Legal (l_0 : List Call) (order_1 : List Int) : Option Bool := ((mkN 8 3 (0 : Int)).bind fun l1 => (jn (rangeL
    (fun i16 x17 s72 => spec_l15Legal_b1 l_0 i16 x17 s72) order_1 l1) (fun s82 => spec_l15Legal_j1 s82)))

/-- spec.l1Has -/
def spec_l1Has_b1 (n_1 : Int) (i1 : Nat) (x2 : Int) : Option (Oc Unit Bool) := (if (decide (x2 = n_1)) = true then (some (.ret true)) else (some (.nxt ())))
def spec_l1Has_j1  : Option Bool := (some false)
def spec_l1Has (l_0 : List Int) (n_1 : Int) : Option Bool := (jn (rangeL (fun i1 x2 _ => spec_l1Has_b1 n_1 i1 x2 ) l_0 ()) (fun _ => spec_l1Has_j1 ))

/-- spec.l15Find -/
def spec_l15Find_b1 (v_1 : List Int) (v_2 : Bool) (i6 : Nat) (x7 : Call) (i43 : Nat) (x44 : Call) (s42 : Bool) : Option (Oc Bool (Oc Unit (List Int))) := ((if (decide
    ((i43 : Int) ≠ (i6 : Int))) = true then ((spec_l1Has v_1 (i43 : Int)).bind fun v84 => (some (!v84))) else (some false)).bind fun v84 => ((if v84 = true then
    ((spec_l15Before x44 x7 v_2).bind fun v112 => (some v112)) else (some false)).bind fun v112 => (if v112 = true then (some (.nxt false)) else (some (.nxt s42)))))
def spec_l15Find_j1 (v_0 : List Call) (v_1 : List Int) (v_2 : Bool) (rec : (List Call) → (List Int) → Bool → Option (List Int)) (i6 : Nat) (s140 : Bool)  : Option (Oc Unit
    (List Int)) := (if (!s140) = true then (some (.nxt ())) else ((appN 8 ([] : List Int) v_1).bind fun l162 => ((appN 8 l162 [(i6 : Int)]).bind fun l177 =>
    ((rec v_0 l177 v_2).bind fun v186 => (if (decide ((0 : Int) < (List.length v186 : Int))) = true then (some (.ret v186)) else (some (.nxt ())))))))
def spec_l15Find_b2 (v_0 : List Call) (v_1 : List Int) (v_2 : Bool) (rec : (List Call) → (List Int) → Bool → Option (List Int)) (i6 : Nat) (x7 : Call) : Option (Oc Unit
    (List Int)) := ((spec_l1Has v_1 (i6 : Int)).bind fun v38 => (jn (rangeL (fun i43 x44 s139 => spec_l15Find_b1 v_1 v_2 i6 x7 i43 x44 s139) v_0 (!v38))
    (fun s200 => spec_l15Find_j1 v_0 v_1 v_2 rec i6 s200)))
def spec_l15Find_j2  : Option (List Int) := (some [])
def spec_l15Find_rec (rec : (List Call) → (List Int) → Bool → Option (List Int)) (v_0 : List Call) (v_1 : List Int) (v_2 : Bool) : Option (List Int) :=
    ((spec_l15Legal v_0 v_1).bind fun v1 => (if (!v1) = true then (some []) else (if (decide ((List.length v_1 : Int) = (List.length v_0 : Int))) = true then (some v_1) else (jn
    (rangeL (fun i6 x7 _ => spec_l15Find_b2 v_0 v_1 v_2 rec i6 x7 ) v_0 ()) (fun _ => spec_l15Find_j2 )))))
def spec_l15Find : Nat → (List Call) → (List Int) → Bool → Option (List Int)
  | 0, _, _, _ => none
  | k + 1, v_0, v_1, v_2 => spec_l15Find_rec (spec_l15Find k) v_0 v_1 v_2

/-- spec.IsSequential -/
def spec_IsSequential (k : Nat) (l_0 : List Call) : Option (Bool × Bool) := ((spec_GoodCalls l_0).bind fun v1 => (if (!v1) = true then (some (false,
    false)) else ((spec_l15Find k l_0 [] true).bind fun v5 => (some ((decide ((List.length v5 : Int) = (List.length l_0 : Int))), true)))))

/-- impl.inOrder -/
def impl_inOrder_b1 (may_1 : Int → Int → Option Bool) (x2 : Int) (i27 : Nat) (x28 : Int) : Option (Oc Unit (Oc Unit Bool)) := ((may_1 x28 x2).bind fun v54 => (if
    (!v54) = true then (some (.ret (.ret false))) else (some (.nxt ()))))
def impl_inOrder_j1  : Option (Oc Unit Bool) := (some (.nxt ()))
def impl_inOrder_b2 (order_0 : List Int) (may_1 : Int → Int → Option Bool) (i1 : Nat) (x2 : Int) : Option (Oc Unit Bool) := ((sl order_0 0 (i1 : Int)).bind fun l24 => (jn (rangeL
    (fun i27 x28 _ => impl_inOrder_b1 may_1 x2 i27 x28 ) l24 ()) (fun _ => impl_inOrder_j1 )))
def impl_inOrder_j2  : Option Bool := (some true)
def impl_inOrder (order_0 : List Int) (may_1 : Int → Int → Option Bool) : Option Bool := (jn (rangeL (fun i1 x2 _ => impl_inOrder_b2 order_0 may_1 i1 x2 ) order_0 ())
    (fun _ => impl_inOrder_j2 ))

/-- impl.isLegal -/
def impl_isLegal_b1 (l_0 : List Call) (i11 : Nat) (x12 : Int) (s10 : List Int) : Option (Oc (List Int) Bool) := ((geti l_0 x12).bind fun x34 => (if x34.Write = true then
    ((geti s10 x34.Object).bind fun x46 => (ck (x34.Object < 3) (some (.nxt (List.set s10 x34.Object.toNat x34.Value))))) else ((geti s10 x34.Object).bind fun x55 => (ck
    (x34.Object < 3) (if (decide (x55 ≠ x34.Value)) = true then (some (.ret false)) else (some (.nxt s10)))))))
def impl_isLegal_j1 (s66 : List Int)  : Option Bool := (some true)
def impl_isLegal (l_0 : List Call) (order_1 : List Int) : Option Bool := (jn (rangeL (fun i11 x12 s65 => impl_isLegal_b1 l_0 i11 x12 s65) order_1 [(0 : Int), (0 : Int),
    (0 : Int)]) (fun s73 => impl_isLegal_j1 s73))

/-- slices.Index[[]int,int] -/
def slices_Index_int_b1 (v_1 : Int) (i1 : Nat) (x2 : Int) : Option (Oc Unit Int) := (if (decide (v_1 = x2)) = true then (some (.ret (i1 : Int))) else (some (.nxt ())))
def slices_Index_int_j1  : Option Int := (some (-1))
def slices_Index_int (s_0 : List Int) (v_1 : Int) : Option Int := (jn (rangeL (fun i1 x2 _ => slices_Index_int_b1 v_1 i1 x2 ) s_0 ()) (fun _ => slices_Index_int_j1 ))

/-- slices.Contains[[]int,int] -/
def slices_Contains_int (s_0 : List Int) (v_1 : Int) : Option Bool := ((slices_Index_int s_0 v_1).bind fun v1 => (some (decide ((0 : Int) ≤ v1))))

/-- impl.orderFor$1 -/
def impl_orderFor_1_b1 (order_0 : List Int) (cap_0 : List Call) (cap_1 : Int → Int → Option Bool) (rec : (List Int) → (List Call) → (Int → Int → Option Bool) → Option
    ((List Int) × Bool)) (i2 : Nat) : Option (Oc Unit ((List Int) × Bool)) := ((appN 8 ([] : List Int) order_0).bind fun l32 => ((appN 8 l32 [(i2 : Int)]).bind fun l47 =>
    ((slices_Contains_int order_0 (i2 : Int)).bind fun v56 => ((if v56 = true then (some true) else ((impl_isLegal cap_0 l47).bind fun v62 => (some (!v62)))).bind fun v62 =>
    ((if v62 = true then (some true) else ((impl_inOrder l47 cap_1).bind fun v84 => (some (!v84)))).bind fun v84 => (if v84 = true then (some (.nxt ())) else
    ((rec l47 cap_0 cap_1).bind fun v105 => (if v105.2 = true then (some (.ret (v105.1, true))) else (some (.nxt ()))))))))))
def impl_orderFor_1_j1  : Option ((List Int) × Bool) := (some ([], false))
def impl_orderFor_1_rec (rec : (List Int) → (List Call) → (Int → Int → Option Bool) → Option ((List Int) × Bool)) (order_0 : List Int) (cap_0 : List Call)
    (cap_1 : Int → Int → Option Bool) : Option ((List Int) × Bool) := (if (decide ((List.length order_0 : Int) = (List.length cap_0 : Int))) = true then (some (order_0,
    true)) else (jn (rangeI (fun i2 _ => impl_orderFor_1_b1 order_0 cap_0 cap_1 rec i2 ) (List.length cap_0 : Int) ()) (fun _ => impl_orderFor_1_j1 )))
def impl_orderFor_1 : Nat → (List Int) → (List Call) → (Int → Int → Option Bool) → Option ((List Int) × Bool)
  | 0, _, _, _ => none
  | k + 1, order_0, cap_0, cap_1 => impl_orderFor_1_rec (impl_orderFor_1 k) order_0 cap_0 cap_1

/-- impl.orderFor -/
def impl_orderFor (k : Nat) (l_0 : List Call) (may_1 : Int → Int → Option Bool) : Option ((List Int) × Bool) := ((impl_orderFor_1 k ([] : List Int) l_0 may_1).bind fun v25 =>
    (some (v25.1, v25.2)))

/-- impl.IsSequential$1 -/
def impl_IsSequential_1 (a_0 : Int) (b_1 : Int) (cap_0 : List Call) : Option Bool := ((geti cap_0 a_0).bind fun x1 => ((geti cap_0 b_1).bind fun x4 => ((if (decide
    (x1.Client ≠ x4.Client)) = true then (some true) else ((geti cap_0 a_0).bind fun x10 => ((geti cap_0 b_1).bind fun x13 => (some (decide
    (x10.Begin < x13.Begin)))))).bind fun v10 => (some v10))))

/-- impl.IsSequential -/
def impl_IsSequential (k : Nat) (l_0 : List Call) : Option (Bool × Bool) := ((impl_areCalls l_0).bind fun v7 => (if (!v7) = true then (some (false,
    false)) else ((impl_orderFor k l_0 (fun a0 a1 => impl_IsSequential_1 a0 a1 l_0)).bind fun v11 => (some (v11.2, true)))))

/-- spec.IsLinear -/
def spec_IsLinear (k : Nat) (l_0 : List Call) : Option (Bool × Bool) := ((spec_GoodCalls l_0).bind fun v1 => (if (!v1) = true then (some (false,
    false)) else ((spec_l15Find k l_0 [] false).bind fun v5 => (some ((decide ((List.length v5 : Int) = (List.length l_0 : Int))), true)))))

/-- impl.byTime$1 -/
def impl_byTime_1 (a_0 : Int) (b_1 : Int) (cap_0 : List Call) : Option Bool := ((geti cap_0 b_1).bind fun x1 => ((geti cap_0 a_0).bind fun x4 => (some (decide
    (x4.Begin < x1.End)))))



/-- impl.IsLinear -/
def impl_IsLinear (k : Nat) (l_0 : List Call) : Option (Bool × Bool) := ((impl_areCalls l_0).bind fun v1 => (if (!v1) = true then (some (false,
    false)) else ((impl_orderFor k l_0 (fun a0 a1 => impl_byTime_1 a0 a1 l_0)).bind fun v5 => (some (v5.2, true)))))

/-- spec.OrderFor -/
def spec_OrderFor (k : Nat) (l_0 : List Call) : Option ((List Int) × Bool) := ((spec_GoodCalls l_0).bind fun v1 => (if (!v1) = true then (some ([],
    false)) else ((spec_l15Find k l_0 [] false).bind fun v5 => (if (decide ((List.length v5 : Int) ≠ (List.length l_0 : Int))) = true then (some ([], false)) else (some (v5,
    true))))))

/-- impl.OrderFor -/
def impl_OrderFor (k : Nat) (l_0 : List Call) : Option ((List Int) × Bool) := ((impl_areCalls l_0).bind fun v1 => (if (!v1) = true then (some ([],
    false)) else ((impl_orderFor k l_0 (fun a0 a1 => impl_byTime_1 a0 a1 l_0)).bind fun v5 => (some (v5.1, v5.2)))))

/-- cmp.isNaN[int] -/
def cmp_isNaN_int (x_0 : Int) : Bool := (decide (x_0 ≠ x_0))

/-- cmp.Less[int] -/
def cmp_Less_int (x_0 : Int) (y_1 : Int) : Bool := (((cmp_isNaN_int x_0) && (!(cmp_isNaN_int y_1))) || (decide (x_0 < y_1)))

/-- slices.insertionSortOrdered[int] -/
def slices_insertionSortOrdered_int_b1 (a_1 : Int) (s36 : Int) (s37 : List Int) : Option (Oc (Int × (List Int)) (Oc (Int × (List Int)) (List Int))) := (if (decide
    (a_1 < s36)) = true then ((geti s37 s36).bind fun x64 => ((geti s37 (IntKind.wrap .i64 (s36 - 1))).bind fun x69 => (if (cmp_Less_int x64 x69) = true then ((geti
    (List.set s37 s36.toNat x69) (IntKind.wrap .i64 (s36 - 1))).bind fun x78 => (some (.nxt ((IntKind.wrap .i64 (s36 - 1)),
    (List.set (List.set s37 s36.toNat x69) (IntKind.wrap .i64 (s36 - 1)).toNat x64))))) else (some (.brk (s36, s37)))))) else (some (.brk (s36, s37))))
def slices_insertionSortOrdered_int_j1 (s5 : Int) (s90 : Int) (s91 : List Int)  : Option (Oc (Int × (List Int)) (List Int)) := (some (.nxt ((IntKind.wrap .i64 (s5 + 1)), s91)))
def slices_insertionSortOrdered_int_b2 (k : Nat) (a_1 : Int) (b_2 : Int) (s5 : Int) (s6 : List Int) : Option (Oc (Int × (List Int)) (List Int)) := (if (decide
    (s5 < b_2)) = true then (jn (loopF (fun s89 => slices_insertionSortOrdered_int_b1 a_1 s89.1 s89.2) k (s5,
    s6)) (fun s103 => slices_insertionSortOrdered_int_j1 s5 s103.1 s103.2)) else (some (.brk (s5, s6))))
def slices_insertionSortOrdered_int_j2 (s106 : Int) (s107 : List Int)  : Option (List Int) := (some s107)
def slices_insertionSortOrdered_int (k : Nat) (data_0 : List Int) (a_1 : Int) (b_2 : Int) : Option (List Int) := (jn (loopF
    (fun s105 => slices_insertionSortOrdered_int_b2 k a_1 b_2 s105.1 s105.2) k ((IntKind.wrap .i64 (a_1 + 1)),
    data_0)) (fun s117 => slices_insertionSortOrdered_int_j2 s117.1 s117.2))

/-- bits.Len32 -/
def math_bits_Len32_j2 (s19 : Int) (s20 : Int)  : Option Int := ((stri (ByteArray.mk #[0, 1, 2, 2, 3, 3, 3, 3, 4, 4, 4, 4, 4, 4, 4, 4, 5, 5, 5, 5, 5, 5, 5, 5, 5, 5, 5, 5, 5, 5, 5,
    5, 6, 6, 6, 6, 6, 6, 6, 6, 6, 6, 6, 6, 6, 6, 6, 6, 6, 6, 6, 6, 6, 6, 6, 6, 6, 6, 6, 6, 6, 6, 6, 6, 7, 7, 7, 7, 7, 7, 7, 7, 7, 7, 7, 7, 7, 7, 7, 7, 7, 7, 7, 7, 7, 7, 7, 7, 7,
    7, 7, 7, 7, 7, 7, 7, 7, 7, 7, 7, 7, 7, 7, 7, 7, 7, 7, 7, 7, 7, 7, 7, 7, 7, 7, 7, 7, 7, 7, 7, 7, 7, 7, 7, 7, 7, 7, 7, 8, 8, 8, 8, 8, 8, 8, 8, 8, 8, 8, 8, 8, 8, 8, 8, 8, 8, 8,
    8, 8, 8, 8, 8, 8, 8, 8, 8, 8, 8, 8, 8, 8, 8, 8, 8, 8, 8, 8, 8, 8, 8, 8, 8, 8, 8, 8, 8, 8, 8, 8, 8, 8, 8, 8, 8, 8, 8, 8, 8, 8, 8, 8, 8, 8, 8, 8, 8, 8, 8, 8, 8, 8, 8, 8, 8, 8,
    8, 8, 8, 8, 8, 8, 8, 8, 8, 8, 8, 8, 8, 8, 8, 8, 8, 8, 8, 8, 8, 8, 8, 8, 8, 8, 8, 8, 8, 8, 8, 8, 8, 8, 8, 8, 8, 8, 8, 8, 8, 8, 8, 8, 8, 8, 8, 8, 8, 8,
    8]) (IntKind.wrap .u8 s19)).bind fun y37 => (some (IntKind.wrap .i64 (s20 + (IntKind.wrap .i64 y37)))))
def math_bits_Len32_j1 (s1 : Int) (s2 : Int)  : Option Int := ((if (decide ((256 : Int) ≤ s1)) = true then (some ((wshr .u32 s1 8), (IntKind.wrap .i64 (s2 + 8)))) else (some (s1,
    s2))).bind (fun s40 => math_bits_Len32_j2 s40.1 s40.2))
def math_bits_Len32 (x_0 : Int) : Option Int := ((if (decide ((65536 : Int) ≤ x_0)) = true then (some ((wshr .u32 x_0 16), 16)) else (some (x_0,
    0))).bind (fun s41 => math_bits_Len32_j1 s41.1 s41.2))

/-- bits.Len64 -/
def math_bits_Len64_j3 (s37 : Int) (s38 : Int)  : Option Int := ((stri (ByteArray.mk #[0, 1, 2, 2, 3, 3, 3, 3, 4, 4, 4, 4, 4, 4, 4, 4, 5, 5, 5, 5, 5, 5, 5, 5, 5, 5, 5, 5, 5, 5, 5,
    5, 6, 6, 6, 6, 6, 6, 6, 6, 6, 6, 6, 6, 6, 6, 6, 6, 6, 6, 6, 6, 6, 6, 6, 6, 6, 6, 6, 6, 6, 6, 6, 6, 7, 7, 7, 7, 7, 7, 7, 7, 7, 7, 7, 7, 7, 7, 7, 7, 7, 7, 7, 7, 7, 7, 7, 7, 7,
    7, 7, 7, 7, 7, 7, 7, 7, 7, 7, 7, 7, 7, 7, 7, 7, 7, 7, 7, 7, 7, 7, 7, 7, 7, 7, 7, 7, 7, 7, 7, 7, 7, 7, 7, 7, 7, 7, 7, 8, 8, 8, 8, 8, 8, 8, 8, 8, 8, 8, 8, 8, 8, 8, 8, 8, 8, 8,
    8, 8, 8, 8, 8, 8, 8, 8, 8, 8, 8, 8, 8, 8, 8, 8, 8, 8, 8, 8, 8, 8, 8, 8, 8, 8, 8, 8, 8, 8, 8, 8, 8, 8, 8, 8, 8, 8, 8, 8, 8, 8, 8, 8, 8, 8, 8, 8, 8, 8, 8, 8, 8, 8, 8, 8, 8, 8,
    8, 8, 8, 8, 8, 8, 8, 8, 8, 8, 8, 8, 8, 8, 8, 8, 8, 8, 8, 8, 8, 8, 8, 8, 8, 8, 8, 8, 8, 8, 8, 8, 8, 8, 8, 8, 8, 8, 8, 8, 8, 8, 8, 8, 8, 8, 8, 8, 8, 8,
    8]) (IntKind.wrap .u8 s37)).bind fun y55 => (some (IntKind.wrap .i64 (s38 + (IntKind.wrap .i64 y55)))))
def math_bits_Len64_j2 (s19 : Int) (s20 : Int)  : Option Int := ((if (decide ((256 : Int) ≤ s19)) = true then (some ((wshr .u64 s19 8),
    (IntKind.wrap .i64 (s20 + 8)))) else (some (s19, s20))).bind (fun s58 => math_bits_Len64_j3 s58.1 s58.2))
def math_bits_Len64_j1 (s1 : Int) (s2 : Int)  : Option Int := ((if (decide ((65536 : Int) ≤ s1)) = true then (some ((wshr .u64 s1 16),
    (IntKind.wrap .i64 (s2 + 16)))) else (some (s1, s2))).bind (fun s59 => math_bits_Len64_j2 s59.1 s59.2))
def math_bits_Len64 (x_0 : Int) : Option Int := ((if (decide ((4294967296 : Int) ≤ x_0)) = true then (some ((wshr .u64 x_0 32), 32)) else (some (x_0,
    0))).bind (fun s60 => math_bits_Len64_j1 s60.1 s60.2))

/-- bits.Len -/
def math_bits_Len (x_0 : Int) : Option Int := ((math_bits_Len64 x_0).bind fun v1 => (some v1))

/-- slices.nextPowerOfTwo -/
def slices_nextPowerOfTwo (length_0 : Int) : Option Int := ((math_bits_Len (IntKind.wrap .u64 length_0)).bind fun v1 => (ck (0 ≤ v1) (some (wshl .u64 1 v1))))

/-- slices.pdqsortOrdered[int] -/
def slices_pdqsortOrdered_int_b1 (k : Nat) (v_0 : List Int) (v_1 : Int) (v_2 : Int) (v_3 : Int) : Option (Oc Unit (List Int)) := (if (decide ((IntKind.wrap .i64
    (v_2 - v_1)) ≤ 12)) = true then ((slices_insertionSortOrdered_int k v_0 v_1 v_2).bind fun v26 => (some (.ret v26))) else (if (decide (v_3 = 0)) = true then none else none))
def slices_pdqsortOrdered_int_j1 (v_0 : List Int)  : Option (List Int) := (some v_0)
def slices_pdqsortOrdered_int_rec (k : Nat) (rec : (List Int) → Int → Int → Int → Option (List Int)) (v_0 : List Int) (v_1 : Int) (v_2 : Int) (v_3 : Int) : Option (List Int) :=
    (jn (loopF (fun _ => slices_pdqsortOrdered_int_b1 k v_0 v_1 v_2 v_3 ) k ()) (fun _ => slices_pdqsortOrdered_int_j1 v_0 ))
def slices_pdqsortOrdered_int : Nat → (List Int) → Int → Int → Int → Option (List Int)
  | 0, _, _, _, _ => none
  | k + 1, v_0, v_1, v_2, v_3 => slices_pdqsortOrdered_int_rec k (slices_pdqsortOrdered_int k) v_0 v_1 v_2 v_3

/-- slices.Sort[[]int,int] -/
def slices_Sort_int (k : Nat) (x_0 : List Int) : Option (List Int) := ((math_bits_Len (IntKind.wrap .u64 (List.length x_0 : Int))).bind fun v1 =>
    ((slices_pdqsortOrdered_int k x_0 0 (List.length x_0 : Int) v1).bind fun v4 => (some v4)))

/-- impl.areMembers -/
def impl_areMembers_b1 (list_0 : List Int) (many_1 : Int) (i1 : Nat) (x2 : Int) : Option (Oc Unit Bool) := ((if (!(impl_in x2 0 (IntKind.wrap .i64 (many_1 - 1)))) = true then
    (some true) else ((if (decide ((0 : Int) < (i1 : Int))) = true then ((geti list_0 (IntKind.wrap .i64 ((i1 : Int) - 1))).bind fun x30 => (some (decide (x2 ≤ x30)))) else
    (some false)).bind fun v30 => (some v30))).bind fun v27 => (if v27 = true then (some (.ret false)) else (some (.nxt ()))))
def impl_areMembers_j1  : Option Bool := (some true)
def impl_areMembers (list_0 : List Int) (many_1 : Int) : Option Bool := (jn (rangeL (fun i1 x2 _ => impl_areMembers_b1 list_0 many_1 i1 x2 ) list_0 ())
    (fun _ => impl_areMembers_j1 ))

/-- impl.isOrder -/
def impl_isOrder (k : Nat) (l_0 : List Call) (order_1 : List Int) : Option Bool := ((appN 8 ([] : List Int) order_1).bind fun l7 => ((slices_Sort_int k l7).bind fun v16 => ((if
    (decide ((List.length order_1 : Int) = (List.length l_0 : Int))) = true then ((impl_areMembers v16 (List.length l_0 : Int)).bind fun v26 => (some v26)) else
    (some false)).bind fun v26 => (some v26))))

/-- impl.RespectsTime$1 -/
def impl_RespectsTime_1 (a_0 : Int) (b_1 : Int) (cap_0 : List Call) : Option Bool := ((geti cap_0 b_1).bind fun x1 => ((geti cap_0 a_0).bind fun x4 => (some (decide
    (x4.Begin < x1.End)))))

/-- impl.RespectsTime -/
def impl_RespectsTime (k : Nat) (l_0 : List Call) (order_1 : List Int) : Option (Bool × Bool) := ((impl_areCalls l_0).bind fun v7 => ((if (!v7) = true then (some true) else
    ((impl_isOrder k l_0 order_1).bind fun v13 => (some (!v13)))).bind fun v13 => (if v13 = true then (some (false,
    false)) else ((impl_inOrder order_1 (fun a0 a1 => impl_RespectsTime_1 a0 a1 l_0)).bind fun v28 => (some (v28, true))))))

/-- impl.IsLegal -/
def impl_IsLegal (k : Nat) (l_0 : List Call) (order_1 : List Int) : Option (Bool × Bool) := ((impl_areCalls l_0).bind fun v1 => ((if (!v1) = true then (some true) else
    ((impl_isOrder k l_0 order_1).bind fun v7 => (some (!v7)))).bind fun v7 => (if v7 = true then (some (false,
    false)) else ((impl_isLegal l_0 order_1).bind fun v22 => (some (v22, true))))))

/-- spec.l1Cur).next -/
def spec_next_j1 (c_0 : L1Cur) (s1 : Int)  : Option (Int × L1Cur) := (if (decide ((IntKind.wrap .i64 (c_0.at_ + 1)) ≤ (List.length c_0.code : Int))) = true then (some (s1,
    (L1Cur.mk c_0.code (IntKind.wrap .i64 (c_0.at_ + 1)) (IntKind.wrap .u64 ((IntKind.wrap .u64 ((IntKind.wrap .u64 (c_0.seed * 6364136223846793005)) +
    (IntKind.wrap .u64 s1))) + 1442695040888963407))))) else (some ((IntKind.wrap .i64 (wand .u64 (wshr .u64 (IntKind.wrap .u64 ((IntKind.wrap .u64 ((IntKind.wrap .u64
    (c_0.seed * 6364136223846793005)) + (IntKind.wrap .u64 s1))) + 1442695040888963407)) 40) 255)),
    (L1Cur.mk c_0.code (IntKind.wrap .i64 (c_0.at_ + 1)) (IntKind.wrap .u64 ((IntKind.wrap .u64 ((IntKind.wrap .u64 (c_0.seed * 6364136223846793005)) +
    (IntKind.wrap .u64 s1))) + 1442695040888963407))))))
def spec_next (c_0 : L1Cur) : Option (Int × L1Cur) := ((if (decide (c_0.at_ < (List.length c_0.code : Int))) = true then ((geti c_0.code c_0.at_).bind fun x10 => (some
    (IntKind.wrap .i64 x10))) else (some 0)).bind (fun s25 => spec_next_j1 c_0 s25))

/-- spec.l1Cur).pick -/
def spec_pick (c_0 : L1Cur) (n_1 : Int) : Option (Int × L1Cur) := (if (decide (n_1 ≤ 1)) = true then (some (0,
    c_0)) else ((spec_next c_0).bind fun v2 => (if (decide ((200 : Int) < n_1)) = true then ((spec_next v2.2).bind fun v8 => (ck (n_1 ≠ 0) (some ((Int.tmod (IntKind.wrap .i64
    ((IntKind.wrap .i64 (v2.1 * 256)) + v8.1)) n_1), v8.2)))) else (ck (n_1 ≠ 0) (some ((Int.tmod v2.1 n_1), v2.2))))))

/-- spec.l1Cur).one -/
def spec_one (c_0 : L1Cur) (n_1 : Int) : Option (Bool × L1Cur) := ((spec_pick c_0 n_1).bind fun v1 => (some ((decide (v1.1 = 0)), v1.2)))

/-- spec.l1Cur).among -/
def spec_among (c_0 : L1Cur) (list_1 : List Int) : Option (Int × L1Cur × (List Int)) := ((spec_pick c_0 (List.length list_1 : Int)).bind fun v1 =>
    ((geti list_1 v1.1).bind fun x6 => (some (x6, v1.2, list_1))))

/-- spec.l1Cur).calls -/
def spec_calls_j5 (s70 : List Call) (s76 : Int) (s78 : List Int) (s177 : Int) (s178 : Call) (s211 : List Int) (s265 : L1Cur) (s266 : Call)  : Option (Oc
    ((List Call) × Int × Int × L1Cur × (List Int) × (List Int)) ((List Call) × L1Cur)) := ((appN 48 s70 [s266]).bind fun l305 => (some (.nxt (l305, s177,
    (IntKind.wrap .i64 (s76 - 1)), s265, (List.set s78 s178.Client.toNat s178.End), s211))))
def spec_calls_j4 (s70 : List Call) (s76 : Int) (s78 : List Int) (s177 : Int) (s178 : Call) (s210 : L1Cur) (s211 : List Int) (s214 : Call)  : Option (Oc
    ((List Call) × Int × Int × L1Cur × (List Int) × (List Int)) ((List Call) × L1Cur)) := ((spec_one s210 8).bind fun v260 => ((if v260.1 = true then
    ((spec_pick v260.2 5).bind fun v276 => (if s214.Write = true then (some (v276.2,
    (Call.mk s214.Client s214.Object s214.Write (IntKind.wrap .i64 (v276.1 + 1)) s214.Begin s214.End))) else (some (v276.2,
    (Call.mk s214.Client s214.Object s214.Write v276.1 s214.Begin s214.End))))) else (some (v260.2,
    s214))).bind (fun s315 => spec_calls_j5 s70 s76 s78 s177 s178 s211 s315.1 s315.2)))
def spec_calls_j3 (s70 : List Call) (s76 : Int) (s78 : List Int) (s81 : List Int) (v170 : Int × L1Cur) (s177 : Int) (s178 : Call)  : Option (Oc ((List Call) × Int × Int × L1Cur ×
    (List Int) × (List Int)) ((List Call) × L1Cur)) := ((geti s78 s178.Client).bind fun x202 => ((if s178.Write = true then ((spec_pick v170.2 4).bind fun v224 =>
    ((geti s81 s178.Object).bind fun x231 => (some (v224.2, (List.set s81 s178.Object.toNat (IntKind.wrap .i64 ((1 : Int) + v224.1))),
    (Call.mk s178.Client s178.Object s178.Write (IntKind.wrap .i64 ((1 : Int) + v224.1)) s178.Begin s178.End))))) else ((geti s81 s178.Object).bind fun x242 => (some (v170.2, s81,
    (Call.mk s178.Client s178.Object s178.Write x242 s178.Begin s178.End))))).bind (fun s316 => spec_calls_j4 s70 s76 s78 s177 s178 s316.1 s316.2.1 s316.2.2)))
def spec_calls_j2 (s70 : List Call) (s75 : Int) (s76 : Int) (s78 : List Int) (s81 : List Int) (v109 : Int × L1Cur) (v135 : Int × L1Cur) (s147 : Call)  : Option (Oc
    ((List Call) × Int × Int × L1Cur × (List Int) × (List Int)) ((List Call) × L1Cur)) := ((spec_pick v135.2 5).bind fun v170 => ((if (decide ((IntKind.wrap .i64 (s75 +
    (IntKind.wrap .i64 ((1 : Int) + v109.1)))) < s147.Begin)) = true then (some (s147.Begin,
    (Call.mk s147.Client s147.Object s147.Write s147.Value s147.Begin (IntKind.wrap .i64 (s147.Begin + 1))))) else (some ((IntKind.wrap .i64 (s75 + (IntKind.wrap .i64
    ((1 : Int) + v109.1)))), (Call.mk s147.Client s147.Object s147.Write s147.Value s147.Begin (IntKind.wrap .i64 ((IntKind.wrap .i64 ((IntKind.wrap .i64 (s75 +
    (IntKind.wrap .i64 ((1 : Int) + v109.1)))) + 1)) + v170.1)))))).bind (fun s317 => spec_calls_j3 s70 s76 s78 s81 v170 s317.1 s317.2)))
def spec_calls_b1 (s70 : List Call) (s75 : Int) (s76 : Int) (s77 : L1Cur) (s78 : List Int) (s81 : List Int) : Option (Oc ((List Call) × Int × Int × L1Cur × (List Int) ×
    (List Int)) ((List Call) × L1Cur)) := (if (decide ((0 : Int) < s76)) = true then ((spec_pick s77 4).bind fun v109 => ((spec_pick v109.2 4).bind fun v114 =>
    ((spec_pick v114.2 2).bind fun v119 => ((spec_one v119.2 2).bind fun v124 => ((spec_pick v124.2 4).bind fun v135 => ((geti s78 v114.1).bind fun x142 => ((if (decide
    ((IntKind.wrap .i64 ((IntKind.wrap .i64 (s75 + (IntKind.wrap .i64 ((1 : Int) + v109.1)))) - v135.1)) < x142)) = true then (some (Call.mk v114.1 v119.1 v124.1 0 x142 0)) else
    (some (Call.mk v114.1 v119.1 v124.1 0 (IntKind.wrap .i64 ((IntKind.wrap .i64 (s75 + (IntKind.wrap .i64 ((1 : Int) + v109.1)))) - v135.1)) 0))).bind
    (fun s318 => spec_calls_j2 s70 s75 s76 s78 s81 v109 v135 s318)))))))) else (some (.brk (s70, s75, s76, s77, s78, s81))))
def spec_calls_j6 (s321 : List Call) (s344 : Bool) (s345 : L1Cur)  : Option ((List Call) × L1Cur) := (if s344 = true then ((spec_among s345 [0, 100,
    101]).bind fun v375 => ((geti s321 (0 : Int)).bind fun x382 => (some ((List.set s321 (0 : Int).toNat
    (Call.mk x382.Client x382.Object x382.Write x382.Value x382.Begin v375.1)), v375.2.1)))) else (some (s321, s345)))
def spec_calls_j7 (s321 : List Call) (s326 : Int) (s327 : Int) (s328 : L1Cur) (s329 : List Int) (s332 : List Int)  : Option ((List Call) × L1Cur) := ((if (decide ((0 : Int) <
    (List.length s321 : Int))) = true then ((spec_one s328 30).bind fun v355 => (some (v355.1, v355.2))) else (some (false,
    s328))).bind (fun s392 => spec_calls_j6 s321 s392.1 s392.2))
def spec_calls_j1 (k : Nat) (l1 : List Int) (l10 : List Int) (s29 : Int) (s30 : L1Cur)  : Option ((List Call) × L1Cur) := (jn (loopF
    (fun s320 => spec_calls_b1 s320.1 s320.2.1 s320.2.2.1 s320.2.2.2.1 s320.2.2.2.2.1 s320.2.2.2.2.2) k (([], 0, s29, s30, l1,
    l10) : (List Call) × Int × Int × L1Cur × (List Int) × (List Int))) (fun s393 => spec_calls_j7 s393.1 s393.2.1 s393.2.2.1 s393.2.2.2.1 s393.2.2.2.2.1 s393.2.2.2.2.2))
def spec_calls (k : Nat) (v_0 : L1Cur) : Option ((List Call) × L1Cur) := ((mkN 8 4 (0 : Int)).bind fun l1 => ((mkN 8 3 (0 : Int)).bind fun l10 =>
    ((spec_pick v_0 8).bind fun v19 => ((spec_one v19.2 20).bind fun v24 => ((if v24.1 = true then ((spec_pick v24.2 2).bind fun v40 => (some ((IntKind.wrap .i64
    ((7 : Int) + v40.1)), v40.2))) else (some (v19.1, v24.2))).bind (fun s394 => spec_calls_j1 k l1 l10 s394.1 s394.2))))))

/-- spec.DrawGoodCalls -/
def spec_DrawGoodCalls (k : Nat) (code_0 : List Int) : Option (List Call) := ((spec_calls k (L1Cur.mk code_0 0 0)).bind fun v5 => (some v5.1))

/-- spec.DrawIsLinear -/
def spec_DrawIsLinear (k : Nat) (code_0 : List Int) : Option (List Call) := ((spec_DrawGoodCalls k code_0).bind fun v1 => (some v1))

/-- impl.OverlapsIn -/
def impl_OverlapsIn_b1 (x8 : Call) (i43 : Nat) (x44 : Call) (s42 : Int) : Option (Oc Int (Oc Int (Int × Bool))) := (if ((decide (x8.Begin < x44.End)) && (decide
    (x44.Begin < x8.End))) = true then (some (.nxt (IntKind.wrap .i64 (s42 + 1)))) else (some (.nxt s42)))
def impl_OverlapsIn_j1 (s98 : Int)  : Option (Oc Int (Int × Bool)) := (some (.nxt s98))
def impl_OverlapsIn_b2 (l_0 : List Call) (i7 : Nat) (x8 : Call) (s6 : Int) : Option (Oc Int (Int × Bool)) := ((sl l_0 0 (i7 : Int)).bind fun l38 => (jn (rangeL
    (fun i43 x44 s97 => impl_OverlapsIn_b1 x8 i43 x44 s97) l38 s6) (fun s110 => impl_OverlapsIn_j1 s110)))
def impl_OverlapsIn_j2 (s112 : Int)  : Option (Int × Bool) := (some (s112, true))
def impl_OverlapsIn (l_0 : List Call) : Option (Int × Bool) := ((impl_areCalls l_0).bind fun v1 => (if (!v1) = true then (some (0,
    false)) else (jn (rangeL (fun i7 x8 s111 => impl_OverlapsIn_b2 l_0 i7 x8 s111) l_0 0) (fun s119 => impl_OverlapsIn_j2 s119))))

/-- spec.OverlapsIn -/
def spec_OverlapsIn_b1 (x8 : Call) (i43 : Nat) (x44 : Call) (s42 : Int) : Option (Oc Int (Oc Int (Int × Bool))) := (if ((decide (x8.Begin < x44.End)) && (decide
    (x44.Begin < x8.End))) = true then (some (.nxt (IntKind.wrap .i64 (s42 + 1)))) else (some (.nxt s42)))
def spec_OverlapsIn_j1 (s98 : Int)  : Option (Oc Int (Int × Bool)) := (some (.nxt s98))
def spec_OverlapsIn_b2 (l_0 : List Call) (i7 : Nat) (x8 : Call) (s6 : Int) : Option (Oc Int (Int × Bool)) := ((sl l_0 0 (i7 : Int)).bind fun l38 => (jn (rangeL
    (fun i43 x44 s97 => spec_OverlapsIn_b1 x8 i43 x44 s97) l38 s6) (fun s110 => spec_OverlapsIn_j1 s110)))
def spec_OverlapsIn_j2 (s112 : Int)  : Option (Int × Bool) := (some (s112, true))
def spec_OverlapsIn (l_0 : List Call) : Option (Int × Bool) := ((spec_GoodCalls l_0).bind fun v1 => (if (!v1) = true then (some (0,
    false)) else (jn (rangeL (fun i7 x8 s111 => spec_OverlapsIn_b2 l_0 i7 x8 s111) l_0 0) (fun s119 => spec_OverlapsIn_j2 s119))))

/-- laws.sameInts -/
def laws_sameInts_b1 (b_1 : List Int) (i2 : Nat) (x3 : Int) : Option (Oc Unit Bool) := ((geti b_1 (i2 : Int)).bind fun x24 => (if (decide (x3 ≠ x24)) = true then (some
    (.ret false)) else (some (.nxt ()))))
def laws_sameInts_j1  : Option Bool := (some true)
def laws_sameInts (a_0 : List Int) (b_1 : List Int) : Option Bool := (if (decide ((List.length a_0 : Int) ≠ (List.length b_1 : Int))) = true then (some false) else (jn (rangeL
    (fun i2 x3 _ => laws_sameInts_b1 b_1 i2 x3 ) a_0 ()) (fun _ => laws_sameInts_j1 )))

/-- impl.GoodCalls -/
def impl_GoodCalls (l_0 : List Call) : Option Bool := ((impl_areCalls l_0).bind fun v1 => (some v1))

/-- laws.FnLinear -/
def laws_FnLinear_b1 (k : Nat) (v2 : List Call) (s296 : Bool) (s297 : Int) : Option (Oc (Bool × Int) Bool) := (if (decide (s297 < 3)) = true then
    ((impl_OnObject k v2 s297).bind fun v321 => ((impl_IsLinear k v321.1).bind fun v333 => (if ((!v321.2) || (!v333.2)) = true then (some (.ret false)) else (some (.nxt
    ((s296 && v333.1), (IntKind.wrap .i64 (s297 + 1)))))))) else (some (.brk (s296, s297))))
def laws_FnLinear_j2 (v14 : Bool × Bool) (s365 : Bool) (s366 : Int)  : Option Bool := (some (s365 == v14.1))
def laws_FnLinear_j1 (k : Nat) (v2 : List Call) (v14 : Bool × Bool)  : Option Bool := (jn (loopF (fun s364 => laws_FnLinear_b1 k v2 s364.1 s364.2) k (true,
    0)) (fun s374 => laws_FnLinear_j2 v14 s374.1 s374.2))
def laws_FnLinear (k : Nat) (v_0 : List Int) : Option Bool := (if (decide ((1048576 : Int) < (List.length v_0 : Int))) = true then (some true) else
    ((spec_DrawIsLinear k v_0).bind fun v2 => ((impl_IsLinear k v2).bind fun v14 => ((spec_IsLinear k v2).bind fun v17 => ((impl_IsSequential k v2).bind fun v20 =>
    ((spec_IsSequential k v2).bind fun v23 => ((impl_OrderFor k v2).bind fun v26 => ((spec_OrderFor k v2).bind fun v38 => ((impl_OverlapsIn v2).bind fun v50 =>
    ((spec_OverlapsIn v2).bind fun v53 => ((if (((((!(v14.2 == v17.2)) || (!(v14.1 == v17.1))) || (!(v20.2 == v23.2))) || (!(v20.1 == v23.1))) || (!(v26.2 == v38.2))) = true then
    (some true) else ((laws_sameInts v26.1 v38.1).bind fun v142 => (some (!v142)))).bind fun v142 => ((if ((v142 || (!(v50.2 == v53.2))) || (decide (v50.1 ≠ v53.1))) = true then
    (some true) else ((impl_GoodCalls v2).bind fun v198 => (some (!(v198 == v17.2))))).bind fun v198 => (if v198 = true then (some false) else (if (!v14.2) = true then (some
    (decide ((List.length v26.1 : Int) = 0))) else (if ((v14.1 && (!v20.1)) || (!(v14.1 == v26.2))) = true then (some false) else (jn (if v26.2 = true then
    ((impl_IsLegal k v2 v26.1).bind fun v249 => ((impl_RespectsTime k v2 v26.1).bind fun v252 => (if ((((!v249.2) || (!v249.1)) || (!v252.2)) || (!v252.1)) = true then (some
    (.ret false)) else (some (.nxt ()))))) else (some (.nxt ()))) (fun _ => laws_FnLinear_j1 k v2 v14 )))))))))))))))))
end Go.Proofs.Ytddkoiapboeemaa.X
