/- The seat's types and functions, as plain Lean has them. -/
import Derived.Test.YtddkoiapboeemaaXSS
set_option linter.unusedVariables false
set_option linter.unusedSimpArgs false
set_option maxRecDepth 100000
namespace Go.Proofs.Ytddkoiapboeemaa.X
open Go
structure BoundsError where
  x : Int
  y : Int
  signed : Bool
  code : Int
  deriving DecidableEq, Inhabited
def BoundsError.cells (x : BoundsError) : List XV := [.int .i64 x.x, .int .i64 x.y, .bool x.signed, .int .u8 x.code]
structure Call where
  Client : Int
  Object : Int
  Write : Bool
  Value : Int
  Begin : Int
  End : Int
  deriving DecidableEq, Inhabited
def Call.cells (x : Call) : List XV := [.int .i64 x.Client, .int .i64 x.Object, .bool x.Write, .int .i64 x.Value, .int .i64 x.Begin, .int .i64 x.End]
structure L1Cur where
  code : List Int
  at_ : Int
  seed : Int
  deriving DecidableEq, Inhabited
def L1Cur.cells (x : L1Cur) : List XV := [lst cU8 x.code, .int .i64 x.at_, .int .u64 x.seed]

/-- laws.szCallS -/
def laws_szCallS (a_0 : List Call) (left_1 : Int) : Option Int := (if (decide ((IntKind.wrap .i64 (left_1 - (List.length a_0 : Int))) < 0)) = true then (some (-1)) else (some
    (IntKind.wrap .i64 (left_1 - (List.length a_0 : Int)))))

/-- laws.toCall -/
def laws_toCall (a_0 : Call) : Call := a_0

/-- laws.toCallS -/
def laws_toCallS_b1 (a_0 : List Call) (s14 : Int) (s15 : List Call) : Option (Oc (Int × (List Call)) (List Call)) := (if (decide (s14 < (List.length a_0 : Int))) = true then
    ((geti a_0 s14).bind fun x40 => ((geti s15 s14).bind fun x43 => (some (.nxt ((IntKind.wrap .i64 (s14 + 1)),
    (List.set s15 s14.toNat (laws_toCall x40))))))) else (some (.brk (s14, s15))))
def laws_toCallS_j1 (s56 : Int) (s57 : List Call)  : Option (List Call) := (some s57)
def laws_toCallS (k : Nat) (a_0 : List Call) : Option (List Call) := ((mkN 48 (List.length a_0 : Int) (Call.mk (0 : Int) (0 : Int) false (0 : Int) (0 : Int)
    (0 : Int))).bind fun l1 => (jn (loopF (fun s55 => laws_toCallS_b1 a_0 s55.1 s55.2) k (0, l1)) (fun s66 => laws_toCallS_j1 s66.1 s66.2)))

/-- laws.eqCall -/
def laws_eqCall (a_0 : Call) (b_1 : Call) : Option Bool := (if (decide (a_0.Client ≠ b_1.Client)) = true then (some false) else (if (decide (a_0.Object ≠ b_1.Object)) = true then
    (some false) else (if (!(a_0.Write == b_1.Write)) = true then (some false) else (if (decide (a_0.Value ≠ b_1.Value)) = true then (some false) else (if (decide
    (a_0.Begin ≠ b_1.Begin)) = true then (some false) else (if (decide (a_0.End ≠ b_1.End)) = true then (some false) else (some true)))))))

/-- laws.eqCallS -/
def laws_eqCallS_b1 (a_0 : List Call) (b_1 : List Call) (s3 : Int) : Option (Oc Int Bool) := (if (decide (s3 < (List.length a_0 : Int))) = true then
    ((geti a_0 s3).bind fun x26 => ((geti b_1 s3).bind fun x29 => ((laws_eqCall x26 x29).bind fun v32 => (if (!v32) = true then (some (.ret false)) else (some (.nxt
    (IntKind.wrap .i64 (s3 + 1)))))))) else (some (.brk s3)))
def laws_eqCallS_j1 (s42 : Int)  : Option Bool := (some true)
def laws_eqCallS (k : Nat) (a_0 : List Call) (b_1 : List Call) : Option Bool := (if (decide ((List.length a_0 : Int) ≠ (List.length b_1 : Int))) = true then (some false) else (jn
    (loopF (fun s41 => laws_eqCallS_b1 a_0 b_1 s41) k 0) (fun s49 => laws_eqCallS_j1 s49)))

/-- laws.markCallS -/
def laws_markCallS_b1 (s6 : Int) (s7 : Int) (s8 : List Call) : Option (Oc (Int × Int × (List Call)) (Int × (List Call))) := (if (decide (s7 < (List.length s8 : Int))) = true then
    ((geti s8 s7).bind fun x33 => (some (.nxt ((IntKind.wrap .i64 ((IntKind.wrap .i64 ((IntKind.wrap .i64 ((IntKind.wrap .i64 ((IntKind.wrap .i64 ((IntKind.wrap .i64
    (s6 + 1)) + 1)) + 1)) + 1)) + 1)) + 1)), (IntKind.wrap .i64 (s7 + 1)),
    (List.set s8 s7.toNat (Call.mk s6 (IntKind.wrap .i64 (s6 + 1)) (decide ((Int.tmod (IntKind.wrap .i64 ((IntKind.wrap .i64 (s6 + 1)) + 1)) 3) = 0)) (IntKind.wrap .i64
    ((IntKind.wrap .i64 ((IntKind.wrap .i64 (s6 + 1)) + 1)) + 1)) (IntKind.wrap .i64 ((IntKind.wrap .i64 ((IntKind.wrap .i64 ((IntKind.wrap .i64 (s6 + 1)) + 1)) + 1)) + 1))
    (IntKind.wrap .i64 ((IntKind.wrap .i64 ((IntKind.wrap .i64 ((IntKind.wrap .i64 ((IntKind.wrap .i64 (s6 + 1)) + 1)) + 1)) + 1)) + 1)))))))) else (some (.brk (s6, s7, s8))))
def laws_markCallS_j1 (s71 : Int) (s72 : Int) (s73 : List Call)  : Option (Int × (List Call)) := (some (s71, s73))
def laws_markCallS (k : Nat) (a_0 : List Call) (k_1 : Int) : Option (Int × (List Call)) := (jn (loopF (fun s70 => laws_markCallS_b1 s70.1 s70.2.1 s70.2.2) k (k_1, 0,
    a_0)) (fun s82 => laws_markCallS_j1 s82.1 s82.2.1 s82.2.2))

/-- spec.l1In -/
def spec_l1In (n_0 : Int) (lo_1 : Int) (hi_2 : Int) : Bool := ((decide (lo_1 ≤ n_0)) && (decide (n_0 ≤ hi_2)))

/-- spec.l15Call -/
def spec_l15Call (x_0 : Call) : Bool := (((((((spec_l1In x_0.Client 0 3) && (spec_l1In x_0.Object 0 2)) && (spec_l1In x_0.Value 0 9)) && ((!x_0.Write) || (decide
    ((0 : Int) < x_0.Value)))) && (spec_l1In x_0.Begin 0 100)) && (spec_l1In x_0.End 0 100)) && (decide (x_0.Begin < x_0.End)))

/-- spec.GoodCalls -/
def spec_GoodCalls_b1 (x2 : Call) (i38 : Nat) (x39 : Call) : Option (Oc Unit (Oc Unit Bool)) := (if (((decide (x39.Client = x2.Client)) && (decide (x2.Begin < x39.End))) &&
    (decide (x39.Begin < x2.End))) = true then (some (.ret (.ret false))) else (some (.nxt ())))
def spec_GoodCalls_j1  : Option (Oc Unit Bool) := (some (.nxt ()))
def spec_GoodCalls_b2 (l_0 : List Call) (i1 : Nat) (x2 : Call) : Option (Oc Unit Bool) := (if (!(spec_l15Call x2)) = true then (some (.ret false)) else ((sl l_0 0
    (i1 : Int)).bind fun l35 => (jn (rangeL (fun i38 x39 _ => spec_GoodCalls_b1 x2 i38 x39 ) l35 ()) (fun _ => spec_GoodCalls_j1 ))))
def spec_GoodCalls_j2 (l_0 : List Call)  : Option Bool := (some (decide ((List.length l_0 : Int) ≤ 7)))
def spec_GoodCalls (l_0 : List Call) : Option Bool := (jn (rangeL (fun i1 x2 _ => spec_GoodCalls_b2 l_0 i1 x2 ) l_0 ()) (fun _ => spec_GoodCalls_j2 l_0 ))

/-- spec.l15Before -/
def spec_l15Before (a_0 : Call) (b_1 : Call) (clients_2 : Bool) : Option Bool := (if clients_2 = true then (some ((decide (a_0.Client = b_1.Client)) && (decide
    (a_0.Begin < b_1.Begin)))) else (some (decide (a_0.End ≤ b_1.Begin))))

/-- spec.l15Legal -/
def spec_l15Legal_b1 (l_0 : List Call) (i16 : Nat) (x17 : Int) (s13 : List Int) : Option (Oc (List Int) Bool) := ((geti l_0 x17).bind fun x39 => (if x39.Write = true then
    ((geti s13 x39.Object).bind fun x51 => (some (.nxt (List.set s13 x39.Object.toNat x39.Value)))) else ((geti s13 x39.Object).bind fun x62 => (if (decide
    (x62 ≠ x39.Value)) = true then (some (.ret false)) else (some (.nxt s13))))))
def spec_l15Legal_j1 (s73 : List Int)  : Option Bool := (some true)
def spec_l15Legal (l_0 : List Call) (order_1 : List Int) : Option Bool := ((mkN 8 3 (0 : Int)).bind fun l1 => (jn (rangeL
    (fun i16 x17 s72 => spec_l15Legal_b1 l_0 i16 x17 s72) order_1 l1) (fun s82 => spec_l15Legal_j1 s82)))

/-- spec.l1Has -/
def spec_l1Has_b1 (n_1 : Int) (i1 : Nat) (x2 : Int) : Option (Oc Unit Bool) := (if (decide (x2 = n_1)) = true then (some (.ret true)) else (some (.nxt ())))
def spec_l1Has_j1  : Option Bool := (some false)
def spec_l1Has (l_0 : List Int) (n_1 : Int) : Option Bool := (jn (rangeL (fun i1 x2 _ => spec_l1Has_b1 n_1 i1 x2 ) l_0 ()) (fun _ => spec_l1Has_j1 ))

/-- spec.l15Find -/
def spec_l15Find_b1 (v_1 : List Int) (v_2 : Bool) (i6 : Nat) (x7 : Call) (i43 : Nat) (x44 : Call) (s42 : Bool) : Option (Oc Bool (Oc Unit (List Int))) := ((if (decide
    ((i43 : Int) ≠ (i6 : Int))) = true then ((spec_l1Has v_1 (i43 : Int)).bind fun v84 => (some (!v84))) else (some false)).bind fun v84 => ((if v84 = true then
    ((spec_l15Before x44 x7 v_2).bind fun v112 => (some v112)) else (some false)).bind fun v112 => (if v112 = true then (some (.nxt false)) else (some (.nxt s42)))))
def spec_l15Find_j1 (v_0 : List Call) (v_1 : List Int) (v_2 : Bool) (rec : (List Call) → (List Int) → Bool → Option (List Int)) (i6 : Nat) (s140 : Bool)  : Option (Oc Unit
    (List Int)) := (if (!s140) = true then (some (.nxt ())) else ((appN 8 ([] : List Int) v_1).bind fun l162 => ((appN 8 l162 [(i6 : Int)]).bind fun l177 =>
    ((rec v_0 l177 v_2).bind fun v186 => (if (decide ((0 : Int) < (List.length v186 : Int))) = true then (some (.ret v186)) else (some (.nxt ())))))))
def spec_l15Find_b2 (v_0 : List Call) (v_1 : List Int) (v_2 : Bool) (rec : (List Call) → (List Int) → Bool → Option (List Int)) (i6 : Nat) (x7 : Call) : Option (Oc Unit
    (List Int)) := ((spec_l1Has v_1 (i6 : Int)).bind fun v38 => (jn (rangeL (fun i43 x44 s139 => spec_l15Find_b1 v_1 v_2 i6 x7 i43 x44 s139) v_0 (!v38))
    (fun s200 => spec_l15Find_j1 v_0 v_1 v_2 rec i6 s200)))
def spec_l15Find_j2  : Option (List Int) := (some [])
def spec_l15Find_rec (rec : (List Call) → (List Int) → Bool → Option (List Int)) (v_0 : List Call) (v_1 : List Int) (v_2 : Bool) : Option (List Int) :=
    ((spec_l15Legal v_0 v_1).bind fun v1 => (if (!v1) = true then (some []) else (if (decide ((List.length v_1 : Int) = (List.length v_0 : Int))) = true then (some v_1) else (jn
    (rangeL (fun i6 x7 _ => spec_l15Find_b2 v_0 v_1 v_2 rec i6 x7 ) v_0 ()) (fun _ => spec_l15Find_j2 )))))
def spec_l15Find : Nat → (List Call) → (List Int) → Bool → Option (List Int)
  | 0, _, _, _ => none
  | k + 1, v_0, v_1, v_2 => spec_l15Find_rec (spec_l15Find k) v_0 v_1 v_2

/-- spec.OrderFor -/
def spec_OrderFor (k : Nat) (l_0 : List Call) : Option ((List Int) × Bool) := ((spec_GoodCalls l_0).bind fun v1 => (if (!v1) = true then (some ([],
    false)) else ((spec_l15Find k l_0 [] false).bind fun v5 => (if (decide ((List.length v5 : Int) ≠ (List.length l_0 : Int))) = true then (some ([], false)) else (some (v5,
    true))))))

/-- impl.in -/
def impl_in (n_0 : Int) (low_1 : Int) (high_2 : Int) : Bool := ((decide (low_1 ≤ n_0)) && (decide (n_0 ≤ high_2)))

/-- impl.areCalls -/
def impl_areCalls_b1 (x2 : Call) (i125 : Nat) (x126 : Call) : Option (Oc Unit (Oc Unit Bool)) := (if (((decide (x2.Client = x126.Client)) && (decide (x126.Begin < x2.End))) &&
    (decide (x2.Begin < x126.End))) = true then (some (.ret (.ret false))) else (some (.nxt ())))
def impl_areCalls_j2  : Option (Oc Unit Bool) := (some (.nxt ()))
def impl_areCalls_j1 (v_0 : List Call) (i1 : Nat) (x2 : Call) (s31 : Int)  : Option (Oc Unit Bool) := (if ((((((!(impl_in x2.Client 0 3)) || (!(impl_in x2.Object 0 2))) ||
    (!(impl_in x2.Value s31 9))) || (!(impl_in x2.Begin 0 100))) || (!(impl_in x2.End 0 100))) || (decide (x2.End ≤ x2.Begin))) = true then (some (.ret false)) else ((sl v_0 0
    (i1 : Int)).bind fun l122 => (jn (rangeL (fun i125 x126 _ => impl_areCalls_b1 x2 i125 x126 ) l122 ()) (fun _ => impl_areCalls_j2 ))))
def impl_areCalls_b2 (v_0 : List Call) (i1 : Nat) (x2 : Call) : Option (Oc Unit Bool) := ((if x2.Write = true then (some 1) else (some 0)).bind
    (fun s210 => impl_areCalls_j1 v_0 i1 x2 s210))
def impl_areCalls_j3 (v_0 : List Call)  : Option Bool := (some (decide ((List.length v_0 : Int) ≤ 7)))
def impl_areCalls (v_0 : List Call) : Option Bool := (jn (rangeL (fun i1 x2 _ => impl_areCalls_b2 v_0 i1 x2 ) v_0 ()) (fun _ => impl_areCalls_j3 v_0 ))

/-- impl.inOrder -/
def impl_inOrder_b1 (may_1 : Int → Int → Option Bool) (x2 : Int) (i27 : Nat) (x28 : Int) : Option (Oc Unit (Oc Unit Bool)) := ((may_1 x28 x2).bind fun v54 => (if
    (!v54) = true then (some (.ret (.ret false))) else (some (.nxt ()))))
def impl_inOrder_j1  : Option (Oc Unit Bool) := (some (.nxt ()))
def impl_inOrder_b2 (order_0 : List Int) (may_1 : Int → Int → Option Bool) (i1 : Nat) (x2 : Int) : Option (Oc Unit Bool) := ((sl order_0 0 (i1 : Int)).bind fun l24 => (jn (rangeL
    (fun i27 x28 _ => impl_inOrder_b1 may_1 x2 i27 x28 ) l24 ()) (fun _ => impl_inOrder_j1 )))
def impl_inOrder_j2  : Option Bool := (some true)
def impl_inOrder (order_0 : List Int) (may_1 : Int → Int → Option Bool) : Option Bool := (jn (rangeL (fun i1 x2 _ => impl_inOrder_b2 order_0 may_1 i1 x2 ) order_0 ())
    (fun _ => impl_inOrder_j2 ))

/-- impl.isLegal -/
def impl_isLegal_b1 (l_0 : List Call) (i11 : Nat) (x12 : Int) (s10 : List Int) : Option (Oc (List Int) Bool) := ((geti l_0 x12).bind fun x34 => (if x34.Write = true then
    ((geti s10 x34.Object).bind fun x46 => (ck (x34.Object < 3) (some (.nxt (List.set s10 x34.Object.toNat x34.Value))))) else ((geti s10 x34.Object).bind fun x55 => (ck
    (x34.Object < 3) (if (decide (x55 ≠ x34.Value)) = true then (some (.ret false)) else (some (.nxt s10)))))))
def impl_isLegal_j1 (s66 : List Int)  : Option Bool := (some true)
def impl_isLegal (l_0 : List Call) (order_1 : List Int) : Option Bool := (jn (rangeL (fun i11 x12 s65 => impl_isLegal_b1 l_0 i11 x12 s65) order_1 [(0 : Int), (0 : Int),
    (0 : Int)]) (fun s73 => impl_isLegal_j1 s73))

/-- slices.Index[[]int,int] -/
def slices_Index_int_b1 (v_1 : Int) (i1 : Nat) (x2 : Int) : Option (Oc Unit Int) := (if (decide (v_1 = x2)) = true then (some (.ret (i1 : Int))) else (some (.nxt ())))
def slices_Index_int_j1  : Option Int := (some (-1))
def slices_Index_int (s_0 : List Int) (v_1 : Int) : Option Int := (jn (rangeL (fun i1 x2 _ => slices_Index_int_b1 v_1 i1 x2 ) s_0 ()) (fun _ => slices_Index_int_j1 ))

/-- slices.Contains[[]int,int] -/
def slices_Contains_int (s_0 : List Int) (v_1 : Int) : Option Bool := ((slices_Index_int s_0 v_1).bind fun v1 => (some (decide ((0 : Int) ≤ v1))))

/-- impl.orderFor$1 -/
def impl_orderFor_1_b1 (order_0 : List Int) (cap_0 : List Call) (cap_1 : Int → Int → Option Bool) (rec : (List Int) → (List Call) → (Int → Int → Option Bool) → Option
    ((List Int) × Bool)) (i2 : Nat) : Option (Oc Unit ((List Int) × Bool)) := ((appN 8 ([] : List Int) order_0).bind fun l32 => ((appN 8 l32 [(i2 : Int)]).bind fun l47 =>
    ((slices_Contains_int order_0 (i2 : Int)).bind fun v56 => ((if v56 = true then (some true) else ((impl_isLegal cap_0 l47).bind fun v62 => (some (!v62)))).bind fun v62 =>
    ((if v62 = true then (some true) else ((impl_inOrder l47 cap_1).bind fun v84 => (some (!v84)))).bind fun v84 => (if v84 = true then (some (.nxt ())) else
    ((rec l47 cap_0 cap_1).bind fun v105 => (if v105.2 = true then (some (.ret (v105.1, true))) else (some (.nxt ()))))))))))
def impl_orderFor_1_j1  : Option ((List Int) × Bool) := (some ([], false))
def impl_orderFor_1_rec (rec : (List Int) → (List Call) → (Int → Int → Option Bool) → Option ((List Int) × Bool)) (order_0 : List Int) (cap_0 : List Call)
    (cap_1 : Int → Int → Option Bool) : Option ((List Int) × Bool) := (if (decide ((List.length order_0 : Int) = (List.length cap_0 : Int))) = true then (some (order_0,
    true)) else (jn (rangeI (fun i2 _ => impl_orderFor_1_b1 order_0 cap_0 cap_1 rec i2 ) (List.length cap_0 : Int) ()) (fun _ => impl_orderFor_1_j1 )))
def impl_orderFor_1 : Nat → (List Int) → (List Call) → (Int → Int → Option Bool) → Option ((List Int) × Bool)
  | 0, _, _, _ => none
  | k + 1, order_0, cap_0, cap_1 => impl_orderFor_1_rec (impl_orderFor_1 k) order_0 cap_0 cap_1

/-- impl.orderFor -/
def impl_orderFor (k : Nat) (l_0 : List Call) (may_1 : Int → Int → Option Bool) : Option ((List Int) × Bool) := ((impl_orderFor_1 k ([] : List Int) l_0 may_1).bind fun v25 =>
    (some (v25.1, v25.2)))

/-- impl.byTime$1 -/
def impl_byTime_1 (a_0 : Int) (b_1 : Int) (cap_0 : List Call) : Option Bool := ((geti cap_0 b_1).bind fun x1 => ((geti cap_0 a_0).bind fun x4 => (some (decide
    (x4.Begin < x1.End)))))



/-- impl.OrderFor -/
def impl_OrderFor (k : Nat) (l_0 : List Call) : Option ((List Int) × Bool) := ((impl_areCalls l_0).bind fun v1 => (if (!v1) = true then (some ([],
    false)) else ((impl_orderFor k l_0 (fun a0 a1 => impl_byTime_1 a0 a1 l_0)).bind fun v5 => (some (v5.1, v5.2)))))

/-- laws.eqIntS -/
def laws_eqIntS_b1 (a_0 : List Int) (b_1 : List Int) (s3 : Int) : Option (Oc Int Bool) := (if (decide (s3 < (List.length a_0 : Int))) = true then ((geti a_0 s3).bind fun x26 =>
    ((geti b_1 s3).bind fun x29 => (if (decide (x26 ≠ x29)) = true then (some (.ret false)) else (some (.nxt (IntKind.wrap .i64 (s3 + 1))))))) else (some (.brk s3)))
def laws_eqIntS_j1 (s39 : Int)  : Option Bool := (some true)
def laws_eqIntS (k : Nat) (a_0 : List Int) (b_1 : List Int) : Option Bool := (if (decide ((List.length a_0 : Int) ≠ (List.length b_1 : Int))) = true then (some false) else (jn
    (loopF (fun s38 => laws_eqIntS_b1 a_0 b_1 s38) k 0) (fun s46 => laws_eqIntS_j1 s46)))

/-- laws.markIntS -/
def laws_markIntS_b1 (s6 : Int) (s7 : Int) (s8 : List Int) : Option (Oc (Int × Int × (List Int)) (Int × (List Int))) := (if (decide (s7 < (List.length s8 : Int))) = true then
    ((geti s8 s7).bind fun x33 => (some (.nxt ((IntKind.wrap .i64 (s6 + 1)), (IntKind.wrap .i64 (s7 + 1)), (List.set s8 s7.toNat s6))))) else (some (.brk (s6, s7, s8))))
def laws_markIntS_j1 (s46 : Int) (s47 : Int) (s48 : List Int)  : Option (Int × (List Int)) := (some (s46, s48))
def laws_markIntS (k : Nat) (a_0 : List Int) (k_1 : Int) : Option (Int × (List Int)) := (jn (loopF (fun s45 => laws_markIntS_b1 s45.1 s45.2.1 s45.2.2) k (k_1, 0,
    a_0)) (fun s57 => laws_markIntS_j1 s57.1 s57.2.1 s57.2.2))

/-- laws.heldIntS -/
def laws_heldIntS_b1 (a_0 : List Int) (s3 : Int) (s4 : Int) : Option (Oc (Int × Int) Int) := (if (decide (s4 < (List.length a_0 : Int))) = true then
    ((geti a_0 s4).bind fun x27 => (if (decide (x27 ≠ s3)) = true then (some (.ret (-1))) else (some (.nxt ((IntKind.wrap .i64 (s3 + 1)),
    (IntKind.wrap .i64 (s4 + 1))))))) else (some (.brk (s3, s4))))
def laws_heldIntS_j1 (s37 : Int) (s38 : Int)  : Option Int := (some s37)
def laws_heldIntS (k : Nat) (a_0 : List Int) (k_1 : Int) : Option Int := (jn (loopF (fun s36 => laws_heldIntS_b1 a_0 s36.1 s36.2) k (k_1,
    0)) (fun s45 => laws_heldIntS_j1 s45.1 s45.2))

/-- laws.FnExactOrderFor -/
def laws_FnExactOrderFor (k : Nat) (v_0 : List Call) : Option Bool := ((laws_szCallS v_0 1048576).bind fun v1 => (if (decide (v1 < 0)) = true then (some true) else
    ((laws_toCallS k v_0).bind fun v5 => ((spec_OrderFor k v5).bind fun v17 => ((laws_toCallS k v_0).bind fun v20 => ((impl_OrderFor k v20).bind fun v32 =>
    ((laws_eqIntS k v32.1 v17.1).bind fun v44 => (if ((!v44) || (!(v32.2 == v17.2))) = true then (some false) else ((laws_toCallS k v_0).bind fun v61 =>
    ((laws_eqCallS k v20 v61).bind fun v73 => (if (!v73) = true then (some false) else ((laws_markCallS k v20 1).bind fun v77 => ((if (decide (v77.1 < 0)) = true then
    (some true) else ((laws_eqIntS k v32.1 v17.1).bind fun v87 => (some (!v87)))).bind fun v87 => (if (v87 || (!(v32.2 == v17.2))) = true then (some false) else
    ((laws_markIntS k v32.1 1).bind fun v116 => ((laws_heldIntS k v116.2 1).bind fun v123 => (if (decide (v123 < 0)) = true then (some false) else (if (decide
    (v123 ≠ v116.1)) = true then (some false) else ((laws_toCallS k v_0).bind fun v128 => ((impl_OrderFor k v128).bind fun v140 => ((laws_eqIntS k v140.1 v17.1).bind fun v152 =>
    (if ((!v152) || (!(v140.2 == v17.2))) = true then (some false) else ((laws_heldIntS k v116.2 1).bind fun v165 => (if (decide (v165 < 0)) = true then (some false) else (if
    (decide (v165 ≠ v116.1)) = true then (some false) else (some true))))))))))))))))))))))))))
end Go.Proofs.Ytddkoiapboeemaa.X
