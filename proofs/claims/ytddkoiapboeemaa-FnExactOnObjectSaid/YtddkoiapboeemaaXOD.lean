/- The seat's types and functions, as plain Lean has them. -/
import Derived.Test.YtddkoiapboeemaaXSS
set_option linter.unusedVariables false
set_option linter.unusedSimpArgs false
set_option maxRecDepth 100000
namespace Go.Proofs.Ytddkoiapboeemaa.X
open Go
structure BoundsError where
  x : Int
  y : Int
  signed : Bool
  code : Int
  deriving DecidableEq, Inhabited
def BoundsError.cells (x : BoundsError) : List XV := [.int .i64 x.x, .int .i64 x.y, .bool x.signed, .int .u8 x.code]
structure Call where
  Client : Int
  Object : Int
  Write : Bool
  Value : Int
  Begin : Int
  End : Int
  deriving DecidableEq, Inhabited
def Call.cells (x : Call) : List XV := [.int .i64 x.Client, .int .i64 x.Object, .bool x.Write, .int .i64 x.Value, .int .i64 x.Begin, .int .i64 x.End]
structure L1Cur where
  code : List Int
  at_ : Int
  seed : Int
  deriving DecidableEq, Inhabited
def L1Cur.cells (x : L1Cur) : List XV := [lst cU8 x.code, .int .i64 x.at_, .int .u64 x.seed]

/-- laws.szCallS -/
def laws_szCallS (a_0 : List Call) (left_1 : Int) : Option Int := (if (decide ((IntKind.wrap .i64 (left_1 - (List.length a_0 : Int))) < 0)) = true then (some (-1)) else (some
    (IntKind.wrap .i64 (left_1 - (List.length a_0 : Int)))))

/-- spec.l1In -/
def spec_l1In (n_0 : Int) (lo_1 : Int) (hi_2 : Int) : Bool := ((decide (lo_1 ≤ n_0)) && (decide (n_0 ≤ hi_2)))

/-- spec.l15Call -/
def spec_l15Call (x_0 : Call) : Bool := (((((((spec_l1In x_0.Client 0 3) && (spec_l1In x_0.Object 0 2)) && (spec_l1In x_0.Value 0 9)) && ((!x_0.Write) || (decide
    ((0 : Int) < x_0.Value)))) && (spec_l1In x_0.Begin 0 100)) && (spec_l1In x_0.End 0 100)) && (decide (x_0.Begin < x_0.End)))

/-- spec.GoodCalls -/
def spec_GoodCalls_b1 (x2 : Call) (i38 : Nat) (x39 : Call) : Option (Oc Unit (Oc Unit Bool)) := (if (((decide (x39.Client = x2.Client)) && (decide (x2.Begin < x39.End))) &&
    (decide (x39.Begin < x2.End))) = true then (some (.ret (.ret false))) else (some (.nxt ())))
def spec_GoodCalls_j1  : Option (Oc Unit Bool) := (some (.nxt ()))
def spec_GoodCalls_b2 (l_0 : List Call) (i1 : Nat) (x2 : Call) : Option (Oc Unit Bool) := (if (!(spec_l15Call x2)) = true then (some (.ret false)) else ((sl l_0 0
    (i1 : Int)).bind fun l35 => (jn (rangeL (fun i38 x39 _ => spec_GoodCalls_b1 x2 i38 x39 ) l35 ()) (fun _ => spec_GoodCalls_j1 ))))
def spec_GoodCalls_j2 (l_0 : List Call)  : Option Bool := (some (decide ((List.length l_0 : Int) ≤ 7)))
def spec_GoodCalls (l_0 : List Call) : Option Bool := (jn (rangeL (fun i1 x2 _ => spec_GoodCalls_b2 l_0 i1 x2 ) l_0 ()) (fun _ => spec_GoodCalls_j2 l_0 ))

/-- spec.OnObject -/
def spec_OnObject_b1 (object_1 : Int) (i24 : Nat) (x25 : Call) (s19 : List Call) : Option (Oc (List Call) ((List Call) × Bool)) := (if (decide
    (x25.Object = object_1)) = true then ((appN 48 s19 [x25]).bind fun l62 => (some (.nxt l62))) else (some (.nxt s19)))
def spec_OnObject_j1 (s74 : List Call)  : Option ((List Call) × Bool) := (some (s74, true))
def spec_OnObject (l_0 : List Call) (object_1 : Int) : Option ((List Call) × Bool) := ((spec_GoodCalls l_0).bind fun v1 => (if ((!v1) || (!(spec_l1In object_1 0 2))) = true then
    (some ([], false)) else (jn (rangeL (fun i24 x25 s73 => spec_OnObject_b1 object_1 i24 x25 s73) l_0 ([] : (List Call))) (fun s85 => spec_OnObject_j1 s85))))

/-- laws.toCall -/
def laws_toCall (a_0 : Call) : Call := a_0

/-- laws.toCallS -/
def laws_toCallS_b1 (a_0 : List Call) (s14 : Int) (s15 : List Call) : Option (Oc (Int × (List Call)) (List Call)) := (if (decide (s14 < (List.length a_0 : Int))) = true then
    ((geti a_0 s14).bind fun x40 => ((geti s15 s14).bind fun x43 => (some (.nxt ((IntKind.wrap .i64 (s14 + 1)),
    (List.set s15 s14.toNat (laws_toCall x40))))))) else (some (.brk (s14, s15))))
def laws_toCallS_j1 (s56 : Int) (s57 : List Call)  : Option (List Call) := (some s57)
def laws_toCallS (k : Nat) (a_0 : List Call) : Option (List Call) := ((mkN 48 (List.length a_0 : Int) (Call.mk (0 : Int) (0 : Int) false (0 : Int) (0 : Int)
    (0 : Int))).bind fun l1 => (jn (loopF (fun s55 => laws_toCallS_b1 a_0 s55.1 s55.2) k (0, l1)) (fun s66 => laws_toCallS_j1 s66.1 s66.2)))

/-- impl.in -/
def impl_in (n_0 : Int) (low_1 : Int) (high_2 : Int) : Bool := ((decide (low_1 ≤ n_0)) && (decide (n_0 ≤ high_2)))

/-- impl.areCalls -/
def impl_areCalls_b1 (x2 : Call) (i125 : Nat) (x126 : Call) : Option (Oc Unit (Oc Unit Bool)) := (if (((decide (x2.Client = x126.Client)) && (decide (x126.Begin < x2.End))) &&
    (decide (x2.Begin < x126.End))) = true then (some (.ret (.ret false))) else (some (.nxt ())))
def impl_areCalls_j2  : Option (Oc Unit Bool) := (some (.nxt ()))
def impl_areCalls_j1 (v_0 : List Call) (i1 : Nat) (x2 : Call) (s31 : Int)  : Option (Oc Unit Bool) := (if ((((((!(impl_in x2.Client 0 3)) || (!(impl_in x2.Object 0 2))) ||
    (!(impl_in x2.Value s31 9))) || (!(impl_in x2.Begin 0 100))) || (!(impl_in x2.End 0 100))) || (decide (x2.End ≤ x2.Begin))) = true then (some (.ret false)) else ((sl v_0 0
    (i1 : Int)).bind fun l122 => (jn (rangeL (fun i125 x126 _ => impl_areCalls_b1 x2 i125 x126 ) l122 ()) (fun _ => impl_areCalls_j2 ))))
def impl_areCalls_b2 (v_0 : List Call) (i1 : Nat) (x2 : Call) : Option (Oc Unit Bool) := ((if x2.Write = true then (some 1) else (some 0)).bind
    (fun s210 => impl_areCalls_j1 v_0 i1 x2 s210))
def impl_areCalls_j3 (v_0 : List Call)  : Option Bool := (some (decide ((List.length v_0 : Int) ≤ 7)))
def impl_areCalls (v_0 : List Call) : Option Bool := (jn (rangeL (fun i1 x2 _ => impl_areCalls_b2 v_0 i1 x2 ) v_0 ()) (fun _ => impl_areCalls_j3 v_0 ))

/-- impl.Call] -/
def slices_IndexFunc_Call_b1 (f_1 : Call → Option Bool) (i1 : Nat) (x2 : Call) : Option (Oc Unit Int) := ((f_1 x2).bind fun v23 => (if v23 = true then (some (.ret
    (i1 : Int))) else (some (.nxt ()))))
def slices_IndexFunc_Call_j1  : Option Int := (some (-1))
def slices_IndexFunc_Call (s_0 : List Call) (f_1 : Call → Option Bool) : Option Int := (jn (rangeL (fun i1 x2 _ => slices_IndexFunc_Call_b1 f_1 i1 x2 ) s_0 ())
    (fun _ => slices_IndexFunc_Call_j1 ))

/-- impl.Call] -/
def slices_DeleteFunc_Call_b1 (del_1 : Call → Option Bool) (s10 : Int) (s11 : Int) (s12 : List Call) : Option (Oc (Int × Int × (List Call)) (List Call)) := (if (decide (s11 <
    (List.length s12 : Int))) = true then ((geti s12 s11).bind fun x38 => ((del_1 x38).bind fun v51 => (if (!v51) = true then ((geti s12 s10).bind fun x55 => (some (.nxt
    ((IntKind.wrap .i64 (s10 + 1)), (IntKind.wrap .i64 (s11 + 1)), (List.set s12 s10.toNat x38))))) else (some (.nxt (s10, (IntKind.wrap .i64 (s11 + 1)),
    s12)))))) else (some (.brk (s10, s11, s12))))
def slices_DeleteFunc_Call_j1 (s67 : Int) (s68 : Int) (s69 : List Call)  : Option (List Call) := ((clrF s69 s67 (Call.mk (0 : Int) (0 : Int) false (0 : Int) (0 : Int)
    (0 : Int))).bind fun l79 => ((sl l79 0 s67).bind fun l88 => (some l88)))
def slices_DeleteFunc_Call (k : Nat) (s_0 : List Call) (del_1 : Call → Option Bool) : Option (List Call) := ((slices_IndexFunc_Call s_0 del_1).bind fun v1 => (if (decide (v1 =
    (-1))) = true then (some s_0) else (jn (loopF (fun s66 => slices_DeleteFunc_Call_b1 del_1 s66.1 s66.2.1 s66.2.2) k (v1, (IntKind.wrap .i64 (v1 + 1)),
    s_0)) (fun s95 => slices_DeleteFunc_Call_j1 s95.1 s95.2.1 s95.2.2))))

/-- impl.OnObject$1 -/
def impl_OnObject_1 (c_0 : Call) (cap_0 : Int) : Bool := (decide (c_0.Object ≠ cap_0))

/-- impl.OnObject -/
def impl_OnObject (k : Nat) (l_0 : List Call) (object_1 : Int) : Option ((List Call) × Bool) := ((impl_areCalls l_0).bind fun v7 => (if ((!v7) ||
    (!(impl_in object_1 0 2))) = true then (some ([],
    false)) else ((appN 48 ([] : List Call) l_0).bind fun l26 => ((slices_DeleteFunc_Call k l26 (fun a0 => some (impl_OnObject_1 a0 object_1))).bind fun v35 => (some (v35,
    true))))))

/-- laws.eqCall -/
def laws_eqCall (a_0 : Call) (b_1 : Call) : Option Bool := (if (decide (a_0.Client ≠ b_1.Client)) = true then (some false) else (if (decide (a_0.Object ≠ b_1.Object)) = true then
    (some false) else (if (!(a_0.Write == b_1.Write)) = true then (some false) else (if (decide (a_0.Value ≠ b_1.Value)) = true then (some false) else (if (decide
    (a_0.Begin ≠ b_1.Begin)) = true then (some false) else (if (decide (a_0.End ≠ b_1.End)) = true then (some false) else (some true)))))))

/-- laws.eqCallS -/
def laws_eqCallS_b1 (a_0 : List Call) (b_1 : List Call) (s3 : Int) : Option (Oc Int Bool) := (if (decide (s3 < (List.length a_0 : Int))) = true then
    ((geti a_0 s3).bind fun x26 => ((geti b_1 s3).bind fun x29 => ((laws_eqCall x26 x29).bind fun v32 => (if (!v32) = true then (some (.ret false)) else (some (.nxt
    (IntKind.wrap .i64 (s3 + 1)))))))) else (some (.brk s3)))
def laws_eqCallS_j1 (s42 : Int)  : Option Bool := (some true)
def laws_eqCallS (k : Nat) (a_0 : List Call) (b_1 : List Call) : Option Bool := (if (decide ((List.length a_0 : Int) ≠ (List.length b_1 : Int))) = true then (some false) else (jn
    (loopF (fun s41 => laws_eqCallS_b1 a_0 b_1 s41) k 0) (fun s49 => laws_eqCallS_j1 s49)))

/-- laws.markCallS -/
def laws_markCallS_b1 (s6 : Int) (s7 : Int) (s8 : List Call) : Option (Oc (Int × Int × (List Call)) (Int × (List Call))) := (if (decide (s7 < (List.length s8 : Int))) = true then
    ((geti s8 s7).bind fun x33 => (some (.nxt ((IntKind.wrap .i64 ((IntKind.wrap .i64 ((IntKind.wrap .i64 ((IntKind.wrap .i64 ((IntKind.wrap .i64 ((IntKind.wrap .i64
    (s6 + 1)) + 1)) + 1)) + 1)) + 1)) + 1)), (IntKind.wrap .i64 (s7 + 1)),
    (List.set s8 s7.toNat (Call.mk s6 (IntKind.wrap .i64 (s6 + 1)) (decide ((Int.tmod (IntKind.wrap .i64 ((IntKind.wrap .i64 (s6 + 1)) + 1)) 3) = 0)) (IntKind.wrap .i64
    ((IntKind.wrap .i64 ((IntKind.wrap .i64 (s6 + 1)) + 1)) + 1)) (IntKind.wrap .i64 ((IntKind.wrap .i64 ((IntKind.wrap .i64 ((IntKind.wrap .i64 (s6 + 1)) + 1)) + 1)) + 1))
    (IntKind.wrap .i64 ((IntKind.wrap .i64 ((IntKind.wrap .i64 ((IntKind.wrap .i64 ((IntKind.wrap .i64 (s6 + 1)) + 1)) + 1)) + 1)) + 1)))))))) else (some (.brk (s6, s7, s8))))
def laws_markCallS_j1 (s71 : Int) (s72 : Int) (s73 : List Call)  : Option (Int × (List Call)) := (some (s71, s73))
def laws_markCallS (k : Nat) (a_0 : List Call) (k_1 : Int) : Option (Int × (List Call)) := (jn (loopF (fun s70 => laws_markCallS_b1 s70.1 s70.2.1 s70.2.2) k (k_1, 0,
    a_0)) (fun s82 => laws_markCallS_j1 s82.1 s82.2.1 s82.2.2))

/-- laws.heldCallS -/
def laws_heldCallS_b1 (v_0 : List Call) (s3 : Int) (s4 : Int) : Option (Oc (Int × Int) Int) := (if (decide (s4 < (List.length v_0 : Int))) = true then
    ((geti v_0 s4).bind fun x27 => (if (decide (x27.Client ≠ s3)) = true then (some (.ret (-1))) else ((geti v_0 s4).bind fun x34 => (if (decide (x34.Object ≠ (IntKind.wrap .i64
    (s3 + 1)))) = true then (some (.ret (-1))) else ((geti v_0 s4).bind fun x41 => (if (!(x41.Write == (decide ((Int.tmod (IntKind.wrap .i64 ((IntKind.wrap .i64
    (s3 + 1)) + 1)) 3) = 0)))) = true then (some (.ret (-1))) else ((geti v_0 s4).bind fun x48 => (if (decide (x48.Value ≠ (IntKind.wrap .i64 ((IntKind.wrap .i64
    ((IntKind.wrap .i64 (s3 + 1)) + 1)) + 1)))) = true then (some (.ret (-1))) else ((geti v_0 s4).bind fun x55 => (if (decide (x55.Begin ≠ (IntKind.wrap .i64 ((IntKind.wrap .i64
    ((IntKind.wrap .i64 ((IntKind.wrap .i64 (s3 + 1)) + 1)) + 1)) + 1)))) = true then (some (.ret (-1))) else ((geti v_0 s4).bind fun x62 => (if (decide (x62.End ≠
    (IntKind.wrap .i64 ((IntKind.wrap .i64 ((IntKind.wrap .i64 ((IntKind.wrap .i64 ((IntKind.wrap .i64 (s3 + 1)) + 1)) + 1)) + 1)) + 1)))) = true then (some (.ret (-1))) else
    (some (.nxt ((IntKind.wrap .i64 ((IntKind.wrap .i64 ((IntKind.wrap .i64 ((IntKind.wrap .i64 ((IntKind.wrap .i64 ((IntKind.wrap .i64 (s3 + 1)) + 1)) + 1)) + 1)) + 1)) + 1)),
    (IntKind.wrap .i64 (s4 + 1))))))))))))))))) else (some (.brk (s3, s4))))
def laws_heldCallS_j1 (s72 : Int) (s73 : Int)  : Option Int := (some s72)
def laws_heldCallS (k : Nat) (v_0 : List Call) (v_1 : Int) : Option Int := (jn (loopF (fun s71 => laws_heldCallS_b1 v_0 s71.1 s71.2) k (v_1,
    0)) (fun s80 => laws_heldCallS_j1 s80.1 s80.2))

/-- laws.FnExactOnObject -/
def laws_FnExactOnObject (k : Nat) (v_0 : List Call) (v_1 : Int) : Option Bool := ((laws_szCallS v_0 1048576).bind fun v1 => (if (decide (v1 < 0)) = true then (some true) else
    ((laws_toCallS k v_0).bind fun v5 => ((spec_OnObject v5 v_1).bind fun v17 => ((laws_toCallS k v_0).bind fun v20 => ((impl_OnObject k v20 v_1).bind fun v32 =>
    ((laws_eqCallS k v32.1 v17.1).bind fun v44 => (if ((!v44) || (!(v32.2 == v17.2))) = true then (some false) else ((laws_toCallS k v_0).bind fun v62 =>
    ((laws_eqCallS k v20 v62).bind fun v74 => (if (!v74) = true then (some false) else ((laws_markCallS k v20 1).bind fun v78 => ((if (decide (v78.1 < 0)) = true then
    (some true) else ((laws_eqCallS k v32.1 v17.1).bind fun v88 => (some (!v88)))).bind fun v88 => (if (v88 || (!(v32.2 == v17.2))) = true then (some false) else
    ((laws_markCallS k v32.1 1).bind fun v119 => ((laws_heldCallS k v119.2 1).bind fun v126 => (if (decide (v126 < 0)) = true then (some false) else (if (decide
    (v126 ≠ v119.1)) = true then (some false) else ((laws_toCallS k v_0).bind fun v131 => ((impl_OnObject k v131 v_1).bind fun v143 =>
    ((laws_eqCallS k v143.1 v17.1).bind fun v155 => (if ((!v155) || (!(v143.2 == v17.2))) = true then (some false) else ((laws_heldCallS k v119.2 1).bind fun v168 => (if (decide
    (v168 < 0)) = true then (some false) else (if (decide (v168 ≠ v119.1)) = true then (some false) else (some true))))))))))))))))))))))))))
end Go.Proofs.Ytddkoiapboeemaa.X
