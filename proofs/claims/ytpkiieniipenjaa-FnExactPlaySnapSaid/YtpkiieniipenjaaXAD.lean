/- The seat's types and functions, as plain Lean has them. -/
import Derived.Test.YtpkiieniipenjaaXSlW
set_option linter.unusedVariables false
set_option linter.unusedSimpArgs false
set_option maxRecDepth 100000
namespace Go.Proofs.Ytpkiieniipenjaa.X
open Go
open Nat (reduceEqDiff)
structure BoundsError where
  x : Int
  y : Int
  signed : Bool
  code : Int
  deriving DecidableEq, Inhabited
def BoundsError.cells (x : BoundsError) : List XV := [.int .i64 x.x, .int .i64 x.y, .bool x.signed, .int .u8 x.code]
structure Chan where
  From : Int
  To : Int
  Way : List Int
  deriving DecidableEq, Inhabited
def Chan.cells (x : Chan) : List XV := [.int .i64 x.From, .int .i64 x.To, lst cI x.Way]
structure Picture where
  Taken : Bool
  Amount : Int
  In : List Int
  Closed : List Bool
  deriving DecidableEq, Inhabited
def Picture.cells (x : Picture) : List XV := [.bool x.Taken, .int .i64 x.Amount, lst cI x.In, lst cB x.Closed]
structure Snap where
  Amounts : List Int
  Chans : List Chan
  Pictures : List Picture
  Sent : Int
  Total : Int
  deriving DecidableEq, Inhabited
def Snap.cells (x : Snap) : List XV := [lst cI x.Amounts, lst Chan.cells x.Chans, lst Picture.cells x.Pictures, .int .i64 x.Sent, .int .i64 x.Total]
structure SnapStep where
  Kind : Int
  K : Int
  N : Int
  deriving DecidableEq, Inhabited
def SnapStep.cells (x : SnapStep) : List XV := [.int .i64 x.Kind, .int .i64 x.K, .int .i64 x.N]
structure L1Cur where
  code : List Int
  at_ : Int
  seed : Int
  deriving DecidableEq, Inhabited
def L1Cur.cells (x : L1Cur) : List XV := [lst cU8 x.code, .int .i64 x.at_, .int .u64 x.seed]

/-- impl.in -/
def impl_in (n_0 : Int) (low_1 : Int) (high_2 : Int) : Bool := ((decide (low_1 ≤ n_0)) && (decide (n_0 ≤ high_2)))

/-- impl.newSnap -/
def impl_newSnap_b1 (i37 : Nat) (l67 : List Int) (l102 : List Picture) (i123 : Nat) (s118 : Snap) : Option (Oc Snap (Oc Snap Snap)) := (if (decide ((i123 : Int) ≠
    (i37 : Int))) = true then ((appN 40 s118.Chans ([(Chan.mk (i37 : Int) (i123 : Int) [])])).bind fun l157 => (some (.nxt (Snap.mk l67 l157 l102 s118.Sent s118.Total)))) else
    (some (.nxt (Snap.mk l67 s118.Chans l102 s118.Sent s118.Total))))
def impl_newSnap_j1 (l67 : List Int) (l102 : List Picture) (s171 : Snap)  : Option (Oc Snap Snap) := (some (.nxt (Snap.mk l67 s171.Chans l102 s171.Sent s171.Total)))
def impl_newSnap_b2 (procs_0 : Int) (amount_1 : Int) (i37 : Nat) (s24 : Snap) : Option (Oc Snap Snap) := ((appN 8 s24.Amounts [amount_1]).bind fun l67 => ((mkN 8 procs_0
    (0 : Int)).bind fun l78 => ((mkN 1 procs_0 false).bind fun l87 => ((appN 64 s24.Pictures [(Picture.mk false 0 l78 l87)]).bind fun l102 => (jn (rangeI
    (fun i123 s170 => impl_newSnap_b1 i37 l67 l102 i123 s170) procs_0 (Snap.mk l67 s24.Chans l102 s24.Sent s24.Total)) (fun s187 => impl_newSnap_j1 l67 l102 s187))))))
def impl_newSnap_j2 (s189 : Snap)  : Option Snap := (some s189)
def impl_newSnap (procs_0 : Int) (amount_1 : Int) : Option Snap := (jn (rangeI (fun i37 s188 => impl_newSnap_b2 procs_0 amount_1 i37 s188) procs_0 (Snap.mk [] [] [] 0
    (IntKind.wrap .i64 (procs_0 * amount_1)))) (fun s211 => impl_newSnap_j2 s211))

/-- impl.Snap).take -/
def impl_Snap_take_b1 (v_0 : Snap) (v_1 : Int) (i7 : Nat) (s4 : List Chan) : Option (Oc (List Chan) (Bool × Snap)) := ((geti s4 (i7 : Int)).bind fun x30 => (if ((decide
    (x30.From = v_1)) && (decide ((List.length x30.Way : Int) = 8))) = true then (some (.ret (false,
    (Snap.mk v_0.Amounts s4 v_0.Pictures v_0.Sent v_0.Total)))) else (some (.nxt s4))))
def impl_Snap_take_b2 (v_1 : Int) (i95 : Nat) (s92 : List Chan) : Option (Oc (List Chan) (Bool × Snap)) := ((geti s92 (i95 : Int)).bind fun x117 => (if (decide
    (x117.From = v_1)) = true then ((appN 8 x117.Way [0]).bind fun l140 => (some (.nxt (List.set s92 (i95 : Int).toNat (Chan.mk x117.From x117.To l140))))) else (some (.nxt s92))))
def impl_Snap_take_j1 (v_0 : Snap) (v_1 : Int) (s165 : List Chan)  : Option (Bool × Snap) := ((geti v_0.Pictures v_1).bind fun x173 => ((geti v_0.Amounts v_1).bind fun x197 =>
    ((geti x173.Closed v_1).bind fun x206 => (some (true,
    (Snap.mk v_0.Amounts s165 (List.set v_0.Pictures v_1.toNat (Picture.mk true x197 x173.In (List.set x173.Closed v_1.toNat true))) v_0.Sent v_0.Total))))))
def impl_Snap_take_j2 (v_0 : Snap) (v_1 : Int) (s80 : List Chan)  : Option (Bool × Snap) := (jn (rangeI (fun i95 s164 => impl_Snap_take_b2 v_1 i95 s164)
    (List.length s80 : Int) s80) (fun s221 => impl_Snap_take_j1 v_0 v_1 s221))
def impl_Snap_take (v_0 : Snap) (v_1 : Int) : Option (Bool × Snap) := (jn (rangeI (fun i7 s79 => impl_Snap_take_b1 v_0 v_1 i7 s79) (List.length v_0.Chans : Int) v_0.Chans)
    (fun s222 => impl_Snap_take_j2 v_0 v_1 s222))

/-- impl.Snap).step -/
def impl_Snap_step_j1 (v_1 : SnapStep) (x65 : Chan) (x154 : Int) (v296 : Bool × Snap) (x314 : Chan) (x348 : Int) (s363 : List Chan) (s366 : List Picture)  : Option
    (Bool × Snap) := (if (decide (x154 = 0)) = true then ((geti s366 x65.To).bind fun x435 => ((geti s363 v_1.K).bind fun x453 => ((geti x435.Closed x453.From).bind fun x467 =>
    (some (true, (Snap.mk (List.set v296.2.Amounts x314.To.toNat (IntKind.wrap .i64 (x348 + x154))) s363 (List.set s366 x65.To.toNat (Picture.mk x435.Taken x435.Amount x435.In
    (List.set x435.Closed x453.From.toNat true))) v296.2.Sent v296.2.Total)))))) else (some (true,
    (Snap.mk (List.set v296.2.Amounts x314.To.toNat (IntKind.wrap .i64 (x348 + x154))) s363 s366 v296.2.Sent v296.2.Total))))
def impl_Snap_step_j2 (v_0 : Snap) (v_1 : SnapStep) (x65 : Chan) (x154 : Int) (x513 : Int) (s528 : List Chan) (s531 : List Picture)  : Option (Bool × Snap) := (if (decide
    (x154 = 0)) = true then ((geti s531 x65.To).bind fun x597 => ((geti s528 v_1.K).bind fun x615 => ((geti x597.Closed x615.From).bind fun x629 => (some (true,
    (Snap.mk (List.set v_0.Amounts x65.To.toNat (IntKind.wrap .i64 (x513 + x154))) s528 (List.set s531 x65.To.toNat (Picture.mk x597.Taken x597.Amount x597.In
    (List.set x597.Closed x615.From.toNat true))) v_0.Sent v_0.Total)))))) else (some (true,
    (Snap.mk (List.set v_0.Amounts x65.To.toNat (IntKind.wrap .i64 (x513 + x154))) s528 s531 v_0.Sent v_0.Total))))
def impl_Snap_step (v_0 : Snap) (v_1 : SnapStep) : Option (Bool × Snap) := (if ((decide (v_1.Kind ≠ 1)) && (decide (v_1.N ≠ 0))) = true then (some (false,
    v_0)) else (if (decide (v_1.Kind = 3)) = true then ((if (impl_in v_1.K 0 (IntKind.wrap .i64 ((List.length v_0.Amounts : Int) - 1))) = true then
    ((geti v_0.Pictures v_1.K).bind fun x21 => (some (!x21.Taken))) else (some false)).bind fun v21 => (if v21 = true then ((impl_Snap_take v_0 v_1.K).bind fun v53 => (some
    (v53.1, v53.2))) else (some (false, v_0)))) else (if (!(impl_in v_1.K 0 (IntKind.wrap .i64 ((List.length v_0.Chans : Int) - 1)))) = true then (some (false,
    v_0)) else ((geti v_0.Chans v_1.K).bind fun x65 => ((geti v_0.Pictures x65.To).bind fun x81 => (if (decide (v_1.Kind = 1)) = true then
    ((geti v_0.Amounts x65.From).bind fun x87 => (if (((!(impl_in v_1.N 1 x87)) || (decide ((List.length x65.Way : Int) = 8))) || (decide (v_0.Sent = 1000))) = true then (some
    (false, v_0)) else ((appN 8 x65.Way [v_1.N]).bind fun l128 => (some (true,
    (Snap.mk (List.set v_0.Amounts x65.From.toNat (IntKind.wrap .i64 (x87 - v_1.N))) (List.set v_0.Chans v_1.K.toNat (Chan.mk x65.From x65.To l128)) v_0.Pictures
    (IntKind.wrap .i64 (v_0.Sent + 1)) v_0.Total)))))) else (if (decide (v_1.Kind = 2)) = true then (if (decide ((List.length x65.Way : Int) = 0)) = true then (some (false,
    v_0)) else ((geti x65.Way (0 : Int)).bind fun x154 => ((if ((decide ((0 : Int) < x154)) && x81.Taken) = true then ((geti x81.Closed x65.From).bind fun x203 => (some
    (!x203))) else (some false)).bind fun v188 => ((if v188 = true then ((geti x81.In x65.From).bind fun x239 => (some (decide ((1000000 : Int) < (IntKind.wrap .i64
    (x239 + x154)))))) else (some false)).bind fun v224 => (if v224 = true then (some (false,
    v_0)) else (if ((decide (x154 = 0)) && (!x81.Taken)) = true then ((impl_Snap_take v_0 x65.To).bind fun v296 => (if (!v296.1) = true then (some (false,
    v296.2)) else ((geti v296.2.Chans v_1.K).bind fun x314 => ((sl x314.Way 1 (List.length x314.Way)).bind fun l328 => ((appN 8 ([] : List Int) l328).bind fun l335 =>
    ((geti v296.2.Amounts x314.To).bind fun x348 => ((if v188 = true then ((geti v296.2.Pictures x65.To).bind fun x378 => ((geti x378.In
    ((Chan.mk x314.From x314.To l335).From)).bind fun x407 => (some ((List.set v296.2.Chans v_1.K.toNat (Chan.mk x314.From x314.To l335)),
    (List.set v296.2.Pictures x65.To.toNat (Picture.mk x378.Taken x378.Amount (List.set x378.In ((Chan.mk x314.From x314.To l335).From).toNat (IntKind.wrap .i64
    (x407 + x154))) x378.Closed)))))) else (some ((List.set v296.2.Chans v_1.K.toNat (Chan.mk x314.From x314.To l335)),
    v296.2.Pictures))).bind (fun s486 => impl_Snap_step_j1 v_1 x65 x154 v296 x314 x348 s486.1 s486.2)))))))) else ((sl x65.Way 1 (List.length x65.Way)).bind fun l493 => ((appN 8
    ([] : List Int) l493).bind fun l500 => ((geti v_0.Amounts x65.To).bind fun x513 => ((if v188 = true then ((geti x81.In ((Chan.mk x65.From x65.To l500).From)).bind fun x569 =>
    (some ((List.set v_0.Chans v_1.K.toNat (Chan.mk x65.From x65.To l500)),
    (List.set v_0.Pictures x65.To.toNat (Picture.mk x81.Taken x81.Amount (List.set x81.In ((Chan.mk x65.From x65.To l500).From).toNat (IntKind.wrap .i64
    (x569 + x154))) x81.Closed))))) else (some ((List.set v_0.Chans v_1.K.toNat (Chan.mk x65.From x65.To l500)),
    v_0.Pictures))).bind (fun s648 => impl_Snap_step_j2 v_0 v_1 x65 x154 x513 s648.1 s648.2))))))))))) else (some (false, v_0)))))))))

/-- impl.PlaySnap -/
def impl_PlaySnap_b1 (i92 : Nat) (x93 : SnapStep) (s77 : List Bool) (s82 : Snap) (s83 : List Int) (s86 : List Chan) (s89 : List Picture) : Option (Oc ((List Bool) × Snap ×
    (List Int) × (List Chan) × (List Picture)) (Snap × (List Bool) × Bool)) := ((impl_Snap_step (Snap.mk s83 s86 s89 s82.Sent s82.Total) x93).bind fun v124 =>
    ((appN 1 s77 [v124.1]).bind fun l141 => (some (.nxt (l141, v124.2, v124.2.Amounts, v124.2.Chans, v124.2.Pictures)))))
def impl_PlaySnap_j1 (s152 : List Bool) (s157 : Snap) (s158 : List Int) (s161 : List Chan) (s164 : List Picture)  : Option (Snap × (List Bool) × Bool) := (some
    ((Snap.mk s158 s161 s164 s157.Sent s157.Total), s152, true))
def impl_PlaySnap (procs_0 : Int) (amount_1 : Int) (l_2 : List SnapStep) : Option (Snap × (List Bool) × Bool) := (if (((!(impl_in procs_0 2 4)) || (!(impl_in amount_1 0 250))) ||
    (decide ((80 : Int) < (List.length l_2 : Int)))) = true then (some ((Snap.mk [] [] [] 0 0), [],
    false)) else ((impl_newSnap procs_0 amount_1).bind fun v30 => (jn (rangeL
    (fun i92 x93 s151 => impl_PlaySnap_b1 i92 x93 s151.1 s151.2.1 s151.2.2.1 s151.2.2.2.1 s151.2.2.2.2) l_2 (([] : List Bool), v30, v30.Amounts, v30.Chans,
    v30.Pictures)) (fun s176 => impl_PlaySnap_j1 s176.1 s176.2.1 s176.2.2.1 s176.2.2.2.1 s176.2.2.2.2))))

/-- spec.l8Chans -/
def spec_l8Chans_b1 (procs_0 : Int) (s12 : Int) (s41 : List Chan) (s46 : Int) : Option (Oc ((List Chan) × Int) (Oc ((List Chan) × Int) (List Chan))) := (if (decide
    (s46 < procs_0)) = true then (if (decide (s12 ≠ s46)) = true then ((appN 40 s41 ([(Chan.mk s12 s46 [])])).bind fun l77 => (some (.nxt (l77,
    (IntKind.wrap .i64 (s46 + 1)))))) else (some (.nxt (s41, (IntKind.wrap .i64 (s46 + 1)))))) else (some (.brk (s41, s46))))
def spec_l8Chans_j1 (s12 : Int) (s90 : List Chan) (s95 : Int)  : Option (Oc ((List Chan) × Int) (List Chan)) := (some (.nxt (s90, (IntKind.wrap .i64 (s12 + 1)))))
def spec_l8Chans_b2 (k : Nat) (procs_0 : Int) (s7 : List Chan) (s12 : Int) : Option (Oc ((List Chan) × Int) (List Chan)) := (if (decide (s12 < procs_0)) = true then (jn (loopF
    (fun s89 => spec_l8Chans_b1 procs_0 s12 s89.1 s89.2) k (s7, 0)) (fun s104 => spec_l8Chans_j1 s12 s104.1 s104.2)) else (some (.brk (s7, s12))))
def spec_l8Chans_j2 (s107 : List Chan) (s112 : Int)  : Option (List Chan) := (some s107)
def spec_l8Chans (k : Nat) (procs_0 : Int) : Option (List Chan) := (jn (loopF (fun s106 => spec_l8Chans_b2 k procs_0 s106.1 s106.2) k (([],
    0) : (List Chan) × Int)) (fun s119 => spec_l8Chans_j2 s119.1 s119.2))

/-- spec.l1In -/
def spec_l1In (n_0 : Int) (lo_1 : Int) (hi_2 : Int) : Bool := ((decide (lo_1 ≤ n_0)) && (decide (n_0 ≤ hi_2)))

/-- spec.NewSnap -/
def spec_NewSnap_b1 (procs_0 : Int) (amount_1 : Int) (v18 : List Chan) (s46 : Int) (s47 : Snap) : Option (Oc (Int × Snap) (Snap × Bool)) := (if (decide
    (s46 < procs_0)) = true then ((appN 8 s47.Amounts [amount_1]).bind fun l86 => ((mkN 8 procs_0 (0 : Int)).bind fun l97 => ((mkN 1 procs_0 false).bind fun l106 =>
    ((appN 64 s47.Pictures [(Picture.mk false 0 l97 l106)]).bind fun l121 => (some (.nxt ((IntKind.wrap .i64 (s46 + 1)),
    (Snap.mk l86 v18 l121 s47.Sent s47.Total)))))))) else (some (.brk (s46, (Snap.mk s47.Amounts v18 s47.Pictures s47.Sent s47.Total)))))
def spec_NewSnap_j1 (v18 : List Chan) (s135 : Int) (s136 : Snap)  : Option (Snap × Bool) := (some ((Snap.mk s136.Amounts v18 s136.Pictures s136.Sent s136.Total), true))
def spec_NewSnap (k : Nat) (procs_0 : Int) (amount_1 : Int) : Option (Snap × Bool) := (if ((!(spec_l1In procs_0 2 4)) || (!(spec_l1In amount_1 0 250))) = true then (some
    ((Snap.mk [] [] [] 0 0), false)) else ((spec_l8Chans k procs_0).bind fun v18 => (jn (loopF (fun s134 => spec_NewSnap_b1 procs_0 amount_1 v18 s134.1 s134.2) k (0,
    (Snap.mk [] v18 [] 0 (IntKind.wrap .i64 (procs_0 * amount_1))))) (fun s155 => spec_NewSnap_j1 v18 s155.1 s155.2))))

/-- spec.l8Take -/
def spec_l8Take_b1 (v_0 : Snap) (v_1 : Int) (i17 : Nat) (s14 : List Chan) : Option (Oc (List Chan) (Snap × Bool)) := ((geti s14 (i17 : Int)).bind fun x41 => (if ((decide
    (x41.From = v_1)) && (decide ((List.length x41.Way : Int) = 8))) = true then (some (.ret ((Snap.mk v_0.Amounts s14 v_0.Pictures v_0.Sent v_0.Total),
    false))) else (some (.nxt s14))))
def spec_l8Take_b2 (v_1 : Int) (i110 : Nat) (s107 : List Chan) : Option (Oc (List Chan) (Snap × Bool)) := ((geti s107 (i110 : Int)).bind fun x134 => (if (decide
    (x134.From = v_1)) = true then ((appN 8 x134.Way [0]).bind fun l165 => (some (.nxt (List.set s107 (i110 : Int).toNat (Chan.mk x134.From x134.To l165))))) else (some
    (.nxt s107))))
def spec_l8Take_j1 (v_0 : Snap) (v_1 : Int) (s190 : List Chan)  : Option (Snap × Bool) := ((geti v_0.Pictures v_1).bind fun x200 => ((geti v_0.Amounts v_1).bind fun x224 =>
    ((geti x200.Closed v_1).bind fun x233 => (some ((Snap.mk v_0.Amounts s190 (List.set v_0.Pictures v_1.toNat (Picture.mk true x224 x200.In
    (List.set x200.Closed v_1.toNat true))) v_0.Sent v_0.Total), true)))))
def spec_l8Take_j2 (v_0 : Snap) (v_1 : Int) (s94 : List Chan)  : Option (Snap × Bool) := (jn (rangeI (fun i110 s189 => spec_l8Take_b2 v_1 i110 s189) (List.length s94 : Int) s94)
    (fun s250 => spec_l8Take_j1 v_0 v_1 s250))
def spec_l8Take (v_0 : Snap) (v_1 : Int) : Option (Snap × Bool) := (jn (rangeI (fun i17 s93 => spec_l8Take_b1 v_0 v_1 i17 s93) (List.length v_0.Chans : Int) v_0.Chans)
    (fun s251 => spec_l8Take_j2 v_0 v_1 s251))

/-- spec.l8Come -/
def spec_l8Come_j1 (v_0 : Snap) (v_1 : Int) (x9 : Chan) (x33 : Int) (l51 : List Int) (x65 : Int) (s125 : List Picture)  : Option (Snap × Bool) := (some ((Snap.mk
    (List.set v_0.Amounts x9.To.toNat (IntKind.wrap .i64 (x65 + x33))) (List.set v_0.Chans v_1.toNat (Chan.mk x9.From x9.To l51)) s125 v_0.Sent v_0.Total), true))
def spec_l8Come_j2 (x9 : Chan) (s205 : Snap) (s206 : List Int) (s209 : List Chan) (s212 : List Picture)  : Option (Snap × Bool) := ((geti s212 x9.To).bind fun x256 =>
    ((geti x256.Closed x9.From).bind fun x274 => (some ((Snap.mk s206 s209 (List.set s212 x9.To.toNat (Picture.mk x256.Taken x256.Amount x256.In
    (List.set x256.Closed x9.From.toNat true))) s205.Sent s205.Total), true))))
def spec_l8Come (v_0 : Snap) (v_1 : Int) : Option (Snap × Bool) := ((geti v_0.Chans v_1).bind fun x9 => ((geti x9.Way (0 : Int)).bind fun x33 => ((sl x9.Way 1
    (List.length x9.Way)).bind fun l44 => ((appN 8 ([] : List Int) l44).bind fun l51 => (if (decide ((0 : Int) < x33)) = true then ((geti v_0.Amounts x9.To).bind fun x65 =>
    ((geti v_0.Pictures x9.To).bind fun x75 => ((if x75.Taken = true then ((geti x75.Closed x9.From).bind fun x98 => (some (!x98))) else (some false)).bind fun v98 =>
    ((if v98 = true then ((geti x75.In x9.From).bind fun x151 => (some (List.set v_0.Pictures x9.To.toNat (Picture.mk x75.Taken x75.Amount (List.set x75.In x9.From.toNat
    (IntKind.wrap .i64 (x151 + x33))) x75.Closed)))) else (some v_0.Pictures)).bind (fun s175 => spec_l8Come_j1 v_0 v_1 x9 x33 l51 x65 s175))))) else
    ((geti v_0.Pictures x9.To).bind fun x176 => (jn (if (!x176.Taken) = true then ((spec_l8Take (Snap.mk v_0.Amounts (List.set v_0.Chans v_1.toNat
    (Chan.mk x9.From x9.To l51)) v_0.Pictures v_0.Sent v_0.Total) x9.To).bind fun v223 => (if (!v223.2) = true then (some (.ret
    ((Snap.mk v223.1.Amounts v223.1.Chans v223.1.Pictures v_0.Sent v_0.Total), false))) else (some (.nxt (v223.1, v223.1.Amounts, v223.1.Chans,
    v223.1.Pictures))))) else (some (.nxt ((Snap.mk v_0.Amounts (List.set v_0.Chans v_1.toNat (Chan.mk x9.From x9.To l51)) v_0.Pictures v_0.Sent v_0.Total), v_0.Amounts,
    (List.set v_0.Chans v_1.toNat (Chan.mk x9.From x9.To l51)), v_0.Pictures)))) (fun s291 => spec_l8Come_j2 x9 s291.1 s291.2.1 s291.2.2.1 s291.2.2.2))))))))

/-- spec.l8Step -/
def spec_l8Step (v_0 : Snap) (v_1 : SnapStep) : Option (Snap × Bool) := (if (decide (v_1.Kind = 3)) = true then ((if (((decide (v_1.N ≠ 0)) || (decide (v_1.K < 0))) || (decide
    ((List.length v_0.Amounts : Int) ≤ v_1.K))) = true then (some true) else ((geti v_0.Pictures v_1.K).bind fun x39 => (some x39.Taken))).bind fun v39 => (if v39 = true then
    (some (v_0, false)) else ((spec_l8Take v_0 v_1.K).bind fun v74 => (some (v74.1,
    v74.2))))) else (if ((decide (v_1.K < 0)) || (decide ((List.length v_0.Chans : Int) ≤ v_1.K))) = true then (some (v_0,
    false)) else ((geti v_0.Chans v_1.K).bind fun x100 => (if (decide (v_1.Kind = 1)) = true then ((if (decide (v_1.N < 1)) = true then (some true) else
    ((geti v_0.Amounts x100.From).bind fun x128 => (some (decide (x128 < v_1.N))))).bind fun v128 => (if ((v128 || (decide ((List.length x100.Way : Int) = 8))) || (decide
    (v_0.Sent = 1000))) = true then (some (v_0,
    false)) else ((geti v_0.Amounts x100.From).bind fun x175 => ((appN 8 x100.Way [v_1.N]).bind fun l191 => (some ((Snap.mk (List.set v_0.Amounts x100.From.toNat
    (IntKind.wrap .i64 (x175 - v_1.N))) (List.set v_0.Chans v_1.K.toNat (Chan.mk x100.From x100.To l191)) v_0.Pictures (IntKind.wrap .i64 (v_0.Sent + 1)) v_0.Total),
    true)))))) else (if (decide (v_1.Kind = 2)) = true then (if ((decide (v_1.N ≠ 0)) || (decide ((List.length x100.Way : Int) = 0))) = true then (some (v_0,
    false)) else ((spec_l8Come v_0 v_1.K).bind fun v235 => (some (v235.1, v235.2)))) else (some (v_0, false)))))))

/-- spec.l8Own -/
def spec_l8Own_b1 (l21 : List Int) (i42 : Nat) (x43 : Chan) (s37 : Snap) : Option (Oc Snap Snap) := ((appN 8 ([] : List Int) x43.Way).bind fun l78 =>
    ((appN 40 s37.Chans [(Chan.mk x43.From x43.To l78)]).bind fun l95 => (some (.nxt (Snap.mk l21 l95 [] s37.Sent s37.Total)))))
def spec_l8Own_b2 (l21 : List Int) (s108 : Snap) (i130 : Nat) (x131 : Picture) (s125 : Snap) : Option (Oc Snap Snap) := ((appN 8 ([] : List Int) x131.In).bind fun l165 =>
    ((appN 1 ([] : List Bool) x131.Closed).bind fun l182 => ((appN 64 s125.Pictures [(Picture.mk x131.Taken x131.Amount l165 l182)]).bind fun l199 => (some (.nxt
    (Snap.mk l21 s108.Chans l199 s125.Sent s125.Total))))))
def spec_l8Own_j1 (l21 : List Int) (s108 : Snap) (s212 : Snap)  : Option Snap := (some (Snap.mk l21 s108.Chans s212.Pictures s212.Sent s212.Total))
def spec_l8Own_j2 (s_0 : Snap) (l21 : List Int) (s108 : Snap)  : Option Snap := (jn (rangeL (fun i130 x131 s211 => spec_l8Own_b2 l21 s108 i130 x131 s211) s_0.Pictures
    (Snap.mk l21 s108.Chans [] s108.Sent s108.Total)) (fun s225 => spec_l8Own_j1 l21 s108 s225))
def spec_l8Own (s_0 : Snap) : Option Snap := ((appN 8 ([] : List Int) s_0.Amounts).bind fun l21 => (jn (rangeL (fun i42 x43 s107 => spec_l8Own_b1 l21 i42 x43 s107) s_0.Chans
    (Snap.mk l21 [] [] s_0.Sent s_0.Total)) (fun s226 => spec_l8Own_j2 s_0 l21 s226)))

/-- spec.PlaySnap -/
def spec_PlaySnap_j1 (s62 : List Bool) (v136 : Snap × Bool) (s151 : Snap)  : Option (Oc ((List Bool) × Snap) (Snap × (List Bool) × Bool)) :=
    ((appN 1 s62 [v136.2]).bind fun l192 => (some (.nxt (l192, s151))))
def spec_PlaySnap_b1 (i80 : Nat) (x81 : SnapStep) (s62 : List Bool) (s67 : Snap) : Option (Oc ((List Bool) × Snap) (Snap × (List Bool) × Bool)) :=
    ((spec_l8Own s67).bind fun v116 => ((spec_l8Step v116 x81).bind fun v136 => ((if v136.2 = true then (some v136.1) else (some s67)).bind
    (fun s202 => spec_PlaySnap_j1 s62 v136 s202))))
def spec_PlaySnap_j2 (s204 : List Bool) (s209 : Snap)  : Option (Snap × (List Bool) × Bool) := ((spec_l8Own s209).bind fun v229 => (some (v229, s204, true)))
def spec_PlaySnap (k : Nat) (procs_0 : Int) (amount_1 : Int) (l_2 : List SnapStep) : Option (Snap × (List Bool) × Bool) := ((spec_NewSnap k procs_0 amount_1).bind fun v5 => (if
    ((!v5.2) || (decide ((80 : Int) < (List.length l_2 : Int)))) = true then (some ((Snap.mk [] [] [] 0 0), [],
    false)) else (jn (rangeL (fun i80 x81 s203 => spec_PlaySnap_b1 i80 x81 s203.1 s203.2) l_2 (([], v5.1) : (List Bool) × Snap)) (fun s251 => spec_PlaySnap_j2 s251.1 s251.2))))

/-- laws.szSnapStepS -/
def laws_szSnapStepS (a_0 : List SnapStep) (left_1 : Int) : Option Int := (if (decide ((IntKind.wrap .i64 (left_1 - (List.length a_0 : Int))) < 0)) = true then (some (-1)) else
    (some (IntKind.wrap .i64 (left_1 - (List.length a_0 : Int)))))

/-- laws.toSnapStep -/
def laws_toSnapStep (a_0 : SnapStep) : SnapStep := a_0

/-- laws.toSnapStepS -/
def laws_toSnapStepS_b1 (a_0 : List SnapStep) (s14 : Int) (s15 : List SnapStep) : Option (Oc (Int × (List SnapStep)) (List SnapStep)) := (if (decide (s14 <
    (List.length a_0 : Int))) = true then ((geti a_0 s14).bind fun x40 => ((geti s15 s14).bind fun x43 => (some (.nxt ((IntKind.wrap .i64 (s14 + 1)),
    (List.set s15 s14.toNat (laws_toSnapStep x40))))))) else (some (.brk (s14, s15))))
def laws_toSnapStepS_j1 (s56 : Int) (s57 : List SnapStep)  : Option (List SnapStep) := (some s57)
def laws_toSnapStepS (k : Nat) (a_0 : List SnapStep) : Option (List SnapStep) := ((mkN 24 (List.length a_0 : Int) (SnapStep.mk (0 : Int) (0 : Int) (0 : Int))).bind fun l1 => (jn
    (loopF (fun s55 => laws_toSnapStepS_b1 a_0 s55.1 s55.2) k (0, l1)) (fun s66 => laws_toSnapStepS_j1 s66.1 s66.2)))

/-- laws.eqIntS -/
def laws_eqIntS_b1 (a_0 : List Int) (b_1 : List Int) (s3 : Int) : Option (Oc Int Bool) := (if (decide (s3 < (List.length a_0 : Int))) = true then ((geti a_0 s3).bind fun x26 =>
    ((geti b_1 s3).bind fun x29 => (if (decide (x26 ≠ x29)) = true then (some (.ret false)) else (some (.nxt (IntKind.wrap .i64 (s3 + 1))))))) else (some (.brk s3)))
def laws_eqIntS_j1 (s39 : Int)  : Option Bool := (some true)
def laws_eqIntS (k : Nat) (a_0 : List Int) (b_1 : List Int) : Option Bool := (if (decide ((List.length a_0 : Int) ≠ (List.length b_1 : Int))) = true then (some false) else (jn
    (loopF (fun s38 => laws_eqIntS_b1 a_0 b_1 s38) k 0) (fun s46 => laws_eqIntS_j1 s46)))

/-- laws.eqChan -/
def laws_eqChan (k : Nat) (a_0 : Chan) (b_1 : Chan) : Option Bool := (if (decide (a_0.From ≠ b_1.From)) = true then (some false) else (if (decide (a_0.To ≠ b_1.To)) = true then
    (some false) else ((laws_eqIntS k a_0.Way b_1.Way).bind fun v15 => (if (!v15) = true then (some false) else (some true)))))

/-- laws.eqChanS -/
def laws_eqChanS_b1 (k : Nat) (a_0 : List Chan) (b_1 : List Chan) (s3 : Int) : Option (Oc Int Bool) := (if (decide (s3 < (List.length a_0 : Int))) = true then
    ((geti a_0 s3).bind fun x26 => ((geti b_1 s3).bind fun x29 => ((laws_eqChan k x26 x29).bind fun v32 => (if (!v32) = true then (some (.ret false)) else (some (.nxt
    (IntKind.wrap .i64 (s3 + 1)))))))) else (some (.brk s3)))
def laws_eqChanS_j1 (s42 : Int)  : Option Bool := (some true)
def laws_eqChanS (k : Nat) (a_0 : List Chan) (b_1 : List Chan) : Option Bool := (if (decide ((List.length a_0 : Int) ≠ (List.length b_1 : Int))) = true then (some false) else (jn
    (loopF (fun s41 => laws_eqChanS_b1 k a_0 b_1 s41) k 0) (fun s49 => laws_eqChanS_j1 s49)))

/-- laws.eqBoolS -/
def laws_eqBoolS_b1 (a_0 : List Bool) (b_1 : List Bool) (s3 : Int) : Option (Oc Int Bool) := (if (decide (s3 < (List.length a_0 : Int))) = true then
    ((geti a_0 s3).bind fun x26 => ((geti b_1 s3).bind fun x29 => (if (!(x26 == x29)) = true then (some (.ret false)) else (some (.nxt (IntKind.wrap .i64 (s3 + 1))))))) else
    (some (.brk s3)))
def laws_eqBoolS_j1 (s39 : Int)  : Option Bool := (some true)
def laws_eqBoolS (k : Nat) (a_0 : List Bool) (b_1 : List Bool) : Option Bool := (if (decide ((List.length a_0 : Int) ≠ (List.length b_1 : Int))) = true then (some false) else (jn
    (loopF (fun s38 => laws_eqBoolS_b1 a_0 b_1 s38) k 0) (fun s46 => laws_eqBoolS_j1 s46)))

/-- laws.eqPicture -/
def laws_eqPicture (k : Nat) (a_0 : Picture) (b_1 : Picture) : Option Bool := (if (!(a_0.Taken == b_1.Taken)) = true then (some false) else (if (decide
    (a_0.Amount ≠ b_1.Amount)) = true then (some false) else ((laws_eqIntS k a_0.In b_1.In).bind fun v15 => (if (!v15) = true then (some false) else
    ((laws_eqBoolS k a_0.Closed b_1.Closed).bind fun v19 => (if (!v19) = true then (some false) else (some true)))))))

/-- laws.eqPictureS -/
def laws_eqPictureS_b1 (k : Nat) (a_0 : List Picture) (b_1 : List Picture) (s3 : Int) : Option (Oc Int Bool) := (if (decide (s3 < (List.length a_0 : Int))) = true then
    ((geti a_0 s3).bind fun x26 => ((geti b_1 s3).bind fun x29 => ((laws_eqPicture k x26 x29).bind fun v32 => (if (!v32) = true then (some (.ret false)) else (some (.nxt
    (IntKind.wrap .i64 (s3 + 1)))))))) else (some (.brk s3)))
def laws_eqPictureS_j1 (s42 : Int)  : Option Bool := (some true)
def laws_eqPictureS (k : Nat) (a_0 : List Picture) (b_1 : List Picture) : Option Bool := (if (decide ((List.length a_0 : Int) ≠ (List.length b_1 : Int))) = true then
    (some false) else (jn (loopF (fun s41 => laws_eqPictureS_b1 k a_0 b_1 s41) k 0) (fun s49 => laws_eqPictureS_j1 s49)))

/-- laws.eqSnap -/
def laws_eqSnap (k : Nat) (a_0 : Snap) (b_1 : Snap) : Option Bool := ((laws_eqIntS k a_0.Amounts b_1.Amounts).bind fun v13 => (if (!v13) = true then (some false) else
    ((laws_eqChanS k a_0.Chans b_1.Chans).bind fun v17 => (if (!v17) = true then (some false) else ((laws_eqPictureS k a_0.Pictures b_1.Pictures).bind fun v21 => (if
    (!v21) = true then (some false) else (if (decide (a_0.Sent ≠ b_1.Sent)) = true then (some false) else (if (decide (a_0.Total ≠ b_1.Total)) = true then (some false) else
    (some true)))))))))

/-- laws.eqSnapStep -/
def laws_eqSnapStep (a_0 : SnapStep) (b_1 : SnapStep) : Option Bool := (if (decide (a_0.Kind ≠ b_1.Kind)) = true then (some false) else (if (decide (a_0.K ≠ b_1.K)) = true then
    (some false) else (if (decide (a_0.N ≠ b_1.N)) = true then (some false) else (some true))))

/-- laws.eqSnapStepS -/
def laws_eqSnapStepS_b1 (a_0 : List SnapStep) (b_1 : List SnapStep) (s3 : Int) : Option (Oc Int Bool) := (if (decide (s3 < (List.length a_0 : Int))) = true then
    ((geti a_0 s3).bind fun x26 => ((geti b_1 s3).bind fun x29 => ((laws_eqSnapStep x26 x29).bind fun v32 => (if (!v32) = true then (some (.ret false)) else (some (.nxt
    (IntKind.wrap .i64 (s3 + 1)))))))) else (some (.brk s3)))
def laws_eqSnapStepS_j1 (s42 : Int)  : Option Bool := (some true)
def laws_eqSnapStepS (k : Nat) (a_0 : List SnapStep) (b_1 : List SnapStep) : Option Bool := (if (decide ((List.length a_0 : Int) ≠ (List.length b_1 : Int))) = true then
    (some false) else (jn (loopF (fun s41 => laws_eqSnapStepS_b1 a_0 b_1 s41) k 0) (fun s49 => laws_eqSnapStepS_j1 s49)))

/-- laws.markSnapStepS -/
def laws_markSnapStepS_b1 (s6 : Int) (s7 : Int) (s8 : List SnapStep) : Option (Oc (Int × Int × (List SnapStep)) (Int × (List SnapStep))) := (if (decide (s7 <
    (List.length s8 : Int))) = true then ((geti s8 s7).bind fun x33 => (some (.nxt ((IntKind.wrap .i64 ((IntKind.wrap .i64 ((IntKind.wrap .i64 (s6 + 1)) + 1)) + 1)),
    (IntKind.wrap .i64 (s7 + 1)), (List.set s8 s7.toNat (SnapStep.mk s6 (IntKind.wrap .i64 (s6 + 1)) (IntKind.wrap .i64 ((IntKind.wrap .i64 (s6 + 1)) + 1)))))))) else (some (.brk
    (s6, s7, s8))))
def laws_markSnapStepS_j1 (s56 : Int) (s57 : Int) (s58 : List SnapStep)  : Option (Int × (List SnapStep)) := (some (s56, s58))
def laws_markSnapStepS (k : Nat) (a_0 : List SnapStep) (k_1 : Int) : Option (Int × (List SnapStep)) := (jn (loopF (fun s55 => laws_markSnapStepS_b1 s55.1 s55.2.1 s55.2.2) k (k_1,
    0, a_0)) (fun s67 => laws_markSnapStepS_j1 s67.1 s67.2.1 s67.2.2))

/-- laws.markIntS -/
def laws_markIntS_b1 (s6 : Int) (s7 : Int) (s8 : List Int) : Option (Oc (Int × Int × (List Int)) (Int × (List Int))) := (if (decide (s7 < (List.length s8 : Int))) = true then
    ((geti s8 s7).bind fun x33 => (some (.nxt ((IntKind.wrap .i64 (s6 + 1)), (IntKind.wrap .i64 (s7 + 1)), (List.set s8 s7.toNat s6))))) else (some (.brk (s6, s7, s8))))
def laws_markIntS_j1 (s46 : Int) (s47 : Int) (s48 : List Int)  : Option (Int × (List Int)) := (some (s46, s48))
def laws_markIntS (k : Nat) (a_0 : List Int) (k_1 : Int) : Option (Int × (List Int)) := (jn (loopF (fun s45 => laws_markIntS_b1 s45.1 s45.2.1 s45.2.2) k (k_1, 0,
    a_0)) (fun s57 => laws_markIntS_j1 s57.1 s57.2.1 s57.2.2))

/-- laws.markChanS -/
def laws_markChanS_b1 (k : Nat) (s6 : Int) (s7 : Int) (s8 : List Chan) : Option (Oc (Int × Int × (List Chan)) (Int × (List Chan))) := (if (decide (s7 <
    (List.length s8 : Int))) = true then ((geti s8 s7).bind fun x33 => ((laws_markIntS k x33.Way (IntKind.wrap .i64 ((IntKind.wrap .i64 (s6 + 1)) + 1))).bind fun v57 => (some
    (.nxt (v57.1, (IntKind.wrap .i64 (s7 + 1)), (List.set s8 s7.toNat (Chan.mk s6 (IntKind.wrap .i64 (s6 + 1)) v57.2))))))) else (some (.brk (s6, s7, s8))))
def laws_markChanS_j1 (s72 : Int) (s73 : Int) (s74 : List Chan)  : Option (Int × (List Chan)) := (some (s72, s74))
def laws_markChanS (k : Nat) (a_0 : List Chan) (k_1 : Int) : Option (Int × (List Chan)) := (jn (loopF (fun s71 => laws_markChanS_b1 k s71.1 s71.2.1 s71.2.2) k (k_1, 0,
    a_0)) (fun s83 => laws_markChanS_j1 s83.1 s83.2.1 s83.2.2))

/-- laws.markBoolS -/
def laws_markBoolS_b1 (s6 : Int) (s7 : Int) (s8 : List Bool) : Option (Oc (Int × Int × (List Bool)) (Int × (List Bool))) := (if (decide (s7 < (List.length s8 : Int))) = true then
    ((geti s8 s7).bind fun x33 => (some (.nxt ((IntKind.wrap .i64 (s6 + 1)), (IntKind.wrap .i64 (s7 + 1)),
    (List.set s8 s7.toNat (decide ((Int.tmod s6 3) = 0))))))) else (some (.brk (s6, s7, s8))))
def laws_markBoolS_j1 (s46 : Int) (s47 : Int) (s48 : List Bool)  : Option (Int × (List Bool)) := (some (s46, s48))
def laws_markBoolS (k : Nat) (a_0 : List Bool) (k_1 : Int) : Option (Int × (List Bool)) := (jn (loopF (fun s45 => laws_markBoolS_b1 s45.1 s45.2.1 s45.2.2) k (k_1, 0,
    a_0)) (fun s57 => laws_markBoolS_j1 s57.1 s57.2.1 s57.2.2))

/-- laws.markPictureS -/
def laws_markPictureS_b1 (k : Nat) (s6 : Int) (s7 : Int) (s8 : List Picture) : Option (Oc (Int × Int × (List Picture)) (Int × (List Picture))) := (if (decide (s7 <
    (List.length s8 : Int))) = true then ((geti s8 s7).bind fun x33 => ((laws_markIntS k x33.In (IntKind.wrap .i64 ((IntKind.wrap .i64 (s6 + 1)) + 1))).bind fun v61 =>
    ((laws_markBoolS k x33.Closed v61.1).bind fun v68 => (some (.nxt (v68.1, (IntKind.wrap .i64 (s7 + 1)),
    (List.set s8 s7.toNat (Picture.mk (decide ((Int.tmod s6 3) = 0)) (IntKind.wrap .i64 (s6 + 1)) v61.2 v68.2)))))))) else (some (.brk (s6, s7, s8))))
def laws_markPictureS_j1 (s83 : Int) (s84 : Int) (s85 : List Picture)  : Option (Int × (List Picture)) := (some (s83, s85))
def laws_markPictureS (k : Nat) (a_0 : List Picture) (k_1 : Int) : Option (Int × (List Picture)) := (jn (loopF (fun s82 => laws_markPictureS_b1 k s82.1 s82.2.1 s82.2.2) k (k_1, 0,
    a_0)) (fun s94 => laws_markPictureS_j1 s94.1 s94.2.1 s94.2.2))

/-- laws.markSnap -/
def laws_markSnap (k : Nat) (a_0 : Snap) (k_1 : Int) : Option (Int × Snap) := ((laws_markIntS k a_0.Amounts k_1).bind fun v7 => ((laws_markChanS k a_0.Chans v7.1).bind fun v14 =>
    ((laws_markPictureS k a_0.Pictures v14.1).bind fun v21 => (some (v21.1, (Snap.mk v7.2 v14.2 v21.2 a_0.Sent a_0.Total))))))

/-- laws.heldIntS -/
def laws_heldIntS_b1 (a_0 : List Int) (s3 : Int) (s4 : Int) : Option (Oc (Int × Int) Int) := (if (decide (s4 < (List.length a_0 : Int))) = true then
    ((geti a_0 s4).bind fun x27 => (if (decide (x27 ≠ s3)) = true then (some (.ret (-1))) else (some (.nxt ((IntKind.wrap .i64 (s3 + 1)),
    (IntKind.wrap .i64 (s4 + 1))))))) else (some (.brk (s3, s4))))
def laws_heldIntS_j1 (s37 : Int) (s38 : Int)  : Option Int := (some s37)
def laws_heldIntS (k : Nat) (a_0 : List Int) (k_1 : Int) : Option Int := (jn (loopF (fun s36 => laws_heldIntS_b1 a_0 s36.1 s36.2) k (k_1,
    0)) (fun s45 => laws_heldIntS_j1 s45.1 s45.2))

/-- laws.heldChanS -/
def laws_heldChanS_b1 (k : Nat) (a_0 : List Chan) (s3 : Int) (s4 : Int) : Option (Oc (Int × Int) Int) := (if (decide (s4 < (List.length a_0 : Int))) = true then
    ((geti a_0 s4).bind fun x27 => (if (decide (x27.From ≠ s3)) = true then (some (.ret (-1))) else ((geti a_0 s4).bind fun x34 => (if (decide (x34.To ≠ (IntKind.wrap .i64
    (s3 + 1)))) = true then (some (.ret (-1))) else ((geti a_0 s4).bind fun x41 => ((laws_heldIntS k x41.Way (IntKind.wrap .i64 ((IntKind.wrap .i64
    (s3 + 1)) + 1))).bind fun v44 => (if (decide (v44 < 0)) = true then (some (.ret (-1))) else (some (.nxt (v44, (IntKind.wrap .i64 (s4 + 1)))))))))))) else (some (.brk (s3,
    s4))))
def laws_heldChanS_j1 (s54 : Int) (s55 : Int)  : Option Int := (some s54)
def laws_heldChanS (k : Nat) (a_0 : List Chan) (k_1 : Int) : Option Int := (jn (loopF (fun s53 => laws_heldChanS_b1 k a_0 s53.1 s53.2) k (k_1,
    0)) (fun s62 => laws_heldChanS_j1 s62.1 s62.2))

/-- laws.heldBoolS -/
def laws_heldBoolS_b1 (a_0 : List Bool) (s3 : Int) (s4 : Int) : Option (Oc (Int × Int) Int) := (if (decide (s4 < (List.length a_0 : Int))) = true then
    ((geti a_0 s4).bind fun x27 => (if (!(x27 == (decide ((Int.tmod s3 3) = 0)))) = true then (some (.ret (-1))) else (some (.nxt ((IntKind.wrap .i64 (s3 + 1)),
    (IntKind.wrap .i64 (s4 + 1))))))) else (some (.brk (s3, s4))))
def laws_heldBoolS_j1 (s37 : Int) (s38 : Int)  : Option Int := (some s37)
def laws_heldBoolS (k : Nat) (a_0 : List Bool) (k_1 : Int) : Option Int := (jn (loopF (fun s36 => laws_heldBoolS_b1 a_0 s36.1 s36.2) k (k_1,
    0)) (fun s45 => laws_heldBoolS_j1 s45.1 s45.2))

/-- laws.heldPictureS -/
def laws_heldPictureS_b1 (k : Nat) (a_0 : List Picture) (s3 : Int) (s4 : Int) : Option (Oc (Int × Int) Int) := (if (decide (s4 < (List.length a_0 : Int))) = true then
    ((geti a_0 s4).bind fun x27 => (if (!(x27.Taken == (decide ((Int.tmod s3 3) = 0)))) = true then (some (.ret (-1))) else ((geti a_0 s4).bind fun x34 => (if (decide
    (x34.Amount ≠ (IntKind.wrap .i64 (s3 + 1)))) = true then (some (.ret (-1))) else ((geti a_0 s4).bind fun x41 => ((laws_heldIntS k x41.In (IntKind.wrap .i64
    ((IntKind.wrap .i64 (s3 + 1)) + 1))).bind fun v44 => (if (decide (v44 < 0)) = true then (some (.ret (-1))) else ((geti a_0 s4).bind fun x51 =>
    ((laws_heldBoolS k x51.Closed v44).bind fun v54 => (if (decide (v54 < 0)) = true then (some (.ret (-1))) else (some (.nxt (v54,
    (IntKind.wrap .i64 (s4 + 1))))))))))))))) else (some (.brk (s3, s4))))
def laws_heldPictureS_j1 (s64 : Int) (s65 : Int)  : Option Int := (some s64)
def laws_heldPictureS (k : Nat) (a_0 : List Picture) (k_1 : Int) : Option Int := (jn (loopF (fun s63 => laws_heldPictureS_b1 k a_0 s63.1 s63.2) k (k_1,
    0)) (fun s72 => laws_heldPictureS_j1 s72.1 s72.2))

/-- laws.heldSnap -/
def laws_heldSnap (k : Nat) (a_0 : Snap) (k_1 : Int) : Option Int := ((laws_heldIntS k a_0.Amounts k_1).bind fun v7 => (if (decide (v7 < 0)) = true then (some (-1)) else
    ((laws_heldChanS k a_0.Chans v7).bind fun v11 => (if (decide (v11 < 0)) = true then (some (-1)) else ((laws_heldPictureS k a_0.Pictures v11).bind fun v15 => (if (decide
    (v15 < 0)) = true then (some (-1)) else (some v15)))))))

/-- laws.FnExactPlaySnap -/
def laws_FnExactPlaySnap (k : Nat) (v_0 : Int) (v_1 : Int) (v_2 : List SnapStep) : Option Bool := ((laws_szSnapStepS v_2 1048576).bind fun v1 => (if (decide (v1 < 0)) = true then
    (some true) else ((laws_toSnapStepS k v_2).bind fun v5 => ((spec_PlaySnap k v_0 v_1 v5).bind fun v17 => ((laws_toSnapStepS k v_2).bind fun v49 =>
    ((impl_PlaySnap v_0 v_1 v49).bind fun v61 => ((laws_eqSnap k v61.1 v17.1).bind fun v93 => ((if (!v93) = true then (some true) else
    ((laws_eqBoolS k v61.2.1 v17.2.1).bind fun v99 => (some (!v99)))).bind fun v99 => (if (v99 || (!(v61.2.2 == v17.2.2))) = true then (some false) else
    ((laws_toSnapStepS k v_2).bind fun v139 => ((laws_eqSnapStepS k v49 v139).bind fun v151 => (if (!v151) = true then (some false) else
    ((laws_markSnapStepS k v49 1).bind fun v155 => ((if (decide (v155.1 < 0)) = true then (some true) else ((laws_eqSnap k v61.1 v17.1).bind fun v165 => (some
    (!v165)))).bind fun v165 => ((if v165 = true then (some true) else ((laws_eqBoolS k v61.2.1 v17.2.1).bind fun v189 => (some (!v189)))).bind fun v189 => (if (v189 ||
    (!(v61.2.2 == v17.2.2))) = true then (some false) else ((laws_markSnap k v61.1 1).bind fun v226 => ((laws_markBoolS k v61.2.1 v226.1).bind fun v237 => ((laws_heldSnap k
    (Snap.mk v226.2.Amounts v226.2.Chans v226.2.Pictures v61.1.Sent v61.1.Total) 1).bind fun v244 => (if (decide (v244 < 0)) = true then (some false) else
    ((laws_heldBoolS k v237.2 v244).bind fun v248 => (if (decide (v248 < 0)) = true then (some false) else (if (decide (v248 ≠ v237.1)) = true then (some false) else
    ((laws_toSnapStepS k v_2).bind fun v253 => ((impl_PlaySnap v_0 v_1 v253).bind fun v265 => ((laws_eqSnap k v265.1 v17.1).bind fun v297 => ((if (!v297) = true then
    (some true) else ((laws_eqBoolS k v265.2.1 v17.2.1).bind fun v303 => (some (!v303)))).bind fun v303 => (if (v303 || (!(v265.2.2 == v17.2.2))) = true then (some false) else
    ((laws_heldSnap k (Snap.mk v226.2.Amounts v226.2.Chans v226.2.Pictures v61.1.Sent v61.1.Total) 1).bind fun v331 => (if (decide (v331 < 0)) = true then (some false) else
    ((laws_heldBoolS k v237.2 v331).bind fun v335 => (if (decide (v335 < 0)) = true then (some false) else (if (decide (v335 ≠ v237.1)) = true then (some false) else
    (some true))))))))))))))))))))))))))))))))))
end Go.Proofs.Ytpkiieniipenjaa.X
