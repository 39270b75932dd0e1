/- The seat's types and functions, as plain Lean has them. -/
import Derived.Test.YtpkiieniipenjaaZSlW
set_option linter.unusedVariables false
set_option linter.unusedSimpArgs false
set_option maxRecDepth 100000
namespace Go.Proofs.Ytpkiieniipenjaa.X
open Go
open Nat (reduceEqDiff)
structure BoundsError where
  x : Int
  y : Int
  signed : Bool
  code : Int
  deriving DecidableEq, Inhabited
def BoundsError.cells (x : BoundsError) : List XV := [.int .i64 x.x, .int .i64 x.y, .bool x.signed, .int .u8 x.code]
structure Chan where
  From : Int
  To : Int
  Way : List Int
  deriving DecidableEq, Inhabited
def Chan.cells (x : Chan) : List XV := [.int .i64 x.From, .int .i64 x.To, lst cI x.Way]
structure Picture where
  Taken : Bool
  Amount : Int
  In : List Int
  Closed : List Bool
  deriving DecidableEq, Inhabited
def Picture.cells (x : Picture) : List XV := [.bool x.Taken, .int .i64 x.Amount, lst cI x.In, lst cB x.Closed]
structure Snap where
  Amounts : List Int
  Chans : List Chan
  Pictures : List Picture
  Sent : Int
  Total : Int
  deriving DecidableEq, Inhabited
def Snap.cells (x : Snap) : List XV := [lst cI x.Amounts, lst Chan.cells x.Chans, lst Picture.cells x.Pictures, .int .i64 x.Sent, .int .i64 x.Total]
structure SnapStep where
  Kind : Int
  K : Int
  N : Int
  deriving DecidableEq, Inhabited
def SnapStep.cells (x : SnapStep) : List XV := [.int .i64 x.Kind, .int .i64 x.K, .int .i64 x.N]
structure L1Cur where
  code : List Int
  at_ : Int
  seed : Int
  deriving DecidableEq, Inhabited
def L1Cur.cells (x : L1Cur) : List XV := [lst cU8 x.code, .int .i64 x.at_, .int .u64 x.seed]

/-- spec.l1Cur).next -/
def spec_next_j1 (c_0 : L1Cur) (s1 : Int)  : Option (Int × L1Cur) := (if (decide ((IntKind.wrap .i64 (c_0.at_ + 1)) ≤ (List.length c_0.code : Int))) = true then (some (s1,
    (L1Cur.mk c_0.code (IntKind.wrap .i64 (c_0.at_ + 1)) (IntKind.wrap .u64 ((IntKind.wrap .u64 ((IntKind.wrap .u64 (c_0.seed * 6364136223846793005)) +
    (IntKind.wrap .u64 s1))) + 1442695040888963407))))) else (some ((IntKind.wrap .i64 (wand .u64 (wshr .u64 (IntKind.wrap .u64 ((IntKind.wrap .u64 ((IntKind.wrap .u64
    (c_0.seed * 6364136223846793005)) + (IntKind.wrap .u64 s1))) + 1442695040888963407)) 40) 255)),
    (L1Cur.mk c_0.code (IntKind.wrap .i64 (c_0.at_ + 1)) (IntKind.wrap .u64 ((IntKind.wrap .u64 ((IntKind.wrap .u64 (c_0.seed * 6364136223846793005)) +
    (IntKind.wrap .u64 s1))) + 1442695040888963407))))))
def spec_next (c_0 : L1Cur) : Option (Int × L1Cur) := ((if (decide (c_0.at_ < (List.length c_0.code : Int))) = true then ((geti c_0.code c_0.at_).bind fun x10 => (some
    (IntKind.wrap .i64 x10))) else (some 0)).bind (fun s25 => spec_next_j1 c_0 s25))

/-- spec.l1Cur).pick -/
def spec_pick (c_0 : L1Cur) (n_1 : Int) : Option (Int × L1Cur) := (if (decide (n_1 ≤ 1)) = true then (some (0,
    c_0)) else ((spec_next c_0).bind fun v2 => (if (decide ((200 : Int) < n_1)) = true then ((spec_next v2.2).bind fun v8 => (ck (n_1 ≠ 0) (some ((Int.tmod (IntKind.wrap .i64
    ((IntKind.wrap .i64 (v2.1 * 256)) + v8.1)) n_1), v8.2)))) else (ck (n_1 ≠ 0) (some ((Int.tmod v2.1 n_1), v2.2))))))

/-- spec.l1Cur).among -/
def spec_among (c_0 : L1Cur) (list_1 : List Int) : Option (Int × L1Cur × (List Int)) := ((spec_pick c_0 (List.length list_1 : Int)).bind fun v1 =>
    ((geti list_1 v1.1).bind fun x6 => (some (x6, v1.2, list_1))))

/-- spec.l1Cur).one -/
def spec_one (c_0 : L1Cur) (n_1 : Int) : Option (Bool × L1Cur) := ((spec_pick c_0 n_1).bind fun v1 => (some ((decide (v1.1 = 0)), v1.2)))

/-- spec.l1Cur).snapSteps -/
def spec_snapSteps_j4 (s43 : List SnapStep) (s48 : Int) (s166 : L1Cur) (s167 : SnapStep)  : Option (Oc ((List SnapStep) × Int × L1Cur) ((List SnapStep) × L1Cur)) :=
    ((appN 24 s43 [s167]).bind fun l211 => (some (.nxt (l211, (IntKind.wrap .i64 (s48 - 1)), s166))))
def spec_snapSteps_j3 (s43 : List SnapStep) (s48 : Int) (s132 : L1Cur) (s133 : SnapStep)  : Option (Oc ((List SnapStep) × Int × L1Cur) ((List SnapStep) × L1Cur)) :=
    ((spec_one s132 60).bind fun v161 => ((if v161.1 = true then ((spec_pick v161.2 5).bind fun v177 => ((spec_pick v177.2 14).bind fun v182 =>
    ((spec_pick v182.2 3).bind fun v187 => (some (v187.2, (SnapStep.mk v177.1 (IntKind.wrap .i64 (v182.1 - 1)) v187.1)))))) else (some (v161.2,
    s133))).bind (fun s221 => spec_snapSteps_j4 s43 s48 s221.1 s221.2)))
def spec_snapSteps_j2 (procs_1 : Int) (s43 : List SnapStep) (s48 : Int) (s98 : L1Cur) (s99 : SnapStep)  : Option (Oc ((List SnapStep) × Int × L1Cur) ((List SnapStep) × L1Cur)) :=
    ((spec_one s98 12).bind fun v127 => ((if v127.1 = true then ((spec_pick v127.2 procs_1).bind fun v143 => (some (v143.2, (SnapStep.mk 3 v143.1 0)))) else (some (v127.2,
    s99))).bind (fun s222 => spec_snapSteps_j3 s43 s48 s222.1 s222.2)))
def spec_snapSteps_b1 (procs_1 : Int) (s43 : List SnapStep) (s48 : Int) (s49 : L1Cur) : Option (Oc ((List SnapStep) × Int × L1Cur) ((List SnapStep) × L1Cur)) := (if (decide
    ((0 : Int) < s48)) = true then ((spec_among s49 [1, 1, 2, 2, 2, 2,
    2]).bind fun v80 => ((spec_pick v80.2.1 (IntKind.wrap .i64 ((IntKind.wrap .i64 (procs_1 * (IntKind.wrap .i64 (procs_1 - 1)))) + 1))).bind fun v87 => ((if (decide
    (v80.1 = 1)) = true then ((spec_pick v87.2 9).bind fun v109 => (some (v109.2, (SnapStep.mk v80.1 v87.1 (IntKind.wrap .i64 ((1 : Int) + v109.1)))))) else (some (v87.2,
    (SnapStep.mk v80.1 v87.1 0)))).bind (fun s223 => spec_snapSteps_j2 procs_1 s43 s48 s223.1 s223.2)))) else (some (.brk (s43, s48, s49))))
def spec_snapSteps_j5 (s226 : List SnapStep) (s231 : Int) (s232 : L1Cur)  : Option ((List SnapStep) × L1Cur) := (some (s226, s232))
def spec_snapSteps_j1 (k : Nat) (procs_1 : Int) (s11 : Int) (s12 : L1Cur)  : Option ((List SnapStep) × L1Cur) := (jn (loopF
    (fun s225 => spec_snapSteps_b1 procs_1 s225.1 s225.2.1 s225.2.2) k (([], s11, s12) : (List SnapStep) × Int × L1Cur)) (fun s241 => spec_snapSteps_j5 s241.1 s241.2.1 s241.2.2))
def spec_snapSteps (k : Nat) (c_0 : L1Cur) (procs_1 : Int) : Option ((List SnapStep) × L1Cur) := ((spec_pick c_0 40).bind fun v1 => ((spec_one v1.2 12).bind fun v6 =>
    ((if v6.1 = true then ((spec_pick v6.2 12).bind fun v22 => (some ((IntKind.wrap .i64 ((70 : Int) + v22.1)), v22.2))) else (some (v1.1,
    v6.2))).bind (fun s242 => spec_snapSteps_j1 k procs_1 s242.1 s242.2))))

/-- spec.DrawPlaySnap -/
def spec_DrawPlaySnap (k : Nat) (code_0 : List Int) : Option (Int × Int × (List SnapStep)) := ((spec_pick (L1Cur.mk code_0 0 0) 3).bind fun v5 => ((spec_among v5.2 [0, 5, 100,
    250, 251]).bind fun v16 => ((spec_snapSteps k v16.2.1 (IntKind.wrap .i64 ((2 : Int) + v5.1))).bind fun v23 => (some ((IntKind.wrap .i64 ((2 : Int) + v5.1)), v16.1, v23.1)))))

/-- impl.in -/
def impl_in (n_0 : Int) (low_1 : Int) (high_2 : Int) : Bool := ((decide (low_1 ≤ n_0)) && (decide (n_0 ≤ high_2)))

/-- impl.newSnap -/
def impl_newSnap_b1 (i37 : Nat) (l67 : List Int) (l102 : List Picture) (i123 : Nat) (s118 : Snap) : Option (Oc Snap (Oc Snap Snap)) := (if (decide ((i123 : Int) ≠
    (i37 : Int))) = true then ((appN 40 s118.Chans ([(Chan.mk (i37 : Int) (i123 : Int) [])])).bind fun l157 => (some (.nxt (Snap.mk l67 l157 l102 s118.Sent s118.Total)))) else
    (some (.nxt (Snap.mk l67 s118.Chans l102 s118.Sent s118.Total))))
def impl_newSnap_j1 (l67 : List Int) (l102 : List Picture) (s171 : Snap)  : Option (Oc Snap Snap) := (some (.nxt (Snap.mk l67 s171.Chans l102 s171.Sent s171.Total)))
def impl_newSnap_b2 (procs_0 : Int) (amount_1 : Int) (i37 : Nat) (s24 : Snap) : Option (Oc Snap Snap) := ((appN 8 s24.Amounts [amount_1]).bind fun l67 => ((mkN 8 procs_0
    (0 : Int)).bind fun l78 => ((mkN 1 procs_0 false).bind fun l87 => ((appN 64 s24.Pictures [(Picture.mk false 0 l78 l87)]).bind fun l102 => (jn (rangeI
    (fun i123 s170 => impl_newSnap_b1 i37 l67 l102 i123 s170) procs_0 (Snap.mk l67 s24.Chans l102 s24.Sent s24.Total)) (fun s187 => impl_newSnap_j1 l67 l102 s187))))))
def impl_newSnap_j2 (s189 : Snap)  : Option Snap := (some s189)
def impl_newSnap (procs_0 : Int) (amount_1 : Int) : Option Snap := (jn (rangeI (fun i37 s188 => impl_newSnap_b2 procs_0 amount_1 i37 s188) procs_0 (Snap.mk [] [] [] 0
    (IntKind.wrap .i64 (procs_0 * amount_1)))) (fun s211 => impl_newSnap_j2 s211))

/-- impl.Snap).take -/
def impl_Snap_take_b1 (v_0 : Snap) (v_1 : Int) (i7 : Nat) (s4 : List Chan) : Option (Oc (List Chan) (Bool × Snap)) := ((geti s4 (i7 : Int)).bind fun x30 => (if ((decide
    (x30.From = v_1)) && (decide ((List.length x30.Way : Int) = 8))) = true then (some (.ret (false,
    (Snap.mk v_0.Amounts s4 v_0.Pictures v_0.Sent v_0.Total)))) else (some (.nxt s4))))
def impl_Snap_take_b2 (v_1 : Int) (i95 : Nat) (s92 : List Chan) : Option (Oc (List Chan) (Bool × Snap)) := ((geti s92 (i95 : Int)).bind fun x117 => (if (decide
    (x117.From = v_1)) = true then ((appN 8 x117.Way [0]).bind fun l140 => (some (.nxt (List.set s92 (i95 : Int).toNat (Chan.mk x117.From x117.To l140))))) else (some (.nxt s92))))
def impl_Snap_take_j1 (v_0 : Snap) (v_1 : Int) (s165 : List Chan)  : Option (Bool × Snap) := ((geti v_0.Pictures v_1).bind fun x173 => ((geti v_0.Amounts v_1).bind fun x197 =>
    ((geti x173.Closed v_1).bind fun x206 => (some (true,
    (Snap.mk v_0.Amounts s165 (List.set v_0.Pictures v_1.toNat (Picture.mk true x197 x173.In (List.set x173.Closed v_1.toNat true))) v_0.Sent v_0.Total))))))
def impl_Snap_take_j2 (v_0 : Snap) (v_1 : Int) (s80 : List Chan)  : Option (Bool × Snap) := (jn (rangeI (fun i95 s164 => impl_Snap_take_b2 v_1 i95 s164)
    (List.length s80 : Int) s80) (fun s221 => impl_Snap_take_j1 v_0 v_1 s221))
def impl_Snap_take (v_0 : Snap) (v_1 : Int) : Option (Bool × Snap) := (jn (rangeI (fun i7 s79 => impl_Snap_take_b1 v_0 v_1 i7 s79) (List.length v_0.Chans : Int) v_0.Chans)
    (fun s222 => impl_Snap_take_j2 v_0 v_1 s222))

/-- impl.Snap).step -/
def impl_Snap_step_j1 (v_1 : SnapStep) (x65 : Chan) (x154 : Int) (v296 : Bool × Snap) (x314 : Chan) (x348 : Int) (s363 : List Chan) (s366 : List Picture)  : Option
    (Bool × Snap) := (if (decide (x154 = 0)) = true then ((geti s366 x65.To).bind fun x435 => ((geti s363 v_1.K).bind fun x453 => ((geti x435.Closed x453.From).bind fun x467 =>
    (some (true, (Snap.mk (List.set v296.2.Amounts x314.To.toNat (IntKind.wrap .i64 (x348 + x154))) s363 (List.set s366 x65.To.toNat (Picture.mk x435.Taken x435.Amount x435.In
    (List.set x435.Closed x453.From.toNat true))) v296.2.Sent v296.2.Total)))))) else (some (true,
    (Snap.mk (List.set v296.2.Amounts x314.To.toNat (IntKind.wrap .i64 (x348 + x154))) s363 s366 v296.2.Sent v296.2.Total))))
def impl_Snap_step_j2 (v_0 : Snap) (v_1 : SnapStep) (x65 : Chan) (x154 : Int) (x513 : Int) (s528 : List Chan) (s531 : List Picture)  : Option (Bool × Snap) := (if (decide
    (x154 = 0)) = true then ((geti s531 x65.To).bind fun x597 => ((geti s528 v_1.K).bind fun x615 => ((geti x597.Closed x615.From).bind fun x629 => (some (true,
    (Snap.mk (List.set v_0.Amounts x65.To.toNat (IntKind.wrap .i64 (x513 + x154))) s528 (List.set s531 x65.To.toNat (Picture.mk x597.Taken x597.Amount x597.In
    (List.set x597.Closed x615.From.toNat true))) v_0.Sent v_0.Total)))))) else (some (true,
    (Snap.mk (List.set v_0.Amounts x65.To.toNat (IntKind.wrap .i64 (x513 + x154))) s528 s531 v_0.Sent v_0.Total))))
def impl_Snap_step (v_0 : Snap) (v_1 : SnapStep) : Option (Bool × Snap) := (if ((decide (v_1.Kind ≠ 1)) && (decide (v_1.N ≠ 0))) = true then (some (false,
    v_0)) else (if (decide (v_1.Kind = 3)) = true then ((if (impl_in v_1.K 0 (IntKind.wrap .i64 ((List.length v_0.Amounts : Int) - 1))) = true then
    ((geti v_0.Pictures v_1.K).bind fun x21 => (some (!x21.Taken))) else (some false)).bind fun v21 => (if v21 = true then ((impl_Snap_take v_0 v_1.K).bind fun v53 => (some
    (v53.1, v53.2))) else (some (false, v_0)))) else (if (!(impl_in v_1.K 0 (IntKind.wrap .i64 ((List.length v_0.Chans : Int) - 1)))) = true then (some (false,
    v_0)) else ((geti v_0.Chans v_1.K).bind fun x65 => ((geti v_0.Pictures x65.To).bind fun x81 => (if (decide (v_1.Kind = 1)) = true then
    ((geti v_0.Amounts x65.From).bind fun x87 => (if (((!(impl_in v_1.N 1 x87)) || (decide ((List.length x65.Way : Int) = 8))) || (decide (v_0.Sent = 1000))) = true then (some
    (false, v_0)) else ((appN 8 x65.Way [v_1.N]).bind fun l128 => (some (true,
    (Snap.mk (List.set v_0.Amounts x65.From.toNat (IntKind.wrap .i64 (x87 - v_1.N))) (List.set v_0.Chans v_1.K.toNat (Chan.mk x65.From x65.To l128)) v_0.Pictures
    (IntKind.wrap .i64 (v_0.Sent + 1)) v_0.Total)))))) else (if (decide (v_1.Kind = 2)) = true then (if (decide ((List.length x65.Way : Int) = 0)) = true then (some (false,
    v_0)) else ((geti x65.Way (0 : Int)).bind fun x154 => ((if ((decide ((0 : Int) < x154)) && x81.Taken) = true then ((geti x81.Closed x65.From).bind fun x203 => (some
    (!x203))) else (some false)).bind fun v188 => ((if v188 = true then ((geti x81.In x65.From).bind fun x239 => (some (decide ((1000000 : Int) < (IntKind.wrap .i64
    (x239 + x154)))))) else (some false)).bind fun v224 => (if v224 = true then (some (false,
    v_0)) else (if ((decide (x154 = 0)) && (!x81.Taken)) = true then ((impl_Snap_take v_0 x65.To).bind fun v296 => (if (!v296.1) = true then (some (false,
    v296.2)) else ((geti v296.2.Chans v_1.K).bind fun x314 => ((sl x314.Way 1 (List.length x314.Way)).bind fun l328 => ((appN 8 ([] : List Int) l328).bind fun l335 =>
    ((geti v296.2.Amounts x314.To).bind fun x348 => ((if v188 = true then ((geti v296.2.Pictures x65.To).bind fun x378 => ((geti x378.In
    ((Chan.mk x314.From x314.To l335).From)).bind fun x407 => (some ((List.set v296.2.Chans v_1.K.toNat (Chan.mk x314.From x314.To l335)),
    (List.set v296.2.Pictures x65.To.toNat (Picture.mk x378.Taken x378.Amount (List.set x378.In ((Chan.mk x314.From x314.To l335).From).toNat (IntKind.wrap .i64
    (x407 + x154))) x378.Closed)))))) else (some ((List.set v296.2.Chans v_1.K.toNat (Chan.mk x314.From x314.To l335)),
    v296.2.Pictures))).bind (fun s486 => impl_Snap_step_j1 v_1 x65 x154 v296 x314 x348 s486.1 s486.2)))))))) else ((sl x65.Way 1 (List.length x65.Way)).bind fun l493 => ((appN 8
    ([] : List Int) l493).bind fun l500 => ((geti v_0.Amounts x65.To).bind fun x513 => ((if v188 = true then ((geti x81.In ((Chan.mk x65.From x65.To l500).From)).bind fun x569 =>
    (some ((List.set v_0.Chans v_1.K.toNat (Chan.mk x65.From x65.To l500)),
    (List.set v_0.Pictures x65.To.toNat (Picture.mk x81.Taken x81.Amount (List.set x81.In ((Chan.mk x65.From x65.To l500).From).toNat (IntKind.wrap .i64
    (x569 + x154))) x81.Closed))))) else (some ((List.set v_0.Chans v_1.K.toNat (Chan.mk x65.From x65.To l500)),
    v_0.Pictures))).bind (fun s648 => impl_Snap_step_j2 v_0 v_1 x65 x154 x513 s648.1 s648.2))))))))))) else (some (false, v_0)))))))))

/-- impl.PlaySnap -/
def impl_PlaySnap_b1 (i92 : Nat) (x93 : SnapStep) (s77 : List Bool) (s82 : Snap) (s83 : List Int) (s86 : List Chan) (s89 : List Picture) : Option (Oc ((List Bool) × Snap ×
    (List Int) × (List Chan) × (List Picture)) (Snap × (List Bool) × Bool)) := ((impl_Snap_step (Snap.mk s83 s86 s89 s82.Sent s82.Total) x93).bind fun v124 =>
    ((appN 1 s77 [v124.1]).bind fun l141 => (some (.nxt (l141, v124.2, v124.2.Amounts, v124.2.Chans, v124.2.Pictures)))))
def impl_PlaySnap_j1 (s152 : List Bool) (s157 : Snap) (s158 : List Int) (s161 : List Chan) (s164 : List Picture)  : Option (Snap × (List Bool) × Bool) := (some
    ((Snap.mk s158 s161 s164 s157.Sent s157.Total), s152, true))
def impl_PlaySnap (procs_0 : Int) (amount_1 : Int) (l_2 : List SnapStep) : Option (Snap × (List Bool) × Bool) := (if (((!(impl_in procs_0 2 4)) || (!(impl_in amount_1 0 250))) ||
    (decide ((80 : Int) < (List.length l_2 : Int)))) = true then (some ((Snap.mk [] [] [] 0 0), [],
    false)) else ((impl_newSnap procs_0 amount_1).bind fun v30 => (jn (rangeL
    (fun i92 x93 s151 => impl_PlaySnap_b1 i92 x93 s151.1 s151.2.1 s151.2.2.1 s151.2.2.2.1 s151.2.2.2.2) l_2 (([] : List Bool), v30, v30.Amounts, v30.Chans,
    v30.Pictures)) (fun s176 => impl_PlaySnap_j1 s176.1 s176.2.1 s176.2.2.1 s176.2.2.2.1 s176.2.2.2.2))))

/-- spec.l8Chans -/
def spec_l8Chans_b1 (procs_0 : Int) (s12 : Int) (s41 : List Chan) (s46 : Int) : Option (Oc ((List Chan) × Int) (Oc ((List Chan) × Int) (List Chan))) := (if (decide
    (s46 < procs_0)) = true then (if (decide (s12 ≠ s46)) = true then ((appN 40 s41 ([(Chan.mk s12 s46 [])])).bind fun l77 => (some (.nxt (l77,
    (IntKind.wrap .i64 (s46 + 1)))))) else (some (.nxt (s41, (IntKind.wrap .i64 (s46 + 1)))))) else (some (.brk (s41, s46))))
def spec_l8Chans_j1 (s12 : Int) (s90 : List Chan) (s95 : Int)  : Option (Oc ((List Chan) × Int) (List Chan)) := (some (.nxt (s90, (IntKind.wrap .i64 (s12 + 1)))))
def spec_l8Chans_b2 (k : Nat) (procs_0 : Int) (s7 : List Chan) (s12 : Int) : Option (Oc ((List Chan) × Int) (List Chan)) := (if (decide (s12 < procs_0)) = true then (jn (loopF
    (fun s89 => spec_l8Chans_b1 procs_0 s12 s89.1 s89.2) k (s7, 0)) (fun s104 => spec_l8Chans_j1 s12 s104.1 s104.2)) else (some (.brk (s7, s12))))
def spec_l8Chans_j2 (s107 : List Chan) (s112 : Int)  : Option (List Chan) := (some s107)
def spec_l8Chans (k : Nat) (procs_0 : Int) : Option (List Chan) := (jn (loopF (fun s106 => spec_l8Chans_b2 k procs_0 s106.1 s106.2) k (([],
    0) : (List Chan) × Int)) (fun s119 => spec_l8Chans_j2 s119.1 s119.2))

/-- spec.l1In -/
def spec_l1In (n_0 : Int) (lo_1 : Int) (hi_2 : Int) : Bool := ((decide (lo_1 ≤ n_0)) && (decide (n_0 ≤ hi_2)))

/-- spec.NewSnap -/
def spec_NewSnap_b1 (procs_0 : Int) (amount_1 : Int) (v18 : List Chan) (s46 : Int) (s47 : Snap) : Option (Oc (Int × Snap) (Snap × Bool)) := (if (decide
    (s46 < procs_0)) = true then ((appN 8 s47.Amounts [amount_1]).bind fun l86 => ((mkN 8 procs_0 (0 : Int)).bind fun l97 => ((mkN 1 procs_0 false).bind fun l106 =>
    ((appN 64 s47.Pictures [(Picture.mk false 0 l97 l106)]).bind fun l121 => (some (.nxt ((IntKind.wrap .i64 (s46 + 1)),
    (Snap.mk l86 v18 l121 s47.Sent s47.Total)))))))) else (some (.brk (s46, (Snap.mk s47.Amounts v18 s47.Pictures s47.Sent s47.Total)))))
def spec_NewSnap_j1 (v18 : List Chan) (s135 : Int) (s136 : Snap)  : Option (Snap × Bool) := (some ((Snap.mk s136.Amounts v18 s136.Pictures s136.Sent s136.Total), true))
def spec_NewSnap (k : Nat) (procs_0 : Int) (amount_1 : Int) : Option (Snap × Bool) := (if ((!(spec_l1In procs_0 2 4)) || (!(spec_l1In amount_1 0 250))) = true then (some
    ((Snap.mk [] [] [] 0 0), false)) else ((spec_l8Chans k procs_0).bind fun v18 => (jn (loopF (fun s134 => spec_NewSnap_b1 procs_0 amount_1 v18 s134.1 s134.2) k (0,
    (Snap.mk [] v18 [] 0 (IntKind.wrap .i64 (procs_0 * amount_1))))) (fun s155 => spec_NewSnap_j1 v18 s155.1 s155.2))))

/-- spec.l8Take -/
def spec_l8Take_b1 (v_0 : Snap) (v_1 : Int) (i17 : Nat) (s14 : List Chan) : Option (Oc (List Chan) (Snap × Bool)) := ((geti s14 (i17 : Int)).bind fun x41 => (if ((decide
    (x41.From = v_1)) && (decide ((List.length x41.Way : Int) = 8))) = true then (some (.ret ((Snap.mk v_0.Amounts s14 v_0.Pictures v_0.Sent v_0.Total),
    false))) else (some (.nxt s14))))
def spec_l8Take_b2 (v_1 : Int) (i110 : Nat) (s107 : List Chan) : Option (Oc (List Chan) (Snap × Bool)) := ((geti s107 (i110 : Int)).bind fun x134 => (if (decide
    (x134.From = v_1)) = true then ((appN 8 x134.Way [0]).bind fun l165 => (some (.nxt (List.set s107 (i110 : Int).toNat (Chan.mk x134.From x134.To l165))))) else (some
    (.nxt s107))))
def spec_l8Take_j1 (v_0 : Snap) (v_1 : Int) (s190 : List Chan)  : Option (Snap × Bool) := ((geti v_0.Pictures v_1).bind fun x200 => ((geti v_0.Amounts v_1).bind fun x224 =>
    ((geti x200.Closed v_1).bind fun x233 => (some ((Snap.mk v_0.Amounts s190 (List.set v_0.Pictures v_1.toNat (Picture.mk true x224 x200.In
    (List.set x200.Closed v_1.toNat true))) v_0.Sent v_0.Total), true)))))
def spec_l8Take_j2 (v_0 : Snap) (v_1 : Int) (s94 : List Chan)  : Option (Snap × Bool) := (jn (rangeI (fun i110 s189 => spec_l8Take_b2 v_1 i110 s189) (List.length s94 : Int) s94)
    (fun s250 => spec_l8Take_j1 v_0 v_1 s250))
def spec_l8Take (v_0 : Snap) (v_1 : Int) : Option (Snap × Bool) := (jn (rangeI (fun i17 s93 => spec_l8Take_b1 v_0 v_1 i17 s93) (List.length v_0.Chans : Int) v_0.Chans)
    (fun s251 => spec_l8Take_j2 v_0 v_1 s251))

/-- spec.l8Come -/
def spec_l8Come_j1 (v_0 : Snap) (v_1 : Int) (x9 : Chan) (x33 : Int) (l51 : List Int) (x65 : Int) (s125 : List Picture)  : Option (Snap × Bool) := (some ((Snap.mk
    (List.set v_0.Amounts x9.To.toNat (IntKind.wrap .i64 (x65 + x33))) (List.set v_0.Chans v_1.toNat (Chan.mk x9.From x9.To l51)) s125 v_0.Sent v_0.Total), true))
def spec_l8Come_j2 (x9 : Chan) (s205 : Snap) (s206 : List Int) (s209 : List Chan) (s212 : List Picture)  : Option (Snap × Bool) := ((geti s212 x9.To).bind fun x256 =>
    ((geti x256.Closed x9.From).bind fun x274 => (some ((Snap.mk s206 s209 (List.set s212 x9.To.toNat (Picture.mk x256.Taken x256.Amount x256.In
    (List.set x256.Closed x9.From.toNat true))) s205.Sent s205.Total), true))))
def spec_l8Come (v_0 : Snap) (v_1 : Int) : Option (Snap × Bool) := ((geti v_0.Chans v_1).bind fun x9 => ((geti x9.Way (0 : Int)).bind fun x33 => ((sl x9.Way 1
    (List.length x9.Way)).bind fun l44 => ((appN 8 ([] : List Int) l44).bind fun l51 => (if (decide ((0 : Int) < x33)) = true then ((geti v_0.Amounts x9.To).bind fun x65 =>
    ((geti v_0.Pictures x9.To).bind fun x75 => ((if x75.Taken = true then ((geti x75.Closed x9.From).bind fun x98 => (some (!x98))) else (some false)).bind fun v98 =>
    ((if v98 = true then ((geti x75.In x9.From).bind fun x151 => (some (List.set v_0.Pictures x9.To.toNat (Picture.mk x75.Taken x75.Amount (List.set x75.In x9.From.toNat
    (IntKind.wrap .i64 (x151 + x33))) x75.Closed)))) else (some v_0.Pictures)).bind (fun s175 => spec_l8Come_j1 v_0 v_1 x9 x33 l51 x65 s175))))) else
    ((geti v_0.Pictures x9.To).bind fun x176 => (jn (if (!x176.Taken) = true then ((spec_l8Take (Snap.mk v_0.Amounts (List.set v_0.Chans v_1.toNat
    (Chan.mk x9.From x9.To l51)) v_0.Pictures v_0.Sent v_0.Total) x9.To).bind fun v223 => (if (!v223.2) = true then (some (.ret
    ((Snap.mk v223.1.Amounts v223.1.Chans v223.1.Pictures v_0.Sent v_0.Total), false))) else (some (.nxt (v223.1, v223.1.Amounts, v223.1.Chans,
    v223.1.Pictures))))) else (some (.nxt ((Snap.mk v_0.Amounts (List.set v_0.Chans v_1.toNat (Chan.mk x9.From x9.To l51)) v_0.Pictures v_0.Sent v_0.Total), v_0.Amounts,
    (List.set v_0.Chans v_1.toNat (Chan.mk x9.From x9.To l51)), v_0.Pictures)))) (fun s291 => spec_l8Come_j2 x9 s291.1 s291.2.1 s291.2.2.1 s291.2.2.2))))))))

/-- spec.l8Step -/
def spec_l8Step (v_0 : Snap) (v_1 : SnapStep) : Option (Snap × Bool) := (if (decide (v_1.Kind = 3)) = true then ((if (((decide (v_1.N ≠ 0)) || (decide (v_1.K < 0))) || (decide
    ((List.length v_0.Amounts : Int) ≤ v_1.K))) = true then (some true) else ((geti v_0.Pictures v_1.K).bind fun x39 => (some x39.Taken))).bind fun v39 => (if v39 = true then
    (some (v_0, false)) else ((spec_l8Take v_0 v_1.K).bind fun v74 => (some (v74.1,
    v74.2))))) else (if ((decide (v_1.K < 0)) || (decide ((List.length v_0.Chans : Int) ≤ v_1.K))) = true then (some (v_0,
    false)) else ((geti v_0.Chans v_1.K).bind fun x100 => (if (decide (v_1.Kind = 1)) = true then ((if (decide (v_1.N < 1)) = true then (some true) else
    ((geti v_0.Amounts x100.From).bind fun x128 => (some (decide (x128 < v_1.N))))).bind fun v128 => (if ((v128 || (decide ((List.length x100.Way : Int) = 8))) || (decide
    (v_0.Sent = 1000))) = true then (some (v_0,
    false)) else ((geti v_0.Amounts x100.From).bind fun x175 => ((appN 8 x100.Way [v_1.N]).bind fun l191 => (some ((Snap.mk (List.set v_0.Amounts x100.From.toNat
    (IntKind.wrap .i64 (x175 - v_1.N))) (List.set v_0.Chans v_1.K.toNat (Chan.mk x100.From x100.To l191)) v_0.Pictures (IntKind.wrap .i64 (v_0.Sent + 1)) v_0.Total),
    true)))))) else (if (decide (v_1.Kind = 2)) = true then (if ((decide (v_1.N ≠ 0)) || (decide ((List.length x100.Way : Int) = 0))) = true then (some (v_0,
    false)) else ((spec_l8Come v_0 v_1.K).bind fun v235 => (some (v235.1, v235.2)))) else (some (v_0, false)))))))

/-- spec.l8Own -/
def spec_l8Own_b1 (l21 : List Int) (i42 : Nat) (x43 : Chan) (s37 : Snap) : Option (Oc Snap Snap) := ((appN 8 ([] : List Int) x43.Way).bind fun l78 =>
    ((appN 40 s37.Chans [(Chan.mk x43.From x43.To l78)]).bind fun l95 => (some (.nxt (Snap.mk l21 l95 [] s37.Sent s37.Total)))))
def spec_l8Own_b2 (l21 : List Int) (s108 : Snap) (i130 : Nat) (x131 : Picture) (s125 : Snap) : Option (Oc Snap Snap) := ((appN 8 ([] : List Int) x131.In).bind fun l165 =>
    ((appN 1 ([] : List Bool) x131.Closed).bind fun l182 => ((appN 64 s125.Pictures [(Picture.mk x131.Taken x131.Amount l165 l182)]).bind fun l199 => (some (.nxt
    (Snap.mk l21 s108.Chans l199 s125.Sent s125.Total))))))
def spec_l8Own_j1 (l21 : List Int) (s108 : Snap) (s212 : Snap)  : Option Snap := (some (Snap.mk l21 s108.Chans s212.Pictures s212.Sent s212.Total))
def spec_l8Own_j2 (s_0 : Snap) (l21 : List Int) (s108 : Snap)  : Option Snap := (jn (rangeL (fun i130 x131 s211 => spec_l8Own_b2 l21 s108 i130 x131 s211) s_0.Pictures
    (Snap.mk l21 s108.Chans [] s108.Sent s108.Total)) (fun s225 => spec_l8Own_j1 l21 s108 s225))
def spec_l8Own (s_0 : Snap) : Option Snap := ((appN 8 ([] : List Int) s_0.Amounts).bind fun l21 => (jn (rangeL (fun i42 x43 s107 => spec_l8Own_b1 l21 i42 x43 s107) s_0.Chans
    (Snap.mk l21 [] [] s_0.Sent s_0.Total)) (fun s226 => spec_l8Own_j2 s_0 l21 s226)))

/-- spec.PlaySnap -/
def spec_PlaySnap_j1 (s62 : List Bool) (v136 : Snap × Bool) (s151 : Snap)  : Option (Oc ((List Bool) × Snap) (Snap × (List Bool) × Bool)) :=
    ((appN 1 s62 [v136.2]).bind fun l192 => (some (.nxt (l192, s151))))
def spec_PlaySnap_b1 (i80 : Nat) (x81 : SnapStep) (s62 : List Bool) (s67 : Snap) : Option (Oc ((List Bool) × Snap) (Snap × (List Bool) × Bool)) :=
    ((spec_l8Own s67).bind fun v116 => ((spec_l8Step v116 x81).bind fun v136 => ((if v136.2 = true then (some v136.1) else (some s67)).bind
    (fun s202 => spec_PlaySnap_j1 s62 v136 s202))))
def spec_PlaySnap_j2 (s204 : List Bool) (s209 : Snap)  : Option (Snap × (List Bool) × Bool) := ((spec_l8Own s209).bind fun v229 => (some (v229, s204, true)))
def spec_PlaySnap (k : Nat) (procs_0 : Int) (amount_1 : Int) (l_2 : List SnapStep) : Option (Snap × (List Bool) × Bool) := ((spec_NewSnap k procs_0 amount_1).bind fun v5 => (if
    ((!v5.2) || (decide ((80 : Int) < (List.length l_2 : Int)))) = true then (some ((Snap.mk [] [] [] 0 0), [],
    false)) else (jn (rangeL (fun i80 x81 s203 => spec_PlaySnap_b1 i80 x81 s203.1 s203.2) l_2 (([], v5.1) : (List Bool) × Snap)) (fun s251 => spec_PlaySnap_j2 s251.1 s251.2))))

/-- laws.sameBools -/
def laws_sameBools_b1 (b_1 : List Bool) (i2 : Nat) (x3 : Bool) : Option (Oc Unit Bool) := ((geti b_1 (i2 : Int)).bind fun x24 => (if (!(x3 == x24)) = true then (some
    (.ret false)) else (some (.nxt ()))))
def laws_sameBools_j1  : Option Bool := (some true)
def laws_sameBools (a_0 : List Bool) (b_1 : List Bool) : Option Bool := (if (decide ((List.length a_0 : Int) ≠ (List.length b_1 : Int))) = true then (some false) else (jn (rangeL
    (fun i2 x3 _ => laws_sameBools_b1 b_1 i2 x3 ) a_0 ()) (fun _ => laws_sameBools_j1 )))

/-- laws.sameInts -/
def laws_sameInts_b1 (b_1 : List Int) (i2 : Nat) (x3 : Int) : Option (Oc Unit Bool) := ((geti b_1 (i2 : Int)).bind fun x24 => (if (decide (x3 ≠ x24)) = true then (some
    (.ret false)) else (some (.nxt ()))))
def laws_sameInts_j1  : Option Bool := (some true)
def laws_sameInts (a_0 : List Int) (b_1 : List Int) : Option Bool := (if (decide ((List.length a_0 : Int) ≠ (List.length b_1 : Int))) = true then (some false) else (jn (rangeL
    (fun i2 x3 _ => laws_sameInts_b1 b_1 i2 x3 ) a_0 ()) (fun _ => laws_sameInts_j1 )))

/-- laws.sameSnaps -/
def laws_sameSnaps_b1 (v_0 : Snap) (v_1 : Snap) (i53 : Nat) : Option (Oc Unit Bool) := ((geti v_0.Chans (i53 : Int)).bind fun x75 => ((geti v_1.Chans (i53 : Int)).bind fun x78 =>
    ((if (decide (x75.From ≠ x78.From)) = true then (some true) else ((geti v_0.Chans (i53 : Int)).bind fun x84 => ((geti v_1.Chans (i53 : Int)).bind fun x87 => (some (decide
    (x84.To ≠ x87.To)))))).bind fun v84 => (if v84 = true then (some (.ret false)) else ((geti v_0.Chans (i53 : Int)).bind fun x108 => ((geti v_1.Chans
    (i53 : Int)).bind fun x111 => ((laws_sameInts x108.Way x111.Way).bind fun v114 => (if (!v114) = true then (some (.ret false)) else (some (.nxt ()))))))))))
def laws_sameSnaps_b2 (v_0 : Snap) (v_1 : Snap) (i128 : Nat) : Option (Oc Unit Bool) := ((geti v_0.Pictures (i128 : Int)).bind fun x150 => ((geti v_1.Pictures
    (i128 : Int)).bind fun x161 => ((if ((!(x150.Taken == x161.Taken)) || (decide (x150.Amount ≠ x161.Amount))) = true then (some true) else
    ((laws_sameInts x150.In x161.In).bind fun v188 => (some (!v188)))).bind fun v188 => ((if v188 = true then (some true) else
    ((laws_sameBools x150.Closed x161.Closed).bind fun v209 => (some (!v209)))).bind fun v209 => (if v209 = true then (some (.ret false)) else (some (.nxt ())))))))
def laws_sameSnaps_j1  : Option Bool := (some true)
def laws_sameSnaps_j2 (v_0 : Snap) (v_1 : Snap)  : Option Bool := (jn (rangeI (fun i128 _ => laws_sameSnaps_b2 v_0 v_1 i128 ) (List.length v_0.Pictures : Int) ())
    (fun _ => laws_sameSnaps_j1 ))
def laws_sameSnaps (v_0 : Snap) (v_1 : Snap) : Option Bool := ((laws_sameInts v_0.Amounts v_1.Amounts).bind fun v13 => (if (((((!v13) || (decide (v_0.Sent ≠ v_1.Sent))) ||
    (decide (v_0.Total ≠ v_1.Total))) || (decide ((List.length v_0.Chans : Int) ≠ (List.length v_1.Chans : Int)))) || (decide ((List.length v_0.Pictures : Int) ≠
    (List.length v_1.Pictures : Int)))) = true then (some false) else (jn (rangeI (fun i53 _ => laws_sameSnaps_b1 v_0 v_1 i53 ) (List.length v_0.Chans : Int) ())
    (fun _ => laws_sameSnaps_j2 v_0 v_1 ))))

/-- impl.Snap).onWay -/
def impl_Snap_onWay_b1 (i41 : Nat) (x42 : Int) (s40 : Int) : Option (Oc Int (Oc Int Int)) := (some (.nxt (IntKind.wrap .i64 (s40 + x42))))
def impl_Snap_onWay_j1 (s68 : Int)  : Option (Oc Int Int) := (some (.nxt s68))
def impl_Snap_onWay_b2 (i9 : Nat) (x10 : Chan) (s8 : Int) : Option (Oc Int Int) := (jn (rangeL (fun i41 x42 s67 => impl_Snap_onWay_b1 i41 x42 s67) x10.Way s8)
    (fun s78 => impl_Snap_onWay_j1 s78))
def impl_Snap_onWay_j2 (s80 : Int)  : Option Int := (some s80)
def impl_Snap_onWay (s_0 : Snap) : Option Int := (jn (rangeL (fun i9 x10 s79 => impl_Snap_onWay_b2 i9 x10 s79) s_0.Chans 0) (fun s86 => impl_Snap_onWay_j2 s86))

/-- slices.Index[[]bool,bool] -/
def slices_Index_bool_b1 (v_1 : Bool) (i1 : Nat) (x2 : Bool) : Option (Oc Unit Int) := (if (v_1 == x2) = true then (some (.ret (i1 : Int))) else (some (.nxt ())))
def slices_Index_bool_j1  : Option Int := (some (-1))
def slices_Index_bool (s_0 : List Bool) (v_1 : Bool) : Option Int := (jn (rangeL (fun i1 x2 _ => slices_Index_bool_b1 v_1 i1 x2 ) s_0 ()) (fun _ => slices_Index_bool_j1 ))

/-- slices.Contains[[]bool,bool] -/
def slices_Contains_bool (s_0 : List Bool) (v_1 : Bool) : Option Bool := ((slices_Index_bool s_0 v_1).bind fun v1 => (some (decide ((0 : Int) ≤ v1))))

/-- slices.IndexFunc[[]int,int] -/
def slices_IndexFunc_int_b1 (f_1 : Int → Option Bool) (i1 : Nat) (x2 : Int) : Option (Oc Unit Int) := ((f_1 x2).bind fun v23 => (if v23 = true then (some (.ret (i1 : Int))) else
    (some (.nxt ()))))
def slices_IndexFunc_int_j1  : Option Int := (some (-1))
def slices_IndexFunc_int (s_0 : List Int) (f_1 : Int → Option Bool) : Option Int := (jn (rangeL (fun i1 x2 _ => slices_IndexFunc_int_b1 f_1 i1 x2 ) s_0 ())
    (fun _ => slices_IndexFunc_int_j1 ))

/-- slices.ContainsFunc[[]int,int] -/
def slices_ContainsFunc_int (s_0 : List Int) (f_1 : Int → Option Bool) : Option Bool := ((slices_IndexFunc_int s_0 f_1).bind fun v1 => (some (decide ((0 : Int) ≤ v1))))

/-- impl.isPicture$1 -/
def impl_isPicture_1 (n_0 : Int) : Bool := (!(impl_in n_0 0 1000000))

/-- slices.Max[[]int,int] -/
def slices_Max_int_b1 (x_0 : List Int) (s20 : Int) (s21 : Int) : Option (Oc (Int × Int) Int) := (if (decide (s21 < (List.length x_0 : Int))) = true then
    ((geti x_0 s21).bind fun x44 => (some (.nxt ((mxI s20 x44), (IntKind.wrap .i64 (s21 + 1)))))) else (some (.brk (s20, s21))))
def slices_Max_int_j2 (s50 : Int) (s51 : Int)  : Option Int := (some s50)
def slices_Max_int_j1 (k : Nat) (x_0 : List Int)  : Option Int := ((geti x_0 0).bind fun x15 => (jn (loopF (fun s49 => slices_Max_int_b1 x_0 s49.1 s49.2) k (x15,
    1)) (fun s58 => slices_Max_int_j2 s58.1 s58.2)))
def slices_Max_int (k : Nat) (x_0 : List Int) : Option Int := ((if (decide ((List.length x_0 : Int) < 1)) = true then none else (some ())).bind (fun _ => slices_Max_int_j1 k x_0 ))

/-- impl.isPicture -/
def impl_isPicture (k : Nat) (p_0 : Picture) (own_1 : Int) (procs_2 : Int) : Option Bool := ((if ((decide ((List.length p_0.In : Int) ≠ procs_2)) || (decide
    ((List.length p_0.Closed : Int) ≠ procs_2))) = true then (some true) else ((slices_ContainsFunc_int p_0.In (fun a0 => some (impl_isPicture_1 a0))).bind fun v19 =>
    (some v19))).bind fun v19 => (if v19 = true then (some false) else (if (!p_0.Taken) = true then ((if (decide (p_0.Amount = 0)) = true then
    ((slices_Max_int k p_0.In).bind fun v38 => (some (decide (v38 = 0)))) else (some false)).bind fun v38 => ((if v38 = true then
    ((slices_Contains_bool p_0.Closed true).bind fun v54 => (some (!v54))) else (some false)).bind fun v54 => (some v54))) else ((if (impl_in p_0.Amount 0 1000) = true then
    ((geti p_0.In own_1).bind fun x69 => (some (decide (x69 = 0)))) else (some false)).bind fun v69 => ((if v69 = true then ((geti p_0.Closed own_1).bind fun x86 =>
    (some x86)) else (some false)).bind fun v86 => (some v86))))))

/-- impl.isSnap -/
def impl_isSnap_b1 (k : Nat) (v_0 : Snap) (i46 : Nat) (x47 : Int) (s45 : Int) : Option (Oc Int Bool) := ((if (!(impl_in x47 0 1000)) = true then (some true) else
    ((geti v_0.Pictures (i46 : Int)).bind fun x73 => ((impl_isPicture k x73 (i46 : Int) (List.length v_0.Amounts : Int)).bind fun v76 => (some (!v76))))).bind fun v73 =>
    (if v73 = true then (some (.ret false)) else (some (.nxt (IntKind.wrap .i64 (s45 + x47))))))
def impl_isSnap_b2 (i229 : Nat) (x230 : Int) (s228 : Int) : Option (Oc Int (Oc (List Chan) Bool)) := (if (!(impl_in x230 0 1000)) = true then (some (.ret (.ret false))) else (if
    (decide (x230 = 0)) = true then (some (.nxt (IntKind.wrap .i64 (s228 + 1)))) else (some (.nxt s228))))
def impl_isSnap_j1 (v_0 : Snap) (s140 : List Chan) (x144 : Chan) (s269 : Int) (x285 : Bool) (s308 : Int)  : Option (Oc (List Chan) Bool) := ((if (decide
    (s269 ≠ s308)) = true then (some true) else ((if x285 = true then ((geti v_0.Pictures x144.From).bind fun x338 => (some (!x338.Taken))) else (some false)).bind fun v338 =>
    (some v338))).bind fun v335 => (if v335 = true then (some (.ret false)) else (some (.nxt s140))))
def impl_isSnap_j2 (v_0 : Snap) (s140 : List Chan) (x144 : Chan) (s269 : Int)  : Option (Oc (List Chan) Bool) := ((geti v_0.Pictures x144.To).bind fun x282 =>
    ((geti x282.Closed x144.From).bind fun x285 => ((geti v_0.Pictures x144.From).bind fun x288 => ((if (x288.Taken && (!x285)) = true then (some 1) else (some 0)).bind
    (fun s377 => impl_isSnap_j1 v_0 s140 x144 s269 x285 s377)))))
def impl_isSnap_b3 (v_0 : Snap) (i143 : Nat) (x144 : Chan) (s140 : List Chan) : Option (Oc (List Chan) Bool) := ((geti s140 (i143 : Int)).bind fun x175 => (if (((decide
    (x144.From ≠ x175.From)) || (decide (x144.To ≠ x175.To))) || (decide ((8 : Int) < (List.length x144.Way : Int)))) = true then (some (.ret false)) else (jn (rangeL
    (fun i229 x230 s268 => impl_isSnap_b2 i229 x230 s268) x144.Way 0) (fun s378 => impl_isSnap_j2 v_0 s140 x144 s378))))
def impl_isSnap_j3 (v_0 : Snap) (s101 : Int) (s380 : List Chan)  : Option Bool := ((impl_Snap_onWay v_0).bind fun v390 => (some (decide ((IntKind.wrap .i64
    (s101 + v390)) = v_0.Total))))
def impl_isSnap_j4 (v_0 : Snap) (s101 : Int)  : Option Bool := ((impl_newSnap (List.length v_0.Amounts : Int) 0).bind fun v109 => (jn (rangeL
    (fun i143 x144 s379 => impl_isSnap_b3 v_0 i143 x144 s379) v_0.Chans v109.Chans) (fun s393 => impl_isSnap_j3 v_0 s101 s393)))
def impl_isSnap (k : Nat) (v_0 : Snap) : Option Bool := (if (((((!(impl_in (List.length v_0.Amounts : Int) 2 4)) || (decide ((List.length v_0.Pictures : Int) ≠
    (List.length v_0.Amounts : Int)))) || (!(impl_in v_0.Sent 0 1000))) || (!(impl_in v_0.Total 0 1000))) || (decide ((List.length v_0.Chans : Int) ≠ (IntKind.wrap .i64
    ((List.length v_0.Amounts : Int) * (IntKind.wrap .i64 ((List.length v_0.Amounts : Int) - 1))))))) = true then (some false) else (jn (rangeL
    (fun i46 x47 s100 => impl_isSnap_b1 k v_0 i46 x47 s100) v_0.Amounts 0) (fun s394 => impl_isSnap_j4 v_0 s394)))

/-- impl.OnWay -/
def impl_OnWay (k : Nat) (s_0 : Snap) : Option (Int × Bool) := ((impl_isSnap k s_0).bind fun v7 => (if (!v7) = true then (some (0,
    false)) else ((impl_Snap_onWay s_0).bind fun v11 => (some (v11, true)))))

/-- impl.GoodSnap -/
def impl_GoodSnap (k : Nat) (s_0 : Snap) : Option Bool := ((impl_isSnap k s_0).bind fun v7 => (some v7))

/-- impl.PictureOf -/
def impl_PictureOf_b1 (i69 : Nat) (x70 : Int) (s68 : Int) : Option (Oc Int (Oc Int (Int × Bool))) := (some (.nxt (IntKind.wrap .i64 (s68 + x70))))
def impl_PictureOf_j1 (s96 : Int)  : Option (Oc Int (Int × Bool)) := (some (.nxt s96))
def impl_PictureOf_b2 (i13 : Nat) (x14 : Picture) (s12 : Int) : Option (Oc Int (Int × Bool)) := ((if (!x14.Taken) = true then (some true) else
    ((slices_Contains_bool x14.Closed false).bind fun v46 => (some v46))).bind fun v46 => (if v46 = true then (some (.ret (0,
    false))) else (jn (rangeL (fun i69 x70 s95 => impl_PictureOf_b1 i69 x70 s95) x14.In (IntKind.wrap .i64 (s12 + x14.Amount))) (fun s106 => impl_PictureOf_j1 s106))))
def impl_PictureOf_j2 (s108 : Int)  : Option (Int × Bool) := (some (s108, true))
def impl_PictureOf (k : Nat) (s_0 : Snap) : Option (Int × Bool) := ((impl_isSnap k s_0).bind fun v7 => (if (!v7) = true then (some (0,
    false)) else (jn (rangeL (fun i13 x14 s107 => impl_PictureOf_b2 i13 x14 s107) s_0.Pictures 0) (fun s114 => impl_PictureOf_j2 s114))))

/-- impl.copySnap -/
def impl_copySnap_b1 (l21 : List Int) (i42 : Nat) (x43 : Chan) (s37 : Snap) : Option (Oc Snap Snap) := ((appN 8 ([] : List Int) x43.Way).bind fun l78 =>
    ((appN 40 s37.Chans [(Chan.mk x43.From x43.To l78)]).bind fun l95 => (some (.nxt (Snap.mk l21 l95 [] s37.Sent s37.Total)))))
def impl_copySnap_b2 (l21 : List Int) (s108 : Snap) (i130 : Nat) (x131 : Picture) (s125 : Snap) : Option (Oc Snap Snap) := ((appN 8 ([] : List Int) x131.In).bind fun l165 =>
    ((appN 1 ([] : List Bool) x131.Closed).bind fun l182 => ((appN 64 s125.Pictures [(Picture.mk x131.Taken x131.Amount l165 l182)]).bind fun l199 => (some (.nxt
    (Snap.mk l21 s108.Chans l199 s125.Sent s125.Total))))))
def impl_copySnap_j1 (l21 : List Int) (s108 : Snap) (s212 : Snap)  : Option Snap := (some (Snap.mk l21 s108.Chans s212.Pictures s212.Sent s212.Total))
def impl_copySnap_j2 (s_0 : Snap) (l21 : List Int) (s108 : Snap)  : Option Snap := (jn (rangeL (fun i130 x131 s211 => impl_copySnap_b2 l21 s108 i130 x131 s211) s_0.Pictures
    (Snap.mk l21 s108.Chans [] s108.Sent s108.Total)) (fun s225 => impl_copySnap_j1 l21 s108 s225))
def impl_copySnap (s_0 : Snap) : Option Snap := ((appN 8 ([] : List Int) s_0.Amounts).bind fun l21 => (jn (rangeL
    (fun i42 x43 s107 => impl_copySnap_b1 l21 i42 x43 s107) s_0.Chans (Snap.mk l21 [] [] s_0.Sent s_0.Total)) (fun s226 => impl_copySnap_j2 s_0 l21 s226)))

/-- impl.Picture] -/
def slices_IndexFunc_Picture_b1 (f_1 : Picture → Option Bool) (i1 : Nat) (x2 : Picture) : Option (Oc Unit Int) := ((f_1 x2).bind fun v23 => (if v23 = true then (some (.ret
    (i1 : Int))) else (some (.nxt ()))))
def slices_IndexFunc_Picture_j1  : Option Int := (some (-1))
def slices_IndexFunc_Picture (s_0 : List Picture) (f_1 : Picture → Option Bool) : Option Int := (jn (rangeL (fun i1 x2 _ => slices_IndexFunc_Picture_b1 f_1 i1 x2 ) s_0 ())
    (fun _ => slices_IndexFunc_Picture_j1 ))

/-- impl.Picture] -/
def slices_ContainsFunc_Picture (s_0 : List Picture) (f_1 : Picture → Option Bool) : Option Bool := ((slices_IndexFunc_Picture s_0 f_1).bind fun v1 => (some (decide
    ((0 : Int) ≤ v1))))

/-- impl.FinishSnap$1 -/
def impl_FinishSnap_1 (p_0 : Picture) : Bool := p_0.Taken

/-- impl.Chan] -/
def slices_IndexFunc_Chan_b1 (f_1 : Chan → Option Bool) (i1 : Nat) (x2 : Chan) : Option (Oc Unit Int) := ((f_1 x2).bind fun v23 => (if v23 = true then (some (.ret
    (i1 : Int))) else (some (.nxt ()))))
def slices_IndexFunc_Chan_j1  : Option Int := (some (-1))
def slices_IndexFunc_Chan (s_0 : List Chan) (f_1 : Chan → Option Bool) : Option Int := (jn (rangeL (fun i1 x2 _ => slices_IndexFunc_Chan_b1 f_1 i1 x2 ) s_0 ())
    (fun _ => slices_IndexFunc_Chan_j1 ))

/-- impl.FinishSnap$2 -/
def impl_FinishSnap_2 (c_0 : Chan) : Bool := (decide ((0 : Int) < (List.length c_0.Way : Int)))

/-- impl.FinishSnap -/
def impl_FinishSnap_b1 (s99 : Int) (s100 : Snap) (s101 : List Int) (s104 : List Chan) (s107 : List Picture) : Option (Oc (Int × Snap × (List Int) × (List Chan) × (List Picture))
    (Snap × Int × Bool)) := ((slices_IndexFunc_Chan s104 (fun a0 => some (impl_FinishSnap_2 a0))).bind fun v131 => (if (decide (v131 < 0)) = true then (some (.ret
    ((Snap.mk s101 s104 s107 s100.Sent s100.Total), s99,
    true))) else ((impl_Snap_step (Snap.mk s101 s104 s107 s100.Sent s100.Total) (SnapStep.mk 2 v131 0)).bind fun v140 => (if (!v140.1) = true then (some (.ret
    ((Snap.mk [] [] [] 0 0), 0, false))) else (some (.nxt ((IntKind.wrap .i64 (s99 + 1)), v140.2, v140.2.Amounts, v140.2.Chans, v140.2.Pictures)))))))
def impl_FinishSnap_j2 (s159 : Int) (s160 : Snap) (s161 : List Int) (s164 : List Chan) (s167 : List Picture)  : Option (Snap × Int × Bool) := none
def impl_FinishSnap_j1 (k : Nat) (s46 : Bool) (s47 : Snap) (s48 : List Int) (s51 : List Chan) (s54 : List Picture)  : Option (Snap × Int × Bool) := (if s46 = true then (some
    ((Snap.mk [] [] [] 0 0), 0, false)) else (jn (loopF (fun s158 => impl_FinishSnap_b1 s158.1 s158.2.1 s158.2.2.1 s158.2.2.2.1 s158.2.2.2.2) k (0,
    (Snap.mk s48 s51 s54 s47.Sent s47.Total), s48, s51, s54)) (fun s176 => impl_FinishSnap_j2 s176.1 s176.2.1 s176.2.2.1 s176.2.2.2.1 s176.2.2.2.2)))
def impl_FinishSnap (k : Nat) (s_0 : Snap) : Option (Snap × Int × Bool) := ((impl_isSnap k s_0).bind fun v11 => (if (!v11) = true then (some ((Snap.mk [] [] [] 0 0), 0,
    false)) else ((impl_copySnap s_0).bind fun v17 => ((slices_ContainsFunc_Picture v17.Pictures (fun a0 => some (impl_FinishSnap_1 a0))).bind fun v43 => ((if (!v43) = true then
    ((impl_Snap_step v17 (SnapStep.mk 3 0 0)).bind fun v66 => (some ((!v66.1), v66.2, v66.2.Amounts, v66.2.Chans, v66.2.Pictures))) else (some (false, v17, v17.Amounts, v17.Chans,
    v17.Pictures))).bind (fun s177 => impl_FinishSnap_j1 k s177.1 s177.2.1 s177.2.2.1 s177.2.2.2.1 s177.2.2.2.2))))))

/-- laws.FnPictures -/
def laws_FnPictures_b1 (v14 : Snap × (List Bool) × Bool) (i126 : Nat) (s125 : Int) : Option (Oc Int Bool) := ((geti v14.1.Amounts (i126 : Int)).bind fun x152 => (some (.nxt
    (IntKind.wrap .i64 (s125 + x152)))))
def laws_FnPictures_j1 (k : Nat) (v2 : Int × Int × (List SnapStep)) (v14 : Snap × (List Bool) × Bool) (v121 : Int × Bool) (s159 : Int)  : Option Bool :=
    ((impl_GoodSnap k v14.1).bind fun v169 => (if ((((!v169) || (!v121.2)) || (decide (s159 ≠ (IntKind.wrap .i64 (v2.1 * v2.2.1))))) || (decide (v14.1.Total ≠ s159))) = true then
    (some false) else ((impl_PictureOf k v14.1).bind fun v201 => (if (v201.2 && (decide (v201.1 ≠ v14.1.Total))) = true then (some false) else
    ((impl_FinishSnap k v14.1).bind fun v213 => (if v213.2.2 = true then ((impl_PictureOf k v213.1).bind fun v242 => ((impl_OnWay k v213.1).bind fun v245 => ((if ((((!v242.2) ||
    (decide (v242.1 ≠ v14.1.Total))) || (!v245.2)) || (decide (v245.1 ≠ 0))) = true then (some true) else ((impl_GoodSnap k v213.1).bind fun v278 => (some
    (!v278)))).bind fun v278 => (if v278 = true then (some false) else (some true))))) else (some true)))))))
def laws_FnPictures (k : Nat) (v_0 : List Int) : Option Bool := (if (decide ((1048576 : Int) < (List.length v_0 : Int))) = true then (some true) else
    ((spec_DrawPlaySnap k v_0).bind fun v2 => ((impl_PlaySnap v2.1 v2.2.1 v2.2.2).bind fun v14 => ((spec_PlaySnap k v2.1 v2.2.1 v2.2.2).bind fun v46 => ((if
    (!(v14.2.2 == v46.2.2)) = true then (some true) else ((laws_sameBools v14.2.1 v46.2.1).bind fun v81 => (some (!v81)))).bind fun v81 => ((if v81 = true then (some true) else
    ((laws_sameSnaps v14.1 v46.1).bind fun v102 => (some (!v102)))).bind fun v102 => (if v102 = true then (some false) else (if (!v14.2.2) = true then (some (decide
    ((List.length v14.2.1 : Int) = 0))) else ((impl_OnWay k v14.1).bind fun v121 => (jn (rangeI (fun i126 s158 => laws_FnPictures_b1 v14 i126 s158)
    (List.length v14.1.Amounts : Int) v121.1) (fun s291 => laws_FnPictures_j1 k v2 v14 v121 s291)))))))))))
end Go.Proofs.Ytpkiieniipenjaa.X
