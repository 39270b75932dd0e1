/- The seat's types and functions, as plain Lean has them. -/
import Derived.Test.YtdhibknhejhfaaaXSlW
set_option linter.unusedVariables false
set_option linter.unusedSimpArgs false
set_option maxRecDepth 100000
namespace Go.Proofs.Ytdhibknhejhfaaa.X
open Go
open Nat (reduceEqDiff)
structure BoundsError where
  x : Int
  y : Int
  signed : Bool
  code : Int
  deriving DecidableEq, Inhabited
def BoundsError.cells (x : BoundsError) : List XV := [.int .i64 x.x, .int .i64 x.y, .bool x.signed, .int .u8 x.code]
structure Reader where
  In : Bool
  Generation : Int
  Share : List Int
  Read : List Int
  deriving DecidableEq, Inhabited
def Reader.cells (x : Reader) : List XV := [.bool x.In, .int .i64 x.Generation, lst cI x.Share, lst cI x.Read]
structure Readers_ where
  Generation : Int
  Readers : List Reader
  Committed : List Int
  Ends : List Int
  deriving DecidableEq, Inhabited
def Readers_.cells (x : Readers_) : List XV := [.int .i64 x.Generation, lst Reader.cells x.Readers, lst cI x.Committed, lst cI x.Ends]
structure GroupStep where
  Kind : Int
  K : Int
  Part : Int
  N : Int
  deriving DecidableEq, Inhabited
def GroupStep.cells (x : GroupStep) : List XV := [.int .i64 x.Kind, .int .i64 x.K, .int .i64 x.Part, .int .i64 x.N]
structure L1Cur where
  code : List Int
  at_ : Int
  seed : Int
  deriving DecidableEq, Inhabited
def L1Cur.cells (x : L1Cur) : List XV := [lst cU8 x.code, .int .i64 x.at_, .int .u64 x.seed]

/-- spec.l1Cur).next -/
def spec_next_j1 (c_0 : L1Cur) (s1 : Int)  : Option (Int × L1Cur) := (if (decide ((IntKind.wrap .i64 (c_0.at_ + 1)) ≤ (List.length c_0.code : Int))) = true then (some (s1,
    (L1Cur.mk c_0.code (IntKind.wrap .i64 (c_0.at_ + 1)) (IntKind.wrap .u64 ((IntKind.wrap .u64 ((IntKind.wrap .u64 (c_0.seed * 6364136223846793005)) +
    (IntKind.wrap .u64 s1))) + 1442695040888963407))))) else (some ((IntKind.wrap .i64 (wand .u64 (wshr .u64 (IntKind.wrap .u64 ((IntKind.wrap .u64 ((IntKind.wrap .u64
    (c_0.seed * 6364136223846793005)) + (IntKind.wrap .u64 s1))) + 1442695040888963407)) 40) 255)),
    (L1Cur.mk c_0.code (IntKind.wrap .i64 (c_0.at_ + 1)) (IntKind.wrap .u64 ((IntKind.wrap .u64 ((IntKind.wrap .u64 (c_0.seed * 6364136223846793005)) +
    (IntKind.wrap .u64 s1))) + 1442695040888963407))))))
def spec_next (c_0 : L1Cur) : Option (Int × L1Cur) := ((if (decide (c_0.at_ < (List.length c_0.code : Int))) = true then ((geti c_0.code c_0.at_).bind fun x10 => (some
    (IntKind.wrap .i64 x10))) else (some 0)).bind (fun s25 => spec_next_j1 c_0 s25))

/-- spec.l1Cur).pick -/
def spec_pick (c_0 : L1Cur) (n_1 : Int) : Option (Int × L1Cur) := (if (decide (n_1 ≤ 1)) = true then (some (0,
    c_0)) else ((spec_next c_0).bind fun v2 => (if (decide ((200 : Int) < n_1)) = true then ((spec_next v2.2).bind fun v8 => (ck (n_1 ≠ 0) (some ((Int.tmod (IntKind.wrap .i64
    ((IntKind.wrap .i64 (v2.1 * 256)) + v8.1)) n_1), v8.2)))) else (ck (n_1 ≠ 0) (some ((Int.tmod v2.1 n_1), v2.2))))))

/-- spec.l1Cur).among -/
def spec_among (c_0 : L1Cur) (list_1 : List Int) : Option (Int × L1Cur × (List Int)) := ((spec_pick c_0 (List.length list_1 : Int)).bind fun v1 =>
    ((geti list_1 v1.1).bind fun x6 => (some (x6, v1.2, list_1))))

/-- spec.l1Cur).one -/
def spec_one (c_0 : L1Cur) (n_1 : Int) : Option (Bool × L1Cur) := ((spec_pick c_0 n_1).bind fun v1 => (some ((decide (v1.1 = 0)), v1.2)))

/-- spec.l1Cur).ends -/
def spec_ends_b1 (s13 : List Int) (s18 : Int) (s19 : L1Cur) : Option (Oc ((List Int) × Int × L1Cur) ((List Int) × L1Cur)) := (if (decide ((0 : Int) < s18)) = true then
    ((spec_among s19 [0, 3, 5, 100]).bind fun v48 => ((appN 8 s13 [v48.1]).bind fun l61 => (some (.nxt (l61, (IntKind.wrap .i64 (s18 - 1)), v48.2.1))))) else (some (.brk (s13,
    s18, s19))))
def spec_ends_j1 (s73 : List Int) (s78 : Int) (s79 : L1Cur)  : Option ((List Int) × L1Cur) := ((spec_one s79 30).bind fun v86 => (if v86.1 = true then ((spec_among v86.2 [(-1),
    101]).bind fun v98 => ((geti s73 (0 : Int)).bind fun x105 => (some ((List.set s73 (0 : Int).toNat v98.1), v98.2.1)))) else (some (s73, v86.2))))
def spec_ends (k : Nat) (c_0 : L1Cur) : Option ((List Int) × L1Cur) := ((spec_pick c_0 6).bind fun v1 => (jn (loopF (fun s72 => spec_ends_b1 s72.1 s72.2.1 s72.2.2) k (([],
    (IntKind.wrap .i64 ((1 : Int) + v1.1)), v1.2) : (List Int) × Int × L1Cur)) (fun s115 => spec_ends_j1 s115.1 s115.2.1 s115.2.2)))

/-- spec.l1Cur).groupSteps -/
def spec_groupSteps_j4 (s44 : List GroupStep) (s49 : Int) (s162 : L1Cur) (s163 : GroupStep)  : Option (Oc ((List GroupStep) × Int × L1Cur) ((List GroupStep) × L1Cur)) :=
    ((appN 32 s44 [s163]).bind fun l212 => (some (.nxt (l212, (IntKind.wrap .i64 (s49 - 1)), s162))))
def spec_groupSteps_j3 (s44 : List GroupStep) (s49 : Int) (s128 : L1Cur) (s129 : GroupStep)  : Option (Oc ((List GroupStep) × Int × L1Cur) ((List GroupStep) × L1Cur)) :=
    ((spec_one s128 60).bind fun v157 => ((if v157.1 = true then ((spec_pick v157.2 7).bind fun v173 => ((spec_pick v173.2 7).bind fun v178 =>
    ((spec_pick v178.2 8).bind fun v183 => ((spec_pick v183.2 3).bind fun v188 => (some (v188.2,
    (GroupStep.mk v173.1 (IntKind.wrap .i64 (v178.1 - 1)) (IntKind.wrap .i64 (v183.1 - 1)) v188.1))))))) else (some (v157.2,
    s129))).bind (fun s222 => spec_groupSteps_j4 s44 s49 s222.1 s222.2)))
def spec_groupSteps_j2 (s44 : List GroupStep) (s49 : Int) (s99 : L1Cur) (s100 : GroupStep)  : Option (Oc ((List GroupStep) × Int × L1Cur) ((List GroupStep) × L1Cur)) := ((if
    (decide (s100.Kind = 4)) = true then ((spec_pick s99 4).bind fun v139 => (some (v139.2,
    (GroupStep.mk s100.Kind s100.K s100.Part (IntKind.wrap .i64 ((1 : Int) + v139.1)))))) else (some (s99, s100))).bind (fun s223 => spec_groupSteps_j3 s44 s49 s223.1 s223.2))
def spec_groupSteps_b1 (readers_1 : Int) (parts_2 : Int) (s44 : List GroupStep) (s49 : Int) (s50 : L1Cur) : Option (Oc ((List GroupStep) × Int × L1Cur)
    ((List GroupStep) × L1Cur)) := (if (decide ((0 : Int) < s49)) = true then ((spec_among s50 [1, 1, 2, 3, 3, 3, 4, 4, 4, 5, 5,
    5]).bind fun v81 => ((spec_pick v81.2.1 readers_1).bind fun v88 => ((if (decide ((4 : Int) ≤ v81.1)) = true then ((spec_pick v88.2 parts_2).bind fun v110 => (some (v110.2,
    (GroupStep.mk v81.1 v88.1 v110.1 0)))) else (some (v88.2,
    (GroupStep.mk v81.1 v88.1 0 0)))).bind (fun s224 => spec_groupSteps_j2 s44 s49 s224.1 s224.2)))) else (some (.brk (s44, s49, s50))))
def spec_groupSteps_j5 (s227 : List GroupStep) (s232 : Int) (s233 : L1Cur)  : Option ((List GroupStep) × L1Cur) := (some (s227, s233))
def spec_groupSteps_j1 (k : Nat) (readers_1 : Int) (parts_2 : Int) (s11 : Int) (s12 : L1Cur)  : Option ((List GroupStep) × L1Cur) := (jn (loopF
    (fun s226 => spec_groupSteps_b1 readers_1 parts_2 s226.1 s226.2.1 s226.2.2) k (([], s11,
    s12) : (List GroupStep) × Int × L1Cur)) (fun s242 => spec_groupSteps_j5 s242.1 s242.2.1 s242.2.2))
def spec_groupSteps (k : Nat) (c_0 : L1Cur) (readers_1 : Int) (parts_2 : Int) : Option ((List GroupStep) × L1Cur) := ((spec_pick c_0 40).bind fun v1 =>
    ((spec_one v1.2 8).bind fun v6 => ((if v6.1 = true then ((spec_pick v6.2 12).bind fun v22 => (some ((IntKind.wrap .i64 ((70 : Int) + v22.1)), v22.2))) else (some (v1.1,
    v6.2))).bind (fun s243 => spec_groupSteps_j1 k readers_1 parts_2 s243.1 s243.2))))

/-- spec.DrawPlayReaders -/
def spec_DrawPlayReaders (k : Nat) (code_0 : List Int) : Option (Int × (List Int) × (List GroupStep)) := ((spec_pick (L1Cur.mk code_0 0 0) 5).bind fun v5 =>
    ((spec_ends k v5.2).bind fun v10 => ((spec_groupSteps k v10.2 (IntKind.wrap .i64 ((1 : Int) + v5.1)) (List.length v10.1 : Int)).bind fun v19 => (some ((IntKind.wrap .i64
    ((1 : Int) + v5.1)), v10.1, v19.1)))))

/-- impl.in -/
def impl_in (n_0 : Int) (low_1 : Int) (high_2 : Int) : Bool := ((decide (low_1 ≤ n_0)) && (decide (n_0 ≤ high_2)))

/-- slices.IndexFunc[[]int,int] -/
def slices_IndexFunc_int_b1 (f_1 : Int → Option Bool) (i1 : Nat) (x2 : Int) : Option (Oc Unit Int) := ((f_1 x2).bind fun v23 => (if v23 = true then (some (.ret (i1 : Int))) else
    (some (.nxt ()))))
def slices_IndexFunc_int_j1  : Option Int := (some (-1))
def slices_IndexFunc_int (s_0 : List Int) (f_1 : Int → Option Bool) : Option Int := (jn (rangeL (fun i1 x2 _ => slices_IndexFunc_int_b1 f_1 i1 x2 ) s_0 ())
    (fun _ => slices_IndexFunc_int_j1 ))

/-- slices.ContainsFunc[[]int,int] -/
def slices_ContainsFunc_int (s_0 : List Int) (f_1 : Int → Option Bool) : Option Bool := ((slices_IndexFunc_int s_0 f_1).bind fun v1 => (some (decide ((0 : Int) ≤ v1))))

/-- impl.newReaders$1 -/
def impl_newReaders_1 (e_0 : Int) : Bool := (!(impl_in e_0 0 100))

/-- impl.newReaders -/
def impl_newReaders_b1 (ends_1 : List Int) (l36 : List Int) (l55 : List Int) (i76 : Nat) (s71 : Readers_) : Option (Oc Readers_ (Readers_ × Bool)) := ((mkN 8
    (List.length ends_1 : Int) (0 : Int)).bind fun l99 => ((appN 64 s71.Readers ([(Reader.mk false 0 [] l99)])).bind fun l114 => (some (.nxt
    (Readers_.mk s71.Generation l114 l36 l55)))))
def impl_newReaders_j1 (l36 : List Int) (l55 : List Int) (s127 : Readers_)  : Option (Readers_ × Bool) := (some ((Readers_.mk s127.Generation s127.Readers l36 l55), true))
def impl_newReaders (readers_0 : Int) (ends_1 : List Int) : Option (Readers_ × Bool) := ((if ((!(impl_in readers_0 1 5)) || (!(impl_in
    (List.length ends_1 : Int) 1 6))) = true then (some true) else ((slices_ContainsFunc_int ends_1 (fun a0 => some (impl_newReaders_1 a0))).bind fun v18 =>
    (some v18))).bind fun v18 => (if v18 = true then (some ((Readers_.mk 0 [] [] []),
    false)) else ((mkN 8 (List.length ends_1 : Int) (0 : Int)).bind fun l36 => ((appN 8 ([] : List Int) ends_1).bind fun l55 => (jn (rangeI
    (fun i76 s126 => impl_newReaders_b1 ends_1 l36 l55 i76 s126) readers_0 (Readers_.mk 0 [] l36 l55)) (fun s140 => impl_newReaders_j1 l36 l55 s140))))))

/-- slices.Index[[]int,int] -/
def slices_Index_int_b1 (v_1 : Int) (i1 : Nat) (x2 : Int) : Option (Oc Unit Int) := (if (decide (v_1 = x2)) = true then (some (.ret (i1 : Int))) else (some (.nxt ())))
def slices_Index_int_j1  : Option Int := (some (-1))
def slices_Index_int (s_0 : List Int) (v_1 : Int) : Option Int := (jn (rangeL (fun i1 x2 _ => slices_Index_int_b1 v_1 i1 x2 ) s_0 ()) (fun _ => slices_Index_int_j1 ))

/-- slices.Contains[[]int,int] -/
def slices_Contains_int (s_0 : List Int) (v_1 : Int) : Option Bool := ((slices_Index_int s_0 v_1).bind fun v1 => (some (decide ((0 : Int) ≤ v1))))

/-- impl.Readers).shareOf -/
def impl_Readers_shareOf_b1 (k_1 : Int) (i11 : Nat) (x12 : Reader) (s9 : Int) (s10 : Int) : Option (Oc (Int × Int) (List Int)) := (if x12.In = true then (if (decide
    ((i11 : Int) < k_1)) = true then (some (.nxt ((IntKind.wrap .i64 (s9 + 1)), (IntKind.wrap .i64 (s10 + 1))))) else (some (.nxt ((IntKind.wrap .i64 (s9 + 1)),
    s10)))) else (some (.nxt (s9, s10))))
def impl_Readers_shareOf_b2 (s50 : Int) (s51 : Int) (i76 : Nat) (s71 : List Int) : Option (Oc (List Int) (List Int)) := (ck (s50 ≠ 0) (if (decide ((Int.tmod
    (i76 : Int) s50) = s51)) = true then ((appN 8 s71 [(i76 : Int)]).bind fun l108 => (some (.nxt l108))) else (some (.nxt s71))))
def impl_Readers_shareOf_j1 (s120 : List Int)  : Option (List Int) := (some s120)
def impl_Readers_shareOf_j2 (r_0 : Readers_) (s50 : Int) (s51 : Int)  : Option (List Int) := (jn (rangeI (fun i76 s119 => impl_Readers_shareOf_b2 s50 s51 i76 s119)
    (List.length r_0.Ends : Int) ([] : List Int)) (fun s131 => impl_Readers_shareOf_j1 s131))
def impl_Readers_shareOf (r_0 : Readers_) (k_1 : Int) : Option (List Int) := (jn (rangeL (fun i11 x12 s49 => impl_Readers_shareOf_b1 k_1 i11 x12 s49.1 s49.2) r_0.Readers (0,
    0)) (fun s132 => impl_Readers_shareOf_j2 r_0 s132.1 s132.2))

/-- impl.Readers).step -/
def impl_Readers_step_b1 (v_0 : Readers_) (v168 : List Int) (i218 : Nat) (s215 : List Int) : Option (Oc (List Int) (Bool × Readers_)) := ((geti v168
    (i218 : Int)).bind fun x241 => ((geti v_0.Committed x241).bind fun x246 => ((geti s215 x241).bind fun x251 => (some (.nxt (List.set s215 x241.toNat x246))))))
def impl_Readers_step_j2 (v_0 : Readers_) (v_1 : GroupStep) (x56 : Reader) (v168 : List Int) (s263 : List Int)  : Option (Bool × Readers_) := (some (true,
    (Readers_.mk v_0.Generation (List.set v_0.Readers v_1.K.toNat (Reader.mk ((Reader.mk x56.In v_0.Generation x56.Share x56.Read).In)
    ((Reader.mk x56.In v_0.Generation x56.Share x56.Read).Generation) v168 s263)) v_0.Committed v_0.Ends)))
def impl_Readers_step_j1 (v_0 : Readers_) (v_1 : GroupStep) (x56 : Reader) (s85 : Bool)  : Option (Bool × Readers_) := (if s85 = true then (if (decide
    (v_0.Generation = 1000)) = true then (some (false, v_0)) else ((mkN 8 (List.length v_0.Ends : Int) (0 : Int)).bind fun l109 => (some (true,
    (Readers_.mk (IntKind.wrap .i64 (v_0.Generation + 1)) (List.set v_0.Readers v_1.K.toNat (Reader.mk (decide (v_1.Kind = 1)) 0 [] l109)) v_0.Committed v_0.Ends))))) else (if
    (decide (v_1.Kind = 3)) = true then (if (decide (x56.Generation = v_0.Generation)) = true then (some (false,
    v_0)) else ((impl_Readers_shareOf (Readers_.mk v_0.Generation (List.set v_0.Readers v_1.K.toNat
    (Reader.mk x56.In v_0.Generation x56.Share x56.Read)) v_0.Committed v_0.Ends) v_1.K).bind fun v168 => ((mkN 8 (List.length v_0.Ends : Int) (0 : Int)).bind fun l199 => (jn
    (rangeI (fun i218 s262 => impl_Readers_step_b1 v_0 v168 i218 s262) (List.length v168 : Int) l199) (fun s277 => impl_Readers_step_j2 v_0 v_1 x56 v168 s277))))) else (if
    (decide (v_1.Kind = 4)) = true then ((slices_Contains_int x56.Share v_1.Part).bind fun v294 => (if ((!v294) || (decide (v_1.N < 1))) = true then (some (false,
    v_0)) else ((geti x56.Read v_1.Part).bind fun x312 => ((geti v_0.Ends v_1.Part).bind fun x317 => (some (true,
    (Readers_.mk v_0.Generation (List.set v_0.Readers v_1.K.toNat (Reader.mk x56.In x56.Generation x56.Share (List.set x56.Read v_1.Part.toNat (IntKind.wrap .i64 (x312 +
    (mnI v_1.N (IntKind.wrap .i64 (x317 - x312)))))))) v_0.Committed v_0.Ends))))))) else (if (decide (v_1.Kind = 5)) = true then (if (!(decide
    (x56.Generation = v_0.Generation))) = true then (some (false, v_0)) else ((slices_Contains_int x56.Share v_1.Part).bind fun v349 => (if (!v349) = true then (some (false,
    v_0)) else ((geti v_0.Committed v_1.Part).bind fun x357 => ((geti x56.Read v_1.Part).bind fun x362 => (some (true,
    (Readers_.mk v_0.Generation v_0.Readers (List.set v_0.Committed v_1.Part.toNat (mxI x357 x362)) v_0.Ends)))))))) else (some (false, v_0))))))
def impl_Readers_step (v_0 : Readers_) (v_1 : GroupStep) : Option (Bool × Readers_) := (if (((!(impl_in v_1.K 0 (IntKind.wrap .i64 ((List.length v_0.Readers : Int) - 1)))) ||
    ((decide (v_1.Kind ≠ 4)) && (decide (v_1.N ≠ 0)))) || (((decide (v_1.Kind ≠ 4)) && (decide (v_1.Kind ≠ 5))) && (decide (v_1.Part ≠ 0)))) = true then (some (false,
    v_0)) else ((geti v_0.Readers v_1.K).bind fun x56 => (if (x56.In == (decide (v_1.Kind = 1))) = true then (some (false,
    v_0)) else ((if (decide (v_1.Kind = 1)) = true then (some (decide (v_1.Kind = 1))) else (some (decide (v_1.Kind = 2)))).bind
    (fun s376 => impl_Readers_step_j1 v_0 v_1 x56 s376)))))

/-- impl.PlayReaders -/
def impl_PlayReaders_b1 (i80 : Nat) (x81 : GroupStep) (s65 : List Bool) (s70 : Readers_) (s71 : List Reader) (s74 : List Int) (s77 : List Int) : Option (Oc
    ((List Bool) × Readers_ × (List Reader) × (List Int) × (List Int)) (Readers_ × (List Bool) × Bool)) := ((impl_Readers_step
    (Readers_.mk s70.Generation s71 s74 s77) x81).bind fun v112 => ((appN 1 s65 [v112.1]).bind fun l129 => (some (.nxt (l129, v112.2, v112.2.Readers, v112.2.Committed,
    v112.2.Ends)))))
def impl_PlayReaders_j1 (s140 : List Bool) (s145 : Readers_) (s146 : List Reader) (s149 : List Int) (s152 : List Int)  : Option (Readers_ × (List Bool) × Bool) := (some
    ((Readers_.mk s145.Generation s146 s149 s152), s140, true))
def impl_PlayReaders (readers_0 : Int) (ends_1 : List Int) (l_2 : List GroupStep) : Option (Readers_ × (List Bool) × Bool) := ((impl_newReaders readers_0 ends_1).bind fun v5 =>
    (if ((!v5.2) || (decide ((80 : Int) < (List.length l_2 : Int)))) = true then (some ((Readers_.mk 0 [] [] []), [],
    false)) else (jn (rangeL (fun i80 x81 s139 => impl_PlayReaders_b1 i80 x81 s139.1 s139.2.1 s139.2.2.1 s139.2.2.2.1 s139.2.2.2.2) l_2 (([] : List Bool), v5.1, v5.1.Readers,
    v5.1.Committed, v5.1.Ends)) (fun s164 => impl_PlayReaders_j1 s164.1 s164.2.1 s164.2.2.1 s164.2.2.2.1 s164.2.2.2.2))))

/-- spec.l1In -/
def spec_l1In (n_0 : Int) (lo_1 : Int) (hi_2 : Int) : Bool := ((decide (lo_1 ≤ n_0)) && (decide (n_0 ≤ hi_2)))

/-- spec.NewReaders -/
def spec_NewReaders_b1 (i18 : Nat) (x19 : Int) : Option (Oc Unit (Readers_ × Bool)) := (if (!(spec_l1In x19 0 100)) = true then (some (.ret ((Readers_.mk 0 [] [] []),
    false))) else (some (.nxt ())))
def spec_NewReaders_b2 (readers_0 : Int) (ends_1 : List Int) (l57 : List Int) (l76 : List Int) (s93 : Int) (s94 : Readers_) : Option (Oc (Int × Readers_) (Readers_ × Bool)) :=
    (if (decide (s93 < readers_0)) = true then ((mkN 8 (List.length ends_1 : Int) (0 : Int)).bind fun l123 => ((appN 64 s94.Readers
    ([(Reader.mk false 0 [] l123)])).bind fun l138 => (some (.nxt ((IntKind.wrap .i64 (s93 + 1)), (Readers_.mk s94.Generation l138 l57 l76)))))) else (some (.brk (s93,
    (Readers_.mk s94.Generation s94.Readers l57 l76)))))
def spec_NewReaders_j1 (l57 : List Int) (l76 : List Int) (s152 : Int) (s153 : Readers_)  : Option (Readers_ × Bool) := (some ((Readers_.mk s153.Generation s153.Readers l57 l76),
    true))
def spec_NewReaders_j2 (k : Nat) (readers_0 : Int) (ends_1 : List Int)  : Option (Readers_ × Bool) := ((mkN 8 (List.length ends_1 : Int) (0 : Int)).bind fun l57 => ((appN 8
    ([] : List Int) ends_1).bind fun l76 => (jn (loopF (fun s151 => spec_NewReaders_b2 readers_0 ends_1 l57 l76 s151.1 s151.2) k (0,
    (Readers_.mk 0 [] l57 l76))) (fun s168 => spec_NewReaders_j1 l57 l76 s168.1 s168.2))))
def spec_NewReaders (k : Nat) (readers_0 : Int) (ends_1 : List Int) : Option (Readers_ × Bool) := (if ((!(spec_l1In readers_0 1 5)) || (!(spec_l1In
    (List.length ends_1 : Int) 1 6))) = true then (some ((Readers_.mk 0 [] [] []),
    false)) else (jn (rangeL (fun i18 x19 _ => spec_NewReaders_b1 i18 x19 ) ends_1 ()) (fun _ => spec_NewReaders_j2 k readers_0 ends_1 )))

/-- spec.l14Share -/
def spec_l14Share_j1 (s10 : Int) (x13 : Reader) (s45 : Int)  : Option (Oc (Int × Int) (List Int)) := (if x13.In = true then (some (.nxt ((IntKind.wrap .i64 (s10 + 1)),
    s45))) else (some (.nxt (s10, s45))))
def spec_l14Share_b1 (k_1 : Int) (i12 : Nat) (x13 : Reader) (s10 : Int) (s11 : Int) : Option (Oc (Int × Int) (List Int)) := ((if (decide ((i12 : Int) = k_1)) = true then
    (some s10) else (some s11)).bind (fun s70 => spec_l14Share_j1 s10 x13 s70))
def spec_l14Share_b2 (s72 : Int) (s73 : Int) (i92 : Nat) (s87 : List Int) : Option (Oc (List Int) (List Int)) := ((if (decide ((0 : Int) < s72)) = true then (ck (s72 ≠ 0) (some
    (decide ((Int.tmod (i92 : Int) s72) = s73)))) else (some false)).bind fun v118 => (if v118 = true then ((appN 8 s87 [(i92 : Int)]).bind fun l142 => (some (.nxt l142))) else
    (some (.nxt s87))))
def spec_l14Share_j2 (s154 : List Int)  : Option (List Int) := (some s154)
def spec_l14Share_j3 (r_0 : Readers_) (s72 : Int) (s73 : Int)  : Option (List Int) := (jn (rangeI (fun i92 s153 => spec_l14Share_b2 s72 s73 i92 s153) (List.length r_0.Ends : Int)
    ([] : (List Int))) (fun s165 => spec_l14Share_j2 s165))
def spec_l14Share (r_0 : Readers_) (k_1 : Int) : Option (List Int) := (jn (rangeL (fun i12 x13 s71 => spec_l14Share_b1 k_1 i12 x13 s71.1 s71.2) r_0.Readers (0,
    0)) (fun s166 => spec_l14Share_j3 r_0 s166.1 s166.2))

/-- spec.l1Has -/
def spec_l1Has_b1 (n_1 : Int) (i1 : Nat) (x2 : Int) : Option (Oc Unit Bool) := (if (decide (x2 = n_1)) = true then (some (.ret true)) else (some (.nxt ())))
def spec_l1Has_j1  : Option Bool := (some false)
def spec_l1Has (l_0 : List Int) (n_1 : Int) : Option Bool := (jn (rangeL (fun i1 x2 _ => spec_l1Has_b1 n_1 i1 x2 ) l_0 ()) (fun _ => spec_l1Has_j1 ))

/-- spec.l14Step -/
def spec_l14Step_b1 (v_0 : Readers_) (v205 : List Int) (i236 : Nat) (s233 : List Int) : Option (Oc (List Int) (Oc (Readers_ × Reader × (List Int)) (Readers_ × Bool))) :=
    ((geti v205 (i236 : Int)).bind fun x261 => ((geti v_0.Committed x261).bind fun x266 => ((geti s233 x261).bind fun x271 => (some (.nxt (List.set s233 x261.toNat x266))))))
def spec_l14Step_j1 (v_0 : Readers_) (x70 : Reader) (v205 : List Int) (s283 : List Int)  : Option (Oc (Readers_ × Reader × (List Int)) (Readers_ × Bool)) := (some (.nxt (v_0,
    (Reader.mk x70.In v_0.Generation v205 s283), v_0.Committed)))
def spec_l14Step_j2 (v_0 : Readers_) (v_1 : GroupStep) (s118 : Readers_) (s119 : Reader) (s128 : List Int)  : Option (Readers_ × Bool) := (some ((Readers_.mk s118.Generation
    (List.set v_0.Readers v_1.K.toNat s119) s128 v_0.Ends), true))
def spec_l14Step (v_0 : Readers_) (v_1 : GroupStep) : Option (Readers_ × Bool) := (if ((((decide (v_1.K < 0)) || (decide ((List.length v_0.Readers : Int) ≤ v_1.K))) || ((decide
    (v_1.Kind < 4)) && (decide (v_1.Part ≠ 0)))) || ((decide (v_1.Kind ≠ 4)) && (decide (v_1.N ≠ 0)))) = true then (some (v_0,
    false)) else ((geti v_0.Readers v_1.K).bind fun x70 => (jn (if (((decide (v_1.Kind = 1)) && (!x70.In)) && (decide (v_0.Generation < 1000))) = true then ((mkN 8
    (List.length v_0.Ends : Int) (0 : Int)).bind fun l141 => (some (.nxt ((Readers_.mk (IntKind.wrap .i64 (v_0.Generation + 1)) v_0.Readers v_0.Committed v_0.Ends),
    (Reader.mk true 0 [] l141), v_0.Committed)))) else (if (!x70.In) = true then (some (.ret (v_0,
    false))) else (if ((decide (v_1.Kind = 2)) && (decide (v_0.Generation < 1000))) = true then ((mkN 8 (List.length v_0.Ends : Int) (0 : Int)).bind fun l175 => (some (.nxt
    ((Readers_.mk (IntKind.wrap .i64 (v_0.Generation + 1)) v_0.Readers v_0.Committed v_0.Ends), (Reader.mk false 0 [] l175),
    v_0.Committed)))) else (if ((decide (v_1.Kind = 3)) && (decide (x70.Generation ≠ v_0.Generation))) = true then ((spec_l14Share v_0 v_1.K).bind fun v205 => ((mkN 8
    (List.length v_0.Ends : Int) (0 : Int)).bind fun l219 => (jn (rangeI (fun i236 s282 => spec_l14Step_b1 v_0 v205 i236 s282) (List.length v205 : Int) l219)
    (fun s295 => spec_l14Step_j1 v_0 x70 v205 s295)))) else ((if (decide (v_1.Kind = 4)) = true then ((spec_l1Has x70.Share v_1.Part).bind fun v299 => (some v299)) else
    (some false)).bind fun v299 => (if (v299 && (decide ((1 : Int) ≤ v_1.N))) = true then ((geti v_0.Ends v_1.Part).bind fun x327 => ((geti x70.Read v_1.Part).bind fun x332 =>
    (if (decide ((IntKind.wrap .i64 (x327 - x332)) ≤ v_1.N)) = true then (some (.nxt (v_0, (Reader.mk x70.In x70.Generation x70.Share (List.set x70.Read v_1.Part.toNat x327)),
    v_0.Committed))) else (some (.nxt (v_0, (Reader.mk x70.In x70.Generation x70.Share (List.set x70.Read v_1.Part.toNat (IntKind.wrap .i64 (x332 + v_1.N)))),
    v_0.Committed)))))) else ((if ((decide (v_1.Kind = 5)) && (decide (x70.Generation = v_0.Generation))) = true then ((spec_l1Has x70.Share v_1.Part).bind fun v364 =>
    (some v364)) else (some false)).bind fun v364 => (if v364 = true then ((geti x70.Read v_1.Part).bind fun x381 => ((geti v_0.Committed v_1.Part).bind fun x386 => (if (decide
    (x386 < x381)) = true then (some (.nxt ((Readers_.mk v_0.Generation v_0.Readers (List.set v_0.Committed v_1.Part.toNat x381) v_0.Ends), x70,
    (List.set v_0.Committed v_1.Part.toNat x381)))) else (some (.nxt (v_0, x70, v_0.Committed)))))) else (some (.ret (v_0,
    false))))))))))) (fun s424 => spec_l14Step_j2 v_0 v_1 s424.1 s424.2.1 s424.2.2))))

/-- spec.l14Own -/
def spec_l14Own_b1 (l27 : List Int) (l36 : List Int) (i57 : Nat) (x58 : Reader) (s52 : Readers_) : Option (Oc Readers_ Readers_) := ((appN 8
    ([] : List Int) x58.Share).bind fun l92 => ((appN 8 ([] : List Int) x58.Read).bind fun l109 =>
    ((appN 64 s52.Readers [(Reader.mk x58.In x58.Generation l92 l109)]).bind fun l126 => (some (.nxt (Readers_.mk s52.Generation l126 l27 l36))))))
def spec_l14Own_j1 (l27 : List Int) (l36 : List Int) (s139 : Readers_)  : Option Readers_ := (some (Readers_.mk s139.Generation s139.Readers l27 l36))
def spec_l14Own (r_0 : Readers_) : Option Readers_ := ((appN 8 ([] : List Int) r_0.Committed).bind fun l27 => ((appN 8 ([] : List Int) r_0.Ends).bind fun l36 => (jn (rangeL
    (fun i57 x58 s138 => spec_l14Own_b1 l27 l36 i57 x58 s138) r_0.Readers (Readers_.mk r_0.Generation [] l27 l36)) (fun s152 => spec_l14Own_j1 l27 l36 s152))))

/-- spec.PlayReaders -/
def spec_PlayReaders_j1 (s62 : List Bool) (v136 : Readers_ × Bool) (s151 : Readers_)  : Option (Oc ((List Bool) × Readers_) (Readers_ × (List Bool) × Bool)) :=
    ((appN 1 s62 [v136.2]).bind fun l192 => (some (.nxt (l192, s151))))
def spec_PlayReaders_b1 (i80 : Nat) (x81 : GroupStep) (s62 : List Bool) (s67 : Readers_) : Option (Oc ((List Bool) × Readers_) (Readers_ × (List Bool) × Bool)) :=
    ((spec_l14Own s67).bind fun v116 => ((spec_l14Step v116 x81).bind fun v136 => ((if v136.2 = true then (some v136.1) else (some s67)).bind
    (fun s202 => spec_PlayReaders_j1 s62 v136 s202))))
def spec_PlayReaders_j2 (s204 : List Bool) (s209 : Readers_)  : Option (Readers_ × (List Bool) × Bool) := ((spec_l14Own s209).bind fun v229 => (some (v229, s204, true)))
def spec_PlayReaders (k : Nat) (readers_0 : Int) (ends_1 : List Int) (l_2 : List GroupStep) : Option (Readers_ × (List Bool) × Bool) :=
    ((spec_NewReaders k readers_0 ends_1).bind fun v5 => (if ((!v5.2) || (decide ((80 : Int) < (List.length l_2 : Int)))) = true then (some ((Readers_.mk 0 [] [] []), [],
    false)) else (jn (rangeL (fun i80 x81 s203 => spec_PlayReaders_b1 i80 x81 s203.1 s203.2) l_2 (([],
    v5.1) : (List Bool) × Readers_)) (fun s251 => spec_PlayReaders_j2 s251.1 s251.2))))

/-- laws.sameBools -/
def laws_sameBools_b1 (b_1 : List Bool) (i2 : Nat) (x3 : Bool) : Option (Oc Unit Bool) := ((geti b_1 (i2 : Int)).bind fun x24 => (if (!(x3 == x24)) = true then (some
    (.ret false)) else (some (.nxt ()))))
def laws_sameBools_j1  : Option Bool := (some true)
def laws_sameBools (a_0 : List Bool) (b_1 : List Bool) : Option Bool := (if (decide ((List.length a_0 : Int) ≠ (List.length b_1 : Int))) = true then (some false) else (jn (rangeL
    (fun i2 x3 _ => laws_sameBools_b1 b_1 i2 x3 ) a_0 ()) (fun _ => laws_sameBools_j1 )))

/-- laws.sameInts -/
def laws_sameInts_b1 (b_1 : List Int) (i2 : Nat) (x3 : Int) : Option (Oc Unit Bool) := ((geti b_1 (i2 : Int)).bind fun x24 => (if (decide (x3 ≠ x24)) = true then (some
    (.ret false)) else (some (.nxt ()))))
def laws_sameInts_j1  : Option Bool := (some true)
def laws_sameInts (a_0 : List Int) (b_1 : List Int) : Option Bool := (if (decide ((List.length a_0 : Int) ≠ (List.length b_1 : Int))) = true then (some false) else (jn (rangeL
    (fun i2 x3 _ => laws_sameInts_b1 b_1 i2 x3 ) a_0 ()) (fun _ => laws_sameInts_j1 )))

/-- laws.sameReaders -/
def laws_sameReaders_b1 (v_0 : Readers_) (v_1 : Readers_) (i57 : Nat) : Option (Oc Unit Bool) := ((geti v_0.Readers (i57 : Int)).bind fun x79 => ((geti v_1.Readers
    (i57 : Int)).bind fun x90 => ((if ((!(x79.In == x90.In)) || (decide (x79.Generation ≠ x90.Generation))) = true then (some true) else
    ((laws_sameInts x79.Share x90.Share).bind fun v117 => (some (!v117)))).bind fun v117 => ((if v117 = true then (some true) else
    ((laws_sameInts x79.Read x90.Read).bind fun v138 => (some (!v138)))).bind fun v138 => (if v138 = true then (some (.ret false)) else (some (.nxt ())))))))
def laws_sameReaders_j1  : Option Bool := (some true)
def laws_sameReaders (v_0 : Readers_) (v_1 : Readers_) : Option Bool := ((if (decide (v_0.Generation ≠ v_1.Generation)) = true then (some true) else
    ((laws_sameInts v_0.Committed v_1.Committed).bind fun v16 => (some (!v16)))).bind fun v16 => ((if v16 = true then (some true) else
    ((laws_sameInts v_0.Ends v_1.Ends).bind fun v33 => (some (!v33)))).bind fun v33 => (if (v33 || (decide ((List.length v_0.Readers : Int) ≠
    (List.length v_1.Readers : Int)))) = true then (some false) else (jn (rangeI (fun i57 _ => laws_sameReaders_b1 v_0 v_1 i57 ) (List.length v_0.Readers : Int) ())
    (fun _ => laws_sameReaders_j1 )))))

/-- impl.areMembers -/
def impl_areMembers_b1 (list_0 : List Int) (many_1 : Int) (i1 : Nat) (x2 : Int) : Option (Oc Unit Bool) := ((if (!(impl_in x2 0 (IntKind.wrap .i64 (many_1 - 1)))) = true then
    (some true) else ((if (decide ((0 : Int) < (i1 : Int))) = true then ((geti list_0 (IntKind.wrap .i64 ((i1 : Int) - 1))).bind fun x30 => (some (decide (x2 ≤ x30)))) else
    (some false)).bind fun v30 => (some v30))).bind fun v27 => (if v27 = true then (some (.ret false)) else (some (.nxt ()))))
def impl_areMembers_j1  : Option Bool := (some true)
def impl_areMembers (list_0 : List Int) (many_1 : Int) : Option Bool := (jn (rangeL (fun i1 x2 _ => impl_areMembers_b1 list_0 many_1 i1 x2 ) list_0 ())
    (fun _ => impl_areMembers_j1 ))

/-- slices.Equal[[]int,int] -/
def slices_Equal_int_b1 (s2_1 : List Int) (i2 : Nat) (x3 : Int) : Option (Oc Unit Bool) := ((geti s2_1 (i2 : Int)).bind fun x24 => (if (decide (x3 ≠ x24)) = true then (some
    (.ret false)) else (some (.nxt ()))))
def slices_Equal_int_j1  : Option Bool := (some true)
def slices_Equal_int (s1_0 : List Int) (s2_1 : List Int) : Option Bool := (if (decide ((List.length s1_0 : Int) ≠ (List.length s2_1 : Int))) = true then (some false) else (jn
    (rangeL (fun i2 x3 _ => slices_Equal_int_b1 s2_1 i2 x3 ) s1_0 ()) (fun _ => slices_Equal_int_j1 )))

/-- impl.areReaders -/
def impl_areReaders_b1 (v_0 : Readers_) (i54 : Nat) (x55 : Int) : Option (Oc Unit Bool) := ((geti v_0.Ends (i54 : Int)).bind fun x77 => (if (!(impl_in x55 0 x77)) = true then
    (some (.ret false)) else (some (.nxt ()))))
def impl_areReaders_b2 (v_0 : Readers_) (x93 : Reader) (i208 : Nat) (x209 : Int) : Option (Oc Unit (Oc Unit Bool)) := ((geti v_0.Ends (i208 : Int)).bind fun x236 => ((if
    (!(impl_in x209 0 x236)) = true then (some true) else ((if (decide (x209 ≠ 0)) = true then ((slices_Contains_int x93.Share (i208 : Int)).bind fun v245 => (some (!v245))) else
    (some false)).bind fun v245 => (some v245))).bind fun v242 => (if v242 = true then (some (.ret (.ret false))) else (some (.nxt ())))))
def impl_areReaders_j1 (v_0 : Readers_) (i92 : Nat) (x93 : Reader)  : Option (Oc Unit Bool) := (if (x93.In && (decide (x93.Generation = v_0.Generation))) = true then
    ((impl_Readers_shareOf v_0 (i92 : Int)).bind fun v322 => ((slices_Equal_int x93.Share v322).bind fun v334 => (if (!v334) = true then (some (.ret false)) else (some (.nxt
    ()))))) else (some (.nxt ())))
def impl_areReaders_b3 (v_0 : Readers_) (i92 : Nat) (x93 : Reader) : Option (Oc Unit Bool) := ((if (decide ((List.length x93.Read : Int) ≠
    (List.length v_0.Ends : Int))) = true then (some true) else ((impl_areMembers x93.Share (List.length v_0.Ends : Int)).bind fun v126 => (some (!v126)))).bind fun v126 => (if
    ((v126 || (!(impl_in x93.Generation 0 v_0.Generation))) || ((!x93.In) && ((decide (x93.Generation ≠ 0)) || (decide ((0 : Int) < (List.length x93.Share : Int)))))) = true then
    (some (.ret false)) else (jn (rangeL (fun i208 x209 _ => impl_areReaders_b2 v_0 x93 i208 x209 ) x93.Read ()) (fun _ => impl_areReaders_j1 v_0 i92 x93 ))))
def impl_areReaders_j2  : Option Bool := (some true)
def impl_areReaders_j3 (v_0 : Readers_)  : Option Bool := (jn (rangeL (fun i92 x93 _ => impl_areReaders_b3 v_0 i92 x93 ) v_0.Readers ()) (fun _ => impl_areReaders_j2 ))
def impl_areReaders (v_0 : Readers_) : Option Bool := ((impl_newReaders (List.length v_0.Readers : Int) v_0.Ends).bind fun v7 => (if (((!v7.2) || (decide
    ((List.length v_0.Committed : Int) ≠ (List.length v_0.Ends : Int)))) || (!(impl_in v_0.Generation 0 1000))) = true then (some false) else (jn (rangeL
    (fun i54 x55 _ => impl_areReaders_b1 v_0 i54 x55 ) v_0.Committed ()) (fun _ => impl_areReaders_j3 v_0 ))))

/-- impl.GoodReaders -/
def impl_GoodReaders (r_0 : Readers_) : Option Bool := ((impl_areReaders r_0).bind fun v7 => (some v7))

/-- laws.has -/
def laws_has_b1 (n_1 : Int) (i1 : Nat) (x2 : Int) : Option (Oc Unit Bool) := (if (decide (x2 = n_1)) = true then (some (.ret true)) else (some (.nxt ())))
def laws_has_j1  : Option Bool := (some false)
def laws_has (l_0 : List Int) (n_1 : Int) : Option Bool := (jn (rangeL (fun i1 x2 _ => laws_has_b1 n_1 i1 x2 ) l_0 ()) (fun _ => laws_has_j1 ))

/-- impl.Reader] -/
def slices_IndexFunc_Reader_b1 (f_1 : Reader → Option Bool) (i1 : Nat) (x2 : Reader) : Option (Oc Unit Int) := ((f_1 x2).bind fun v23 => (if v23 = true then (some (.ret
    (i1 : Int))) else (some (.nxt ()))))
def slices_IndexFunc_Reader_j1  : Option Int := (some (-1))
def slices_IndexFunc_Reader (s_0 : List Reader) (f_1 : Reader → Option Bool) : Option Int := (jn (rangeL (fun i1 x2 _ => slices_IndexFunc_Reader_b1 f_1 i1 x2 ) s_0 ())
    (fun _ => slices_IndexFunc_Reader_j1 ))

/-- impl.OwnerOf$1 -/
def impl_OwnerOf_1 (x_0 : Reader) (cap_0 : Readers_) (cap_1 : Int) : Option Bool := ((if (x_0.In && (decide (x_0.Generation = cap_0.Generation))) = true then
    ((slices_Contains_int x_0.Share cap_1).bind fun v19 => (some v19)) else (some false)).bind fun v19 => (some v19))

/-- impl.OwnerOf -/
def impl_OwnerOf (r_0 : Readers_) (part_1 : Int) : Option (Int × Bool) := ((impl_areReaders r_0).bind fun v13 => (if (!v13) = true then (some (0,
    false)) else ((slices_IndexFunc_Reader r_0.Readers (fun a0 => impl_OwnerOf_1 a0 r_0 part_1)).bind fun v17 => (if (decide (v17 < 0)) = true then (some (0,
    false)) else (some (v17, true))))))

/-- laws.numberOf -/
def laws_numberOf_b1 (i3 : Nat) (x4 : Int) (s2 : Int) : Option (Oc Int Int) := (some (.nxt (Int.tmod (IntKind.wrap .i64 ((IntKind.wrap .i64 ((31 : Int) * s2)) +
    (IntKind.wrap .i64 x4))) 1000003)))
def laws_numberOf_j1 (s27 : Int)  : Option Int := (some s27)
def laws_numberOf (b_0 : List Int) : Option Int := (jn (rangeL (fun i3 x4 s26 => laws_numberOf_b1 i3 x4 s26) b_0 0) (fun s33 => laws_numberOf_j1 s33))

/-- impl.LeftToRead -/
def impl_LeftToRead_b1 (r_0 : Readers_) (i13 : Nat) (x14 : Int) (s12 : Int) : Option (Oc Int (Int × Bool)) := ((geti r_0.Committed (i13 : Int)).bind fun x36 => (some (.nxt
    (IntKind.wrap .i64 (s12 + (IntKind.wrap .i64 (x14 - x36)))))))
def impl_LeftToRead_j1 (s41 : Int)  : Option (Int × Bool) := (some (s41, true))
def impl_LeftToRead (r_0 : Readers_) : Option (Int × Bool) := ((impl_areReaders r_0).bind fun v7 => (if (!v7) = true then (some (0,
    false)) else (jn (rangeL (fun i13 x14 s40 => impl_LeftToRead_b1 r_0 i13 x14 s40) r_0.Ends 0) (fun s48 => impl_LeftToRead_j1 s48))))

/-- laws.FnReaders -/
def laws_FnReaders_b1 (v18 : Readers_ × (List Bool) × Bool) (i139 : Nat) (i174 : Nat) (s169 : Int) (s170 : Int) (s171 : List Reader) : Option (Oc (Int × Int × (List Reader)) (Oc
    (List Reader) Bool)) := ((geti s171 (i174 : Int)).bind fun x205 => ((if (x205.In && (decide (x205.Generation = v18.1.Generation))) = true then ((laws_has x205.Share
    (i139 : Int)).bind fun v258 => (some v258)) else (some false)).bind fun v258 => (if v258 = true then (some (.nxt ((IntKind.wrap .i64 (s169 + 1)), (i174 : Int),
    s171))) else (some (.nxt (s169, s170, s171))))))
def laws_FnReaders_j1 (v18 : Readers_ × (List Bool) × Bool) (i139 : Nat) (s296 : Int) (s297 : Int) (s298 : List Reader)  : Option (Oc (List Reader) Bool) := ((impl_OwnerOf
    (Readers_.mk v18.1.Generation s298 v18.1.Committed v18.1.Ends) (i139 : Int)).bind fun v315 => (if (((decide ((1 : Int) < s296)) || (!(v315.2 == (decide (s296 = 1))))) ||
    (v315.2 && (decide (v315.1 ≠ s297)))) = true then (some (.ret false)) else (some (.nxt s298))))
def laws_FnReaders_b2 (v18 : Readers_ × (List Bool) × Bool) (i139 : Nat) (s136 : List Reader) : Option (Oc (List Reader) Bool) := (jn (rangeI
    (fun i174 s295 => laws_FnReaders_b1 v18 i139 i174 s295.1 s295.2.1 s295.2.2) (List.length s136 : Int) (0, 0,
    s136)) (fun s369 => laws_FnReaders_j1 v18 i139 s369.1 s369.2.1 s369.2.2))
def laws_FnReaders_b3 (v18 : Readers_ × (List Bool) × Bool) (v394 : Readers_ × (List Bool) × Bool) (i468 : Nat) : Option (Oc Unit Bool) := ((geti v394.1.Committed
    (i468 : Int)).bind fun x490 => ((geti v18.1.Committed (i468 : Int)).bind fun x495 => (if (decide (x495 < x490)) = true then (some (.ret false)) else (some (.nxt ())))))
def laws_FnReaders_j2  : Option Bool := (some true)
def laws_FnReaders_j3 (v_1 : List Int) (v2 : Int × (List Int) × (List GroupStep)) (v18 : Readers_ × (List Bool) × Bool) (s371 : List Reader)  : Option Bool :=
    ((laws_numberOf v_1).bind fun v382 => (ck ((IntKind.wrap .i64 ((List.length v2.2.2 : Int) + 1)) ≠ 0) ((sl v2.2.2 0 (Int.tmod v382 (IntKind.wrap .i64
    ((List.length v2.2.2 : Int) + 1)))).bind fun l387 => ((impl_PlayReaders v2.1 v2.2.1 l387).bind fun v394 => ((impl_LeftToRead v394.1).bind fun v426 => ((impl_LeftToRead
    (Readers_.mk v18.1.Generation s371 v18.1.Committed v18.1.Ends)).bind fun v429 => (if ((((!v394.2.2) || (!v426.2)) || (!v429.2)) || (decide (v426.1 < v429.1))) = true then
    (some false) else (jn (rangeI (fun i468 _ => laws_FnReaders_b3 v18 v394 i468 ) (List.length v2.2.1 : Int) ()) (fun _ => laws_FnReaders_j2 )))))))))
def laws_FnReaders (k : Nat) (v_0 : List Int) (v_1 : List Int) : Option Bool := (if (decide ((1048576 : Int) < (IntKind.wrap .i64 ((List.length v_0 : Int) +
    (List.length v_1 : Int))))) = true then (some true) else ((spec_DrawPlayReaders k v_0).bind fun v2 => ((impl_PlayReaders v2.1 v2.2.1 v2.2.2).bind fun v18 =>
    ((spec_PlayReaders k v2.1 v2.2.1 v2.2.2).bind fun v50 => ((if (!(v18.2.2 == v50.2.2)) = true then (some true) else ((laws_sameBools v18.2.1 v50.2.1).bind fun v85 => (some
    (!v85)))).bind fun v85 => ((if v85 = true then (some true) else ((laws_sameReaders v18.1 v50.1).bind fun v108 => (some (!v108)))).bind fun v108 => (if v108 = true then
    (some false) else (if (!v18.2.2) = true then (some (decide ((List.length v18.2.1 : Int) = 0))) else ((impl_GoodReaders v18.1).bind fun v129 => (if (!v129) = true then
    (some false) else (jn (rangeI (fun i139 s370 => laws_FnReaders_b2 v18 i139 s370) (List.length v2.2.1 : Int) v18.1.Readers)
    (fun s512 => laws_FnReaders_j3 v_1 v2 v18 s512))))))))))))
end Go.Proofs.Ytdhibknhejhfaaa.X
