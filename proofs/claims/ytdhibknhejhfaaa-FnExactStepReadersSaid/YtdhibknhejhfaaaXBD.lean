/- The seat's types and functions, as plain Lean has them. -/
import Derived.Test.YtdhibknhejhfaaaXSlG
set_option linter.unusedVariables false
set_option linter.unusedSimpArgs false
set_option maxRecDepth 100000
namespace Go.Proofs.Ytdhibknhejhfaaa.X
open Go
open Nat (reduceEqDiff)
structure BoundsError where
  x : Int
  y : Int
  signed : Bool
  code : Int
  deriving DecidableEq, Inhabited
def BoundsError.cells (x : BoundsError) : List XV := [.int .i64 x.x, .int .i64 x.y, .bool x.signed, .int .u8 x.code]
structure Reader where
  In : Bool
  Generation : Int
  Share : List Int
  Read : List Int
  deriving DecidableEq, Inhabited
def Reader.cells (x : Reader) : List XV := [.bool x.In, .int .i64 x.Generation, lst cI x.Share, lst cI x.Read]
structure Readers_ where
  Generation : Int
  Readers : List Reader
  Committed : List Int
  Ends : List Int
  deriving DecidableEq, Inhabited
def Readers_.cells (x : Readers_) : List XV := [.int .i64 x.Generation, lst Reader.cells x.Readers, lst cI x.Committed, lst cI x.Ends]
structure GroupStep where
  Kind : Int
  K : Int
  Part : Int
  N : Int
  deriving DecidableEq, Inhabited
def GroupStep.cells (x : GroupStep) : List XV := [.int .i64 x.Kind, .int .i64 x.K, .int .i64 x.Part, .int .i64 x.N]
structure L1Cur where
  code : List Int
  at_ : Int
  seed : Int
  deriving DecidableEq, Inhabited
def L1Cur.cells (x : L1Cur) : List XV := [lst cU8 x.code, .int .i64 x.at_, .int .u64 x.seed]

/-- laws.eqIntS -/
def laws_eqIntS_b1 (a_0 : List Int) (b_1 : List Int) (s3 : Int) : Option (Oc Int Bool) := (if (decide (s3 < (List.length a_0 : Int))) = true then ((geti a_0 s3).bind fun x26 =>
    ((geti b_1 s3).bind fun x29 => (if (decide (x26 ≠ x29)) = true then (some (.ret false)) else (some (.nxt (IntKind.wrap .i64 (s3 + 1))))))) else (some (.brk s3)))
def laws_eqIntS_j1 (s39 : Int)  : Option Bool := (some true)
def laws_eqIntS (k : Nat) (a_0 : List Int) (b_1 : List Int) : Option Bool := (if (decide ((List.length a_0 : Int) ≠ (List.length b_1 : Int))) = true then (some false) else (jn
    (loopF (fun s38 => laws_eqIntS_b1 a_0 b_1 s38) k 0) (fun s46 => laws_eqIntS_j1 s46)))

/-- laws.eqReader -/
def laws_eqReader (k : Nat) (a_0 : Reader) (b_1 : Reader) : Option Bool := (if (!(a_0.In == b_1.In)) = true then (some false) else (if (decide
    (a_0.Generation ≠ b_1.Generation)) = true then (some false) else ((laws_eqIntS k a_0.Share b_1.Share).bind fun v15 => (if (!v15) = true then (some false) else
    ((laws_eqIntS k a_0.Read b_1.Read).bind fun v19 => (if (!v19) = true then (some false) else (some true)))))))

/-- laws.eqReaderS -/
def laws_eqReaderS_b1 (k : Nat) (a_0 : List Reader) (b_1 : List Reader) (s3 : Int) : Option (Oc Int Bool) := (if (decide (s3 < (List.length a_0 : Int))) = true then
    ((geti a_0 s3).bind fun x26 => ((geti b_1 s3).bind fun x29 => ((laws_eqReader k x26 x29).bind fun v32 => (if (!v32) = true then (some (.ret false)) else (some (.nxt
    (IntKind.wrap .i64 (s3 + 1)))))))) else (some (.brk s3)))
def laws_eqReaderS_j1 (s42 : Int)  : Option Bool := (some true)
def laws_eqReaderS (k : Nat) (a_0 : List Reader) (b_1 : List Reader) : Option Bool := (if (decide ((List.length a_0 : Int) ≠ (List.length b_1 : Int))) = true then
    (some false) else (jn (loopF (fun s41 => laws_eqReaderS_b1 k a_0 b_1 s41) k 0) (fun s49 => laws_eqReaderS_j1 s49)))

/-- laws.eqReaders -/
def laws_eqReaders (k : Nat) (a_0 : Readers_) (b_1 : Readers_) : Option Bool := (if (decide (a_0.Generation ≠ b_1.Generation)) = true then (some false) else
    ((laws_eqReaderS k a_0.Readers b_1.Readers).bind fun v14 => (if (!v14) = true then (some false) else ((laws_eqIntS k a_0.Committed b_1.Committed).bind fun v18 => (if
    (!v18) = true then (some false) else ((laws_eqIntS k a_0.Ends b_1.Ends).bind fun v22 => (if (!v22) = true then (some false) else (some true))))))))

/-- laws.markIntS -/
def laws_markIntS_b1 (s6 : Int) (s7 : Int) (s8 : List Int) : Option (Oc (Int × Int × (List Int)) (Int × (List Int))) := (if (decide (s7 < (List.length s8 : Int))) = true then
    ((geti s8 s7).bind fun x33 => (some (.nxt ((IntKind.wrap .i64 (s6 + 1)), (IntKind.wrap .i64 (s7 + 1)), (List.set s8 s7.toNat s6))))) else (some (.brk (s6, s7, s8))))
def laws_markIntS_j1 (s46 : Int) (s47 : Int) (s48 : List Int)  : Option (Int × (List Int)) := (some (s46, s48))
def laws_markIntS (k : Nat) (a_0 : List Int) (k_1 : Int) : Option (Int × (List Int)) := (jn (loopF (fun s45 => laws_markIntS_b1 s45.1 s45.2.1 s45.2.2) k (k_1, 0,
    a_0)) (fun s57 => laws_markIntS_j1 s57.1 s57.2.1 s57.2.2))

/-- laws.markReaderS -/
def laws_markReaderS_b1 (k : Nat) (s6 : Int) (s7 : Int) (s8 : List Reader) : Option (Oc (Int × Int × (List Reader)) (Int × (List Reader))) := (if (decide (s7 <
    (List.length s8 : Int))) = true then ((geti s8 s7).bind fun x33 => ((laws_markIntS k x33.Share (IntKind.wrap .i64 ((IntKind.wrap .i64 (s6 + 1)) + 1))).bind fun v61 =>
    ((laws_markIntS k x33.Read v61.1).bind fun v68 => (some (.nxt (v68.1, (IntKind.wrap .i64 (s7 + 1)),
    (List.set s8 s7.toNat (Reader.mk (decide ((Int.tmod s6 3) = 0)) (IntKind.wrap .i64 (s6 + 1)) v61.2 v68.2)))))))) else (some (.brk (s6, s7, s8))))
def laws_markReaderS_j1 (s83 : Int) (s84 : Int) (s85 : List Reader)  : Option (Int × (List Reader)) := (some (s83, s85))
def laws_markReaderS (k : Nat) (a_0 : List Reader) (k_1 : Int) : Option (Int × (List Reader)) := (jn (loopF (fun s82 => laws_markReaderS_b1 k s82.1 s82.2.1 s82.2.2) k (k_1, 0,
    a_0)) (fun s94 => laws_markReaderS_j1 s94.1 s94.2.1 s94.2.2))

/-- laws.markReaders -/
def laws_markReaders (k : Nat) (a_0 : Readers_) (k_1 : Int) : Option (Int × Readers_) := ((laws_markReaderS k a_0.Readers k_1).bind fun v7 =>
    ((laws_markIntS k a_0.Committed v7.1).bind fun v14 => ((laws_markIntS k a_0.Ends v14.1).bind fun v21 => (some (v21.1, (Readers_.mk a_0.Generation v7.2 v14.2 v21.2))))))

/-- laws.heldIntS -/
def laws_heldIntS_b1 (a_0 : List Int) (s3 : Int) (s4 : Int) : Option (Oc (Int × Int) Int) := (if (decide (s4 < (List.length a_0 : Int))) = true then
    ((geti a_0 s4).bind fun x27 => (if (decide (x27 ≠ s3)) = true then (some (.ret (-1))) else (some (.nxt ((IntKind.wrap .i64 (s3 + 1)),
    (IntKind.wrap .i64 (s4 + 1))))))) else (some (.brk (s3, s4))))
def laws_heldIntS_j1 (s37 : Int) (s38 : Int)  : Option Int := (some s37)
def laws_heldIntS (k : Nat) (a_0 : List Int) (k_1 : Int) : Option Int := (jn (loopF (fun s36 => laws_heldIntS_b1 a_0 s36.1 s36.2) k (k_1,
    0)) (fun s45 => laws_heldIntS_j1 s45.1 s45.2))

/-- laws.heldReaderS -/
def laws_heldReaderS_b1 (k : Nat) (a_0 : List Reader) (s3 : Int) (s4 : Int) : Option (Oc (Int × Int) Int) := (if (decide (s4 < (List.length a_0 : Int))) = true then
    ((geti a_0 s4).bind fun x27 => (if (!(x27.In == (decide ((Int.tmod s3 3) = 0)))) = true then (some (.ret (-1))) else ((geti a_0 s4).bind fun x34 => (if (decide
    (x34.Generation ≠ (IntKind.wrap .i64 (s3 + 1)))) = true then (some (.ret (-1))) else ((geti a_0 s4).bind fun x41 => ((laws_heldIntS k x41.Share (IntKind.wrap .i64
    ((IntKind.wrap .i64 (s3 + 1)) + 1))).bind fun v44 => (if (decide (v44 < 0)) = true then (some (.ret (-1))) else ((geti a_0 s4).bind fun x51 =>
    ((laws_heldIntS k x51.Read v44).bind fun v54 => (if (decide (v54 < 0)) = true then (some (.ret (-1))) else (some (.nxt (v54,
    (IntKind.wrap .i64 (s4 + 1))))))))))))))) else (some (.brk (s3, s4))))
def laws_heldReaderS_j1 (s64 : Int) (s65 : Int)  : Option Int := (some s64)
def laws_heldReaderS (k : Nat) (a_0 : List Reader) (k_1 : Int) : Option Int := (jn (loopF (fun s63 => laws_heldReaderS_b1 k a_0 s63.1 s63.2) k (k_1,
    0)) (fun s72 => laws_heldReaderS_j1 s72.1 s72.2))

/-- laws.heldReaders -/
def laws_heldReaders (k : Nat) (a_0 : Readers_) (k_1 : Int) : Option Int := ((laws_heldReaderS k a_0.Readers k_1).bind fun v7 => (if (decide (v7 < 0)) = true then (some
    (-1)) else ((laws_heldIntS k a_0.Committed v7).bind fun v11 => (if (decide (v11 < 0)) = true then (some (-1)) else ((laws_heldIntS k a_0.Ends v11).bind fun v15 => (if (decide
    (v15 < 0)) = true then (some (-1)) else (some v15)))))))

/-- laws.szIntS -/
def laws_szIntS (a_0 : List Int) (left_1 : Int) : Option Int := (if (decide ((IntKind.wrap .i64 (left_1 - (List.length a_0 : Int))) < 0)) = true then (some (-1)) else (some
    (IntKind.wrap .i64 (left_1 - (List.length a_0 : Int)))))

/-- laws.szReader -/
def laws_szReader (a_0 : Reader) (left_1 : Int) : Option Int := ((laws_szIntS a_0.Share left_1).bind fun v7 => (if (decide (v7 < 0)) = true then (some (-1)) else
    ((laws_szIntS a_0.Read v7).bind fun v11 => (if (decide (v11 < 0)) = true then (some (-1)) else (some v11)))))

/-- laws.szReaderS -/
def laws_szReaderS_b1 (a_0 : List Reader) (s4 : Int) (s5 : Int) : Option (Oc (Int × Int) Int) := (if (decide (s5 < (List.length a_0 : Int))) = true then
    ((geti a_0 s5).bind fun x28 => ((laws_szReader x28 s4).bind fun v31 => (if (decide (v31 < 0)) = true then (some (.ret (-1))) else (some (.nxt (v31,
    (IntKind.wrap .i64 (s5 + 1)))))))) else (some (.brk (s4, s5))))
def laws_szReaderS_j1 (s41 : Int) (s42 : Int)  : Option Int := (some s41)
def laws_szReaderS (k : Nat) (a_0 : List Reader) (left_1 : Int) : Option Int := (if (decide ((IntKind.wrap .i64 (left_1 - (List.length a_0 : Int))) < 0)) = true then (some
    (-1)) else (jn (loopF (fun s40 => laws_szReaderS_b1 a_0 s40.1 s40.2) k ((IntKind.wrap .i64 (left_1 - (List.length a_0 : Int))), 0)) (fun s49 => laws_szReaderS_j1 s49.1 s49.2)))

/-- laws.szReaders -/
def laws_szReaders (k : Nat) (a_0 : Readers_) (left_1 : Int) : Option Int := ((laws_szReaderS k a_0.Readers left_1).bind fun v7 => (if (decide (v7 < 0)) = true then (some
    (-1)) else ((laws_szIntS a_0.Committed v7).bind fun v11 => (if (decide (v11 < 0)) = true then (some (-1)) else ((laws_szIntS a_0.Ends v11).bind fun v15 => (if (decide
    (v15 < 0)) = true then (some (-1)) else (some v15)))))))

/-- spec.l1In -/
def spec_l1In (n_0 : Int) (lo_1 : Int) (hi_2 : Int) : Bool := ((decide (lo_1 ≤ n_0)) && (decide (n_0 ≤ hi_2)))

/-- spec.l14Share -/
def spec_l14Share_j1 (s10 : Int) (x13 : Reader) (s45 : Int)  : Option (Oc (Int × Int) (List Int)) := (if x13.In = true then (some (.nxt ((IntKind.wrap .i64 (s10 + 1)),
    s45))) else (some (.nxt (s10, s45))))
def spec_l14Share_b1 (k_1 : Int) (i12 : Nat) (x13 : Reader) (s10 : Int) (s11 : Int) : Option (Oc (Int × Int) (List Int)) := ((if (decide ((i12 : Int) = k_1)) = true then
    (some s10) else (some s11)).bind (fun s70 => spec_l14Share_j1 s10 x13 s70))
def spec_l14Share_b2 (s72 : Int) (s73 : Int) (i92 : Nat) (s87 : List Int) : Option (Oc (List Int) (List Int)) := ((if (decide ((0 : Int) < s72)) = true then (ck (s72 ≠ 0) (some
    (decide ((Int.tmod (i92 : Int) s72) = s73)))) else (some false)).bind fun v118 => (if v118 = true then ((appN 8 s87 [(i92 : Int)]).bind fun l142 => (some (.nxt l142))) else
    (some (.nxt s87))))
def spec_l14Share_j2 (s154 : List Int)  : Option (List Int) := (some s154)
def spec_l14Share_j3 (r_0 : Readers_) (s72 : Int) (s73 : Int)  : Option (List Int) := (jn (rangeI (fun i92 s153 => spec_l14Share_b2 s72 s73 i92 s153) (List.length r_0.Ends : Int)
    ([] : (List Int))) (fun s165 => spec_l14Share_j2 s165))
def spec_l14Share (r_0 : Readers_) (k_1 : Int) : Option (List Int) := (jn (rangeL (fun i12 x13 s71 => spec_l14Share_b1 k_1 i12 x13 s71.1 s71.2) r_0.Readers (0,
    0)) (fun s166 => spec_l14Share_j3 r_0 s166.1 s166.2))

/-- spec.l1Has -/
def spec_l1Has_b1 (n_1 : Int) (i1 : Nat) (x2 : Int) : Option (Oc Unit Bool) := (if (decide (x2 = n_1)) = true then (some (.ret true)) else (some (.nxt ())))
def spec_l1Has_j1  : Option Bool := (some false)
def spec_l1Has (l_0 : List Int) (n_1 : Int) : Option Bool := (jn (rangeL (fun i1 x2 _ => spec_l1Has_b1 n_1 i1 x2 ) l_0 ()) (fun _ => spec_l1Has_j1 ))

/-- spec.l6Group -/
def spec_l6Group_b1 (l_0 : List Int) (many_1 : Int) (i1 : Nat) (x2 : Int) : Option (Oc Unit Bool) := ((if ((decide (x2 < 0)) || (decide (many_1 ≤ x2))) = true then
    (some true) else ((if (decide ((0 : Int) < (i1 : Int))) = true then ((geti l_0 (IntKind.wrap .i64 ((i1 : Int) - 1))).bind fun x44 => (some (decide (x2 ≤ x44)))) else
    (some false)).bind fun v44 => (some v44))).bind fun v41 => (if v41 = true then (some (.ret false)) else (some (.nxt ()))))
def spec_l6Group_j1  : Option Bool := (some true)
def spec_l6Group (l_0 : List Int) (many_1 : Int) : Option Bool := (jn (rangeL (fun i1 x2 _ => spec_l6Group_b1 l_0 many_1 i1 x2 ) l_0 ()) (fun _ => spec_l6Group_j1 ))

/-- spec.l6Has -/
def spec_l6Has_b1 (a_0 : List Int) (i1 : Nat) (x2 : Int) : Option (Oc Unit Bool) := ((spec_l1Has a_0 x2).bind fun v23 => (if (!v23) = true then (some (.ret false)) else (some
    (.nxt ()))))
def spec_l6Has_j1  : Option Bool := (some true)
def spec_l6Has (a_0 : List Int) (b_1 : List Int) : Option Bool := (jn (rangeL (fun i1 x2 _ => spec_l6Has_b1 a_0 i1 x2 ) b_1 ()) (fun _ => spec_l6Has_j1 ))

/-- spec.l14Same -/
def spec_l14Same (a_0 : List Int) (b_1 : List Int) : Option Bool := ((spec_l6Has a_0 b_1).bind fun v1 => (some (v1 && (decide ((List.length a_0 : Int) =
    (List.length b_1 : Int))))))

/-- spec.l14Reader -/
def spec_l14Reader_b1 (v_0 : Readers_) (x7 : Reader) (i80 : Nat) (x81 : Int) : Option (Oc Unit Bool) := ((geti v_0.Ends (i80 : Int)).bind fun x104 => ((if
    (!(spec_l1In x81 0 x104)) = true then (some true) else ((spec_l1Has x7.Share (i80 : Int)).bind fun v110 => (some ((!v110) && (decide (x81 ≠ 0)))))).bind fun v110 =>
    (if v110 = true then (some (.ret false)) else (some (.nxt ())))))
def spec_l14Reader_j1 (v_0 : Readers_) (v_1 : Int) (x7 : Reader)  : Option Bool := (if ((!x7.In) || (decide (x7.Generation ≠ v_0.Generation))) = true then (some true) else
    ((spec_l14Share v_0 v_1).bind fun v166 => ((spec_l14Same x7.Share v166).bind fun v178 => (some v178))))
def spec_l14Reader (v_0 : Readers_) (v_1 : Int) : Option Bool := ((geti v_0.Readers v_1).bind fun x7 => ((if (!(spec_l1In x7.Generation 0 v_0.Generation)) = true then
    (some true) else ((spec_l6Group x7.Share (List.length v_0.Ends : Int)).bind fun v21 => (some (!v21)))).bind fun v21 => (if ((v21 || (decide ((List.length x7.Read : Int) ≠
    (List.length v_0.Ends : Int)))) || ((!x7.In) && ((decide (x7.Generation ≠ 0)) || (decide ((0 : Int) < (List.length x7.Share : Int)))))) = true then (some false) else (jn
    (rangeL (fun i80 x81 _ => spec_l14Reader_b1 v_0 x7 i80 x81 ) x7.Read ()) (fun _ => spec_l14Reader_j1 v_0 v_1 x7 )))))

/-- spec.GoodReaders -/
def spec_GoodReaders_b1 (v_0 : Readers_) (i32 : Nat) (x33 : Int) : Option (Oc Unit Bool) := ((if (!(spec_l1In x33 0 100)) = true then (some true) else ((geti v_0.Committed
    (i32 : Int)).bind fun x57 => (some (!(spec_l1In x57 0 x33))))).bind fun v57 => (if v57 = true then (some (.ret false)) else (some (.nxt ()))))
def spec_GoodReaders_b2 (v_0 : Readers_) (i84 : Nat) : Option (Oc Unit Bool) := ((spec_l14Reader v_0 (i84 : Int)).bind fun v105 => (if (!v105) = true then (some
    (.ret false)) else (some (.nxt ()))))
def spec_GoodReaders_j1  : Option Bool := (some true)
def spec_GoodReaders_j2 (v_0 : Readers_)  : Option Bool := (jn (rangeI (fun i84 _ => spec_GoodReaders_b2 v_0 i84 ) (List.length v_0.Readers : Int) ())
    (fun _ => spec_GoodReaders_j1 ))
def spec_GoodReaders (v_0 : Readers_) : Option Bool := (if ((((!(spec_l1In (List.length v_0.Readers : Int) 1 5)) || (!(spec_l1In (List.length v_0.Ends : Int) 1 6))) || (decide
    ((List.length v_0.Committed : Int) ≠ (List.length v_0.Ends : Int)))) || (!(spec_l1In v_0.Generation 0 1000))) = true then (some false) else (jn (rangeL
    (fun i32 x33 _ => spec_GoodReaders_b1 v_0 i32 x33 ) v_0.Ends ()) (fun _ => spec_GoodReaders_j2 v_0 )))

/-- spec.l14Step -/
def spec_l14Step_b1 (v_0 : Readers_) (v205 : List Int) (i236 : Nat) (s233 : List Int) : Option (Oc (List Int) (Oc (Readers_ × Reader × (List Int)) (Readers_ × Bool))) :=
    ((geti v205 (i236 : Int)).bind fun x261 => ((geti v_0.Committed x261).bind fun x266 => ((geti s233 x261).bind fun x271 => (some (.nxt (List.set s233 x261.toNat x266))))))
def spec_l14Step_j1 (v_0 : Readers_) (x70 : Reader) (v205 : List Int) (s283 : List Int)  : Option (Oc (Readers_ × Reader × (List Int)) (Readers_ × Bool)) := (some (.nxt (v_0,
    (Reader.mk x70.In v_0.Generation v205 s283), v_0.Committed)))
def spec_l14Step_j2 (v_0 : Readers_) (v_1 : GroupStep) (s118 : Readers_) (s119 : Reader) (s128 : List Int)  : Option (Readers_ × Bool) := (some ((Readers_.mk s118.Generation
    (List.set v_0.Readers v_1.K.toNat s119) s128 v_0.Ends), true))
def spec_l14Step (v_0 : Readers_) (v_1 : GroupStep) : Option (Readers_ × Bool) := (if ((((decide (v_1.K < 0)) || (decide ((List.length v_0.Readers : Int) ≤ v_1.K))) || ((decide
    (v_1.Kind < 4)) && (decide (v_1.Part ≠ 0)))) || ((decide (v_1.Kind ≠ 4)) && (decide (v_1.N ≠ 0)))) = true then (some (v_0,
    false)) else ((geti v_0.Readers v_1.K).bind fun x70 => (jn (if (((decide (v_1.Kind = 1)) && (!x70.In)) && (decide (v_0.Generation < 1000))) = true then ((mkN 8
    (List.length v_0.Ends : Int) (0 : Int)).bind fun l141 => (some (.nxt ((Readers_.mk (IntKind.wrap .i64 (v_0.Generation + 1)) v_0.Readers v_0.Committed v_0.Ends),
    (Reader.mk true 0 [] l141), v_0.Committed)))) else (if (!x70.In) = true then (some (.ret (v_0,
    false))) else (if ((decide (v_1.Kind = 2)) && (decide (v_0.Generation < 1000))) = true then ((mkN 8 (List.length v_0.Ends : Int) (0 : Int)).bind fun l175 => (some (.nxt
    ((Readers_.mk (IntKind.wrap .i64 (v_0.Generation + 1)) v_0.Readers v_0.Committed v_0.Ends), (Reader.mk false 0 [] l175),
    v_0.Committed)))) else (if ((decide (v_1.Kind = 3)) && (decide (x70.Generation ≠ v_0.Generation))) = true then ((spec_l14Share v_0 v_1.K).bind fun v205 => ((mkN 8
    (List.length v_0.Ends : Int) (0 : Int)).bind fun l219 => (jn (rangeI (fun i236 s282 => spec_l14Step_b1 v_0 v205 i236 s282) (List.length v205 : Int) l219)
    (fun s295 => spec_l14Step_j1 v_0 x70 v205 s295)))) else ((if (decide (v_1.Kind = 4)) = true then ((spec_l1Has x70.Share v_1.Part).bind fun v299 => (some v299)) else
    (some false)).bind fun v299 => (if (v299 && (decide ((1 : Int) ≤ v_1.N))) = true then ((geti v_0.Ends v_1.Part).bind fun x327 => ((geti x70.Read v_1.Part).bind fun x332 =>
    (if (decide ((IntKind.wrap .i64 (x327 - x332)) ≤ v_1.N)) = true then (some (.nxt (v_0, (Reader.mk x70.In x70.Generation x70.Share (List.set x70.Read v_1.Part.toNat x327)),
    v_0.Committed))) else (some (.nxt (v_0, (Reader.mk x70.In x70.Generation x70.Share (List.set x70.Read v_1.Part.toNat (IntKind.wrap .i64 (x332 + v_1.N)))),
    v_0.Committed)))))) else ((if ((decide (v_1.Kind = 5)) && (decide (x70.Generation = v_0.Generation))) = true then ((spec_l1Has x70.Share v_1.Part).bind fun v364 =>
    (some v364)) else (some false)).bind fun v364 => (if v364 = true then ((geti x70.Read v_1.Part).bind fun x381 => ((geti v_0.Committed v_1.Part).bind fun x386 => (if (decide
    (x386 < x381)) = true then (some (.nxt ((Readers_.mk v_0.Generation v_0.Readers (List.set v_0.Committed v_1.Part.toNat x381) v_0.Ends), x70,
    (List.set v_0.Committed v_1.Part.toNat x381)))) else (some (.nxt (v_0, x70, v_0.Committed)))))) else (some (.ret (v_0,
    false))))))))))) (fun s424 => spec_l14Step_j2 v_0 v_1 s424.1 s424.2.1 s424.2.2))))

/-- spec.l14Own -/
def spec_l14Own_b1 (l27 : List Int) (l36 : List Int) (i57 : Nat) (x58 : Reader) (s52 : Readers_) : Option (Oc Readers_ Readers_) := ((appN 8
    ([] : List Int) x58.Share).bind fun l92 => ((appN 8 ([] : List Int) x58.Read).bind fun l109 =>
    ((appN 64 s52.Readers [(Reader.mk x58.In x58.Generation l92 l109)]).bind fun l126 => (some (.nxt (Readers_.mk s52.Generation l126 l27 l36))))))
def spec_l14Own_j1 (l27 : List Int) (l36 : List Int) (s139 : Readers_)  : Option Readers_ := (some (Readers_.mk s139.Generation s139.Readers l27 l36))
def spec_l14Own (r_0 : Readers_) : Option Readers_ := ((appN 8 ([] : List Int) r_0.Committed).bind fun l27 => ((appN 8 ([] : List Int) r_0.Ends).bind fun l36 => (jn (rangeL
    (fun i57 x58 s138 => spec_l14Own_b1 l27 l36 i57 x58 s138) r_0.Readers (Readers_.mk r_0.Generation [] l27 l36)) (fun s152 => spec_l14Own_j1 l27 l36 s152))))

/-- spec.StepReaders -/
def spec_StepReaders (r_0 : Readers_) (x_1 : GroupStep) : Option (Readers_ × Bool) := ((spec_GoodReaders r_0).bind fun v17 => (if (!v17) = true then (some
    ((Readers_.mk 0 [] [] []), false)) else ((spec_l14Own r_0).bind fun v27 => ((spec_l14Step v27 x_1).bind fun v47 => (if (!v47.2) = true then (some ((Readers_.mk 0 [] [] []),
    false)) else ((spec_l14Own v47.1).bind fun v71 => (some (v71, true))))))))

/-- laws.toIntS -/
def laws_toIntS_b1 (a_0 : List Int) (s14 : Int) (s15 : List Int) : Option (Oc (Int × (List Int)) (List Int)) := (if (decide (s14 < (List.length a_0 : Int))) = true then
    ((geti a_0 s14).bind fun x40 => ((geti s15 s14).bind fun x43 => (some (.nxt ((IntKind.wrap .i64 (s14 + 1)), (List.set s15 s14.toNat x40)))))) else (some (.brk (s14, s15))))
def laws_toIntS_j1 (s56 : Int) (s57 : List Int)  : Option (List Int) := (some s57)
def laws_toIntS (k : Nat) (a_0 : List Int) : Option (List Int) := ((mkN 8 (List.length a_0 : Int) (0 : Int)).bind fun l1 => (jn (loopF
    (fun s55 => laws_toIntS_b1 a_0 s55.1 s55.2) k (0, l1)) (fun s66 => laws_toIntS_j1 s66.1 s66.2)))

/-- laws.toReader -/
def laws_toReader (k : Nat) (a_0 : Reader) : Option Reader := ((laws_toIntS k a_0.Share).bind fun v19 => ((laws_toIntS k a_0.Read).bind fun v33 => (some
    (Reader.mk a_0.In a_0.Generation v19 v33))))

/-- laws.toReaderS -/
def laws_toReaderS_b1 (k : Nat) (a_0 : List Reader) (s14 : Int) (s15 : List Reader) : Option (Oc (Int × (List Reader)) (List Reader)) := (if (decide (s14 <
    (List.length a_0 : Int))) = true then ((geti a_0 s14).bind fun x40 => ((laws_toReader k x40).bind fun v43 => ((geti s15 s14).bind fun x59 => (some (.nxt ((IntKind.wrap .i64
    (s14 + 1)), (List.set s15 s14.toNat v43))))))) else (some (.brk (s14, s15))))
def laws_toReaderS_j1 (s91 : Int) (s92 : List Reader)  : Option (List Reader) := (some s92)
def laws_toReaderS (k : Nat) (a_0 : List Reader) : Option (List Reader) := ((mkN 64 (List.length a_0 : Int) (Reader.mk false (0 : Int) [] [])).bind fun l1 => (jn (loopF
    (fun s90 => laws_toReaderS_b1 k a_0 s90.1 s90.2) k (0, l1)) (fun s101 => laws_toReaderS_j1 s101.1 s101.2)))

/-- laws.toReaders -/
def laws_toReaders (k : Nat) (a_0 : Readers_) : Option Readers_ := ((laws_toReaderS k a_0.Readers).bind fun v17 => ((laws_toIntS k a_0.Committed).bind fun v31 =>
    ((laws_toIntS k a_0.Ends).bind fun v45 => (some (Readers_.mk a_0.Generation v17 v31 v45)))))

/-- laws.toGroupStep -/
def laws_toGroupStep (a_0 : GroupStep) : GroupStep := a_0

/-- slices.Index[[]int,int] -/
def slices_Index_int_b1 (v_1 : Int) (i1 : Nat) (x2 : Int) : Option (Oc Unit Int) := (if (decide (v_1 = x2)) = true then (some (.ret (i1 : Int))) else (some (.nxt ())))
def slices_Index_int_j1  : Option Int := (some (-1))
def slices_Index_int (s_0 : List Int) (v_1 : Int) : Option Int := (jn (rangeL (fun i1 x2 _ => slices_Index_int_b1 v_1 i1 x2 ) s_0 ()) (fun _ => slices_Index_int_j1 ))

/-- slices.Contains[[]int,int] -/
def slices_Contains_int (s_0 : List Int) (v_1 : Int) : Option Bool := ((slices_Index_int s_0 v_1).bind fun v1 => (some (decide ((0 : Int) ≤ v1))))

/-- impl.in -/
def impl_in (n_0 : Int) (low_1 : Int) (high_2 : Int) : Bool := ((decide (low_1 ≤ n_0)) && (decide (n_0 ≤ high_2)))

/-- impl.Readers).shareOf -/
def impl_Readers_shareOf_b1 (k_1 : Int) (i11 : Nat) (x12 : Reader) (s9 : Int) (s10 : Int) : Option (Oc (Int × Int) (List Int)) := (if x12.In = true then (if (decide
    ((i11 : Int) < k_1)) = true then (some (.nxt ((IntKind.wrap .i64 (s9 + 1)), (IntKind.wrap .i64 (s10 + 1))))) else (some (.nxt ((IntKind.wrap .i64 (s9 + 1)),
    s10)))) else (some (.nxt (s9, s10))))
def impl_Readers_shareOf_b2 (s50 : Int) (s51 : Int) (i76 : Nat) (s71 : List Int) : Option (Oc (List Int) (List Int)) := (ck (s50 ≠ 0) (if (decide ((Int.tmod
    (i76 : Int) s50) = s51)) = true then ((appN 8 s71 [(i76 : Int)]).bind fun l108 => (some (.nxt l108))) else (some (.nxt s71))))
def impl_Readers_shareOf_j1 (s120 : List Int)  : Option (List Int) := (some s120)
def impl_Readers_shareOf_j2 (r_0 : Readers_) (s50 : Int) (s51 : Int)  : Option (List Int) := (jn (rangeI (fun i76 s119 => impl_Readers_shareOf_b2 s50 s51 i76 s119)
    (List.length r_0.Ends : Int) ([] : List Int)) (fun s131 => impl_Readers_shareOf_j1 s131))
def impl_Readers_shareOf (r_0 : Readers_) (k_1 : Int) : Option (List Int) := (jn (rangeL (fun i11 x12 s49 => impl_Readers_shareOf_b1 k_1 i11 x12 s49.1 s49.2) r_0.Readers (0,
    0)) (fun s132 => impl_Readers_shareOf_j2 r_0 s132.1 s132.2))

/-- impl.Readers).step -/
def impl_Readers_step_b1 (v_0 : Readers_) (v168 : List Int) (i218 : Nat) (s215 : List Int) : Option (Oc (List Int) (Bool × Readers_)) := ((geti v168
    (i218 : Int)).bind fun x241 => ((geti v_0.Committed x241).bind fun x246 => ((geti s215 x241).bind fun x251 => (some (.nxt (List.set s215 x241.toNat x246))))))
def impl_Readers_step_j2 (v_0 : Readers_) (v_1 : GroupStep) (x56 : Reader) (v168 : List Int) (s263 : List Int)  : Option (Bool × Readers_) := (some (true,
    (Readers_.mk v_0.Generation (List.set v_0.Readers v_1.K.toNat (Reader.mk ((Reader.mk x56.In v_0.Generation x56.Share x56.Read).In)
    ((Reader.mk x56.In v_0.Generation x56.Share x56.Read).Generation) v168 s263)) v_0.Committed v_0.Ends)))
def impl_Readers_step_j1 (v_0 : Readers_) (v_1 : GroupStep) (x56 : Reader) (s85 : Bool)  : Option (Bool × Readers_) := (if s85 = true then (if (decide
    (v_0.Generation = 1000)) = true then (some (false, v_0)) else ((mkN 8 (List.length v_0.Ends : Int) (0 : Int)).bind fun l109 => (some (true,
    (Readers_.mk (IntKind.wrap .i64 (v_0.Generation + 1)) (List.set v_0.Readers v_1.K.toNat (Reader.mk (decide (v_1.Kind = 1)) 0 [] l109)) v_0.Committed v_0.Ends))))) else (if
    (decide (v_1.Kind = 3)) = true then (if (decide (x56.Generation = v_0.Generation)) = true then (some (false,
    v_0)) else ((impl_Readers_shareOf (Readers_.mk v_0.Generation (List.set v_0.Readers v_1.K.toNat
    (Reader.mk x56.In v_0.Generation x56.Share x56.Read)) v_0.Committed v_0.Ends) v_1.K).bind fun v168 => ((mkN 8 (List.length v_0.Ends : Int) (0 : Int)).bind fun l199 => (jn
    (rangeI (fun i218 s262 => impl_Readers_step_b1 v_0 v168 i218 s262) (List.length v168 : Int) l199) (fun s277 => impl_Readers_step_j2 v_0 v_1 x56 v168 s277))))) else (if
    (decide (v_1.Kind = 4)) = true then ((slices_Contains_int x56.Share v_1.Part).bind fun v294 => (if ((!v294) || (decide (v_1.N < 1))) = true then (some (false,
    v_0)) else ((geti x56.Read v_1.Part).bind fun x312 => ((geti v_0.Ends v_1.Part).bind fun x317 => (some (true,
    (Readers_.mk v_0.Generation (List.set v_0.Readers v_1.K.toNat (Reader.mk x56.In x56.Generation x56.Share (List.set x56.Read v_1.Part.toNat (IntKind.wrap .i64 (x312 +
    (mnI v_1.N (IntKind.wrap .i64 (x317 - x312)))))))) v_0.Committed v_0.Ends))))))) else (if (decide (v_1.Kind = 5)) = true then (if (!(decide
    (x56.Generation = v_0.Generation))) = true then (some (false, v_0)) else ((slices_Contains_int x56.Share v_1.Part).bind fun v349 => (if (!v349) = true then (some (false,
    v_0)) else ((geti v_0.Committed v_1.Part).bind fun x357 => ((geti x56.Read v_1.Part).bind fun x362 => (some (true,
    (Readers_.mk v_0.Generation v_0.Readers (List.set v_0.Committed v_1.Part.toNat (mxI x357 x362)) v_0.Ends)))))))) else (some (false, v_0))))))
def impl_Readers_step (v_0 : Readers_) (v_1 : GroupStep) : Option (Bool × Readers_) := (if (((!(impl_in v_1.K 0 (IntKind.wrap .i64 ((List.length v_0.Readers : Int) - 1)))) ||
    ((decide (v_1.Kind ≠ 4)) && (decide (v_1.N ≠ 0)))) || (((decide (v_1.Kind ≠ 4)) && (decide (v_1.Kind ≠ 5))) && (decide (v_1.Part ≠ 0)))) = true then (some (false,
    v_0)) else ((geti v_0.Readers v_1.K).bind fun x56 => (if (x56.In == (decide (v_1.Kind = 1))) = true then (some (false,
    v_0)) else ((if (decide (v_1.Kind = 1)) = true then (some (decide (v_1.Kind = 1))) else (some (decide (v_1.Kind = 2)))).bind
    (fun s376 => impl_Readers_step_j1 v_0 v_1 x56 s376)))))

/-- slices.IndexFunc[[]int,int] -/
def slices_IndexFunc_int_b1 (f_1 : Int → Option Bool) (i1 : Nat) (x2 : Int) : Option (Oc Unit Int) := ((f_1 x2).bind fun v23 => (if v23 = true then (some (.ret (i1 : Int))) else
    (some (.nxt ()))))
def slices_IndexFunc_int_j1  : Option Int := (some (-1))
def slices_IndexFunc_int (s_0 : List Int) (f_1 : Int → Option Bool) : Option Int := (jn (rangeL (fun i1 x2 _ => slices_IndexFunc_int_b1 f_1 i1 x2 ) s_0 ())
    (fun _ => slices_IndexFunc_int_j1 ))

/-- slices.ContainsFunc[[]int,int] -/
def slices_ContainsFunc_int (s_0 : List Int) (f_1 : Int → Option Bool) : Option Bool := ((slices_IndexFunc_int s_0 f_1).bind fun v1 => (some (decide ((0 : Int) ≤ v1))))

/-- impl.newReaders$1 -/
def impl_newReaders_1 (e_0 : Int) : Bool := (!(impl_in e_0 0 100))

/-- impl.newReaders -/
def impl_newReaders_b1 (ends_1 : List Int) (l36 : List Int) (l55 : List Int) (i76 : Nat) (s71 : Readers_) : Option (Oc Readers_ (Readers_ × Bool)) := ((mkN 8
    (List.length ends_1 : Int) (0 : Int)).bind fun l99 => ((appN 64 s71.Readers ([(Reader.mk false 0 [] l99)])).bind fun l114 => (some (.nxt
    (Readers_.mk s71.Generation l114 l36 l55)))))
def impl_newReaders_j1 (l36 : List Int) (l55 : List Int) (s127 : Readers_)  : Option (Readers_ × Bool) := (some ((Readers_.mk s127.Generation s127.Readers l36 l55), true))
def impl_newReaders (readers_0 : Int) (ends_1 : List Int) : Option (Readers_ × Bool) := ((if ((!(impl_in readers_0 1 5)) || (!(impl_in
    (List.length ends_1 : Int) 1 6))) = true then (some true) else ((slices_ContainsFunc_int ends_1 (fun a0 => some (impl_newReaders_1 a0))).bind fun v18 =>
    (some v18))).bind fun v18 => (if v18 = true then (some ((Readers_.mk 0 [] [] []),
    false)) else ((mkN 8 (List.length ends_1 : Int) (0 : Int)).bind fun l36 => ((appN 8 ([] : List Int) ends_1).bind fun l55 => (jn (rangeI
    (fun i76 s126 => impl_newReaders_b1 ends_1 l36 l55 i76 s126) readers_0 (Readers_.mk 0 [] l36 l55)) (fun s140 => impl_newReaders_j1 l36 l55 s140))))))

/-- impl.areMembers -/
def impl_areMembers_b1 (list_0 : List Int) (many_1 : Int) (i1 : Nat) (x2 : Int) : Option (Oc Unit Bool) := ((if (!(impl_in x2 0 (IntKind.wrap .i64 (many_1 - 1)))) = true then
    (some true) else ((if (decide ((0 : Int) < (i1 : Int))) = true then ((geti list_0 (IntKind.wrap .i64 ((i1 : Int) - 1))).bind fun x30 => (some (decide (x2 ≤ x30)))) else
    (some false)).bind fun v30 => (some v30))).bind fun v27 => (if v27 = true then (some (.ret false)) else (some (.nxt ()))))
def impl_areMembers_j1  : Option Bool := (some true)
def impl_areMembers (list_0 : List Int) (many_1 : Int) : Option Bool := (jn (rangeL (fun i1 x2 _ => impl_areMembers_b1 list_0 many_1 i1 x2 ) list_0 ())
    (fun _ => impl_areMembers_j1 ))

/-- slices.Equal[[]int,int] -/
def slices_Equal_int_b1 (s2_1 : List Int) (i2 : Nat) (x3 : Int) : Option (Oc Unit Bool) := ((geti s2_1 (i2 : Int)).bind fun x24 => (if (decide (x3 ≠ x24)) = true then (some
    (.ret false)) else (some (.nxt ()))))
def slices_Equal_int_j1  : Option Bool := (some true)
def slices_Equal_int (s1_0 : List Int) (s2_1 : List Int) : Option Bool := (if (decide ((List.length s1_0 : Int) ≠ (List.length s2_1 : Int))) = true then (some false) else (jn
    (rangeL (fun i2 x3 _ => slices_Equal_int_b1 s2_1 i2 x3 ) s1_0 ()) (fun _ => slices_Equal_int_j1 )))

/-- impl.areReaders -/
def impl_areReaders_b1 (v_0 : Readers_) (i54 : Nat) (x55 : Int) : Option (Oc Unit Bool) := ((geti v_0.Ends (i54 : Int)).bind fun x77 => (if (!(impl_in x55 0 x77)) = true then
    (some (.ret false)) else (some (.nxt ()))))
def impl_areReaders_b2 (v_0 : Readers_) (x93 : Reader) (i208 : Nat) (x209 : Int) : Option (Oc Unit (Oc Unit Bool)) := ((geti v_0.Ends (i208 : Int)).bind fun x236 => ((if
    (!(impl_in x209 0 x236)) = true then (some true) else ((if (decide (x209 ≠ 0)) = true then ((slices_Contains_int x93.Share (i208 : Int)).bind fun v245 => (some (!v245))) else
    (some false)).bind fun v245 => (some v245))).bind fun v242 => (if v242 = true then (some (.ret (.ret false))) else (some (.nxt ())))))
def impl_areReaders_j1 (v_0 : Readers_) (i92 : Nat) (x93 : Reader)  : Option (Oc Unit Bool) := (if (x93.In && (decide (x93.Generation = v_0.Generation))) = true then
    ((impl_Readers_shareOf v_0 (i92 : Int)).bind fun v322 => ((slices_Equal_int x93.Share v322).bind fun v334 => (if (!v334) = true then (some (.ret false)) else (some (.nxt
    ()))))) else (some (.nxt ())))
def impl_areReaders_b3 (v_0 : Readers_) (i92 : Nat) (x93 : Reader) : Option (Oc Unit Bool) := ((if (decide ((List.length x93.Read : Int) ≠
    (List.length v_0.Ends : Int))) = true then (some true) else ((impl_areMembers x93.Share (List.length v_0.Ends : Int)).bind fun v126 => (some (!v126)))).bind fun v126 => (if
    ((v126 || (!(impl_in x93.Generation 0 v_0.Generation))) || ((!x93.In) && ((decide (x93.Generation ≠ 0)) || (decide ((0 : Int) < (List.length x93.Share : Int)))))) = true then
    (some (.ret false)) else (jn (rangeL (fun i208 x209 _ => impl_areReaders_b2 v_0 x93 i208 x209 ) x93.Read ()) (fun _ => impl_areReaders_j1 v_0 i92 x93 ))))
def impl_areReaders_j2  : Option Bool := (some true)
def impl_areReaders_j3 (v_0 : Readers_)  : Option Bool := (jn (rangeL (fun i92 x93 _ => impl_areReaders_b3 v_0 i92 x93 ) v_0.Readers ()) (fun _ => impl_areReaders_j2 ))
def impl_areReaders (v_0 : Readers_) : Option Bool := ((impl_newReaders (List.length v_0.Readers : Int) v_0.Ends).bind fun v7 => (if (((!v7.2) || (decide
    ((List.length v_0.Committed : Int) ≠ (List.length v_0.Ends : Int)))) || (!(impl_in v_0.Generation 0 1000))) = true then (some false) else (jn (rangeL
    (fun i54 x55 _ => impl_areReaders_b1 v_0 i54 x55 ) v_0.Committed ()) (fun _ => impl_areReaders_j3 v_0 ))))

/-- impl.copyReaders -/
def impl_copyReaders_b1 (l27 : List Int) (l36 : List Int) (i57 : Nat) (x58 : Reader) (s52 : Readers_) : Option (Oc Readers_ Readers_) := ((appN 8
    ([] : List Int) x58.Share).bind fun l92 => ((appN 8 ([] : List Int) x58.Read).bind fun l109 =>
    ((appN 64 s52.Readers [(Reader.mk x58.In x58.Generation l92 l109)]).bind fun l126 => (some (.nxt (Readers_.mk s52.Generation l126 l27 l36))))))
def impl_copyReaders_j1 (l27 : List Int) (l36 : List Int) (s139 : Readers_)  : Option Readers_ := (some (Readers_.mk s139.Generation s139.Readers l27 l36))
def impl_copyReaders (r_0 : Readers_) : Option Readers_ := ((appN 8 ([] : List Int) r_0.Committed).bind fun l27 => ((appN 8 ([] : List Int) r_0.Ends).bind fun l36 => (jn (rangeL
    (fun i57 x58 s138 => impl_copyReaders_b1 l27 l36 i57 x58 s138) r_0.Readers (Readers_.mk r_0.Generation [] l27 l36)) (fun s152 => impl_copyReaders_j1 l27 l36 s152))))

/-- impl.StepReaders -/
def impl_StepReaders (r_0 : Readers_) (x_1 : GroupStep) : Option (Readers_ × Bool) := ((impl_areReaders r_0).bind fun v17 => (if (!v17) = true then (some
    ((Readers_.mk 0 [] [] []), false)) else ((impl_copyReaders r_0).bind fun v23 => ((impl_Readers_step v23 x_1).bind fun v49 => (if (!v49.1) = true then (some
    ((Readers_.mk 0 [] [] []), false)) else (some (v49.2, true)))))))

/-- laws.FnExactStepReaders -/
def laws_FnExactStepReaders (k : Nat) (v_0 : Readers_) (v_1 : GroupStep) : Option Bool := ((laws_szReaders k v_0 1048576).bind fun v13 => (if (decide (v13 < 0)) = true then
    (some true) else ((laws_toReaders k v_0).bind fun v21 => ((spec_StepReaders v21 (laws_toGroupStep v_1)).bind fun v41 => ((laws_toReaders k v_0).bind fun v65 =>
    ((impl_StepReaders v65 (laws_toGroupStep v_1)).bind fun v97 => ((laws_eqReaders k v97.1 v41.1).bind fun v121 => (if ((!v121) || (!(v97.2 == v41.2))) = true then
    (some false) else ((laws_toReaders k v_0).bind fun v139 => ((laws_eqReaders k v65 v139).bind fun v159 => (if (!v159) = true then (some false) else
    ((laws_markReaders k v65 1).bind fun v163 => ((if (decide (v163.1 < 0)) = true then (some true) else ((laws_eqReaders k v97.1 v41.1).bind fun v177 => (some
    (!v177)))).bind fun v177 => (if (v177 || (!(v97.2 == v41.2))) = true then (some false) else ((laws_markReaders k v97.1 1).bind fun v208 => ((laws_heldReaders k
    (Readers_.mk v97.1.Generation v208.2.Readers v208.2.Committed v208.2.Ends) 1).bind fun v219 => (if (decide (v219 < 0)) = true then (some false) else (if (decide
    (v219 ≠ v208.1)) = true then (some false) else ((laws_toReaders k v_0).bind fun v228 => ((impl_StepReaders v228 (laws_toGroupStep v_1)).bind fun v248 =>
    ((laws_eqReaders k v248.1 v41.1).bind fun v272 => (if ((!v272) || (!(v248.2 == v41.2))) = true then (some false) else ((laws_heldReaders k
    (Readers_.mk v97.1.Generation v208.2.Readers v208.2.Committed v208.2.Ends) 1).bind fun v285 => (if (decide (v285 < 0)) = true then (some false) else (if (decide
    (v285 ≠ v208.1)) = true then (some false) else (some true))))))))))))))))))))))))))
end Go.Proofs.Ytdhibknhejhfaaa.X
