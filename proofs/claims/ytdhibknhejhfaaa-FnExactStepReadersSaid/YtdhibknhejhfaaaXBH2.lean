/- The functions' code comes to what the plain functions say (2). -/
import Derived.Test.YtdhibknhejhfaaaXBH1
set_option linter.unusedVariables false
set_option linter.unusedSimpArgs false
set_option maxRecDepth 100000
namespace Go.Proofs.Ytdhibknhejhfaaa.X
open Go
open Nat (reduceEqDiff)
theorem spec_l14Reader_x {W : Nat → Bool} {h : Heap} (hW : ∀ b,
    h.length ≤ b → W b = true) (v_0 : Readers_) (v_1 : Int) (r : Bool) (hF : spec_l14Reader v_0 v_1 = some r) : Ret E W 70 [.agg [.int .i64 v_0.Generation,
    lst Reader.cells v_0.Readers, lst cI v_0.Committed, lst cI v_0.Ends], .int .i64 v_1] h (fun v h' => cut h.length h' E.sz false 9 v = some (.bool r)) := by
  refine Ret.of (fn := x70) rfl (Run.of ?_)
  unfold spec_l14Reader at hF
  have zf0 : argFr [.agg [.int .i64 v_0.Generation, lst Reader.cells v_0.Readers, lst cI v_0.Committed, lst cI v_0.Ends], .int .i64 v_1] 0 = .agg [.int .i64 v_0.Generation,
      lst Reader.cells v_0.Readers, lst cI v_0.Committed, lst cI v_0.Ends] := rfl
  have zf1 : argFr [.agg [.int .i64 v_0.Generation, lst Reader.cells v_0.Readers, lst cI v_0.Committed, lst cI v_0.Ends], .int .i64 v_1] 1 = .int .i64 v_1 := rfl
  generalize argFr [.agg [.int .i64 v_0.Generation, lst Reader.cells v_0.Readers, lst cI v_0.Committed, lst cI v_0.Ends], .int .i64 v_1] = fr0 at zf0 zf1 ⊢
  have hS : Sep h h.length [] := Sep.nil h
  simp only [x70, run_seq, run_reg, run_box, zf0, B0, reduceIte, reduceEqDiff]
  refine put2_boxC (cs := [.int .i64 v_0.Generation, lst Reader.cells v_0.Readers, lst cI v_0.Committed, lst cI v_0.Ends]) hS rfl rfl rfl (fun b1 h2 hS3 => ?_)
  simp only [run_mv, run_ops_nil, B0, reduceIte, reduceEqDiff]
  refine frz_stepC hS3 hW (by simp only [B0, reduceIte, reduceEqDiff]) (fun h5 hS6 => ?_)
  simp only [run_frz_nil, x70_8, run_seq, run_reg, run_fa, put1_some, Nat.reduceAdd, Nat.zero_add, Nat.add_zero, xfa_ref, run_ld, B0, reduceIte, reduceEqDiff]
  refine put1_eq (v := lst Reader.cells v_0.Readers) rfl ?_
  obtain ⟨x7, hx8, hF9⟩ := bind_some' hF
  simp only [zf1, run_mv, run_ia, B0, reduceIte, reduceEqDiff]
  refine put1_eq (v := .ref (Reader.cells x7) 0) (xia_lst hx8 rfl) ?_
  simp only [run_ld, B0, reduceIte, reduceEqDiff]
  refine put1_eq (v := .agg [.bool x7.In, .int .i64 x7.Generation, lst cI x7.Share, lst cI x7.Read]) rfl ?_
  simp only [run_new, B0, reduceIte, reduceEqDiff]
  refine put2_newC hS6 (fun b10 h11 hS12 => ?_)
  simp only [run_st, B0, reduceIte, reduceEqDiff]
  refine put2_stCx (us := [.bool x7.In, .int .i64 x7.Generation, lst cI x7.Share, lst cI x7.Read]) rfl (cs' := [.bool x7.In, .int .i64 x7.Generation, lst cI x7.Share,
      lst cI x7.Read]) hS12 hW rfl rfl (Nat.le_of_ble_eq_true rfl) rfl (fun h14 hS15 => ?_)
  simp only [run_ops_nil, B0, reduceIte, reduceEqDiff]
  refine frz_stepC hS15 hW (by simp only [B0, reduceIte, reduceEqDiff]) (fun h16 hS17 => ?_)
  simp only [run_frz_nil, x70_7, run_seq, run_reg, run_fa, put1_some, Nat.reduceAdd, Nat.zero_add, Nat.add_zero, xfa_ref, run_ld, B0, reduceIte, reduceEqDiff]
  refine put1_eq (v := .int .i64 x7.Generation) rfl ?_
  simp only [run_fa, put1_some, Nat.reduceAdd, Nat.zero_add, Nat.add_zero, xfa_ref, run_ld, B0, reduceIte, reduceEqDiff]
  refine put1_eq (v := .int .i64 v_0.Generation) rfl ?_
  simp only [run_call, B0, reduceIte, reduceEqDiff]
  refine call1 rfl (mapM1 snap_int (mapM1 snap_int (mapM1 snap_int mapM0))) (spec_l1In_x (fun b hb => decide_eq_true hb) x7.Generation 0 v_0.Generation _ rfl) ?_
  simp only [run_un, put1_some, xnot, run_mv, B0, reduceIte, reduceEqDiff]
  obtain ⟨v21, hx22, hF23⟩ := bind_some' hF9
  refine ops_j 8 (fun fr' h' => Sep h' h.length ([]) ∧ fr' 27 = .bool v21 ∧ fr' 1 = .int .i64 v_1 ∧ fr' 2 = .ref [.int .i64 v_0.Generation, lst Reader.cells v_0.Readers,
      lst cI v_0.Committed, lst cI v_0.Ends] 0 ∧ fr' 5 = .ref [.bool x7.In, .int .i64 x7.Generation, lst cI x7.Share, lst cI x7.Read] 0) (fun Q18 hN19 => ?_) ?_
  · simp only [List.take_succ_cons, List.take_zero]
    simp only [run_guard (g := 19), B0, reduceIte, reduceEqDiff]
    refine guard_split (t := (!(spec_l1In x7.Generation 0 v_0.Generation))) (fun hg20 => ?_) (fun hg20 => ?_)
    · rw [iteT hg20] at hx22
      simp only [hg20, run_guard (g := 19), guard_off', run_pick, put1_some, xpick_t, run_ops_nil, run_nil, B0, reduceIte, reduceEqDiff]
      have e24 := some_inj hx22
      exact hN19 _ _ ⟨hS17, by rw [← e24]; simp only [B0, reduceIte, reduceEqDiff], by simp only [zf1, B0, reduceIte, reduceEqDiff], by simp only [B0, reduceIte, reduceEqDiff],
          by simp only [B0, reduceIte, reduceEqDiff]⟩
    · rw [iteF hg20] at hx22
      simp only [hg20, run_guard (g := 19), guard_false, run_fa, put1_some, Nat.reduceAdd, Nat.zero_add, Nat.add_zero, xfa_ref, run_ld, B0, reduceIte, reduceEqDiff]
      refine put1_eq (v := lst cI x7.Share) rfl ?_
      simp only [hg20, run_guard (g := 19), guard_false, run_fa, put1_some, Nat.reduceAdd, Nat.zero_add, Nat.add_zero, xfa_ref, run_ld, B0, reduceIte, reduceEqDiff]
      refine put1_eq (v := lst cI v_0.Ends) rfl ?_
      obtain ⟨v25, hx26, hF27⟩ := bind_some' hx22
      simp only [hg20, run_guard (g := 19), guard_false, run_len, put1_some, xlen_lst, run_call, B0, reduceIte, reduceEqDiff]
      refine call1 rfl (mapM1 snap_lst (mapM1 snap_int mapM0)) (spec_l6Group_x (fun b hb => decide_eq_true hb) x7.Share (List.length v_0.Ends : Int) v25 hx26) ?_
      simp only [hg20, run_guard (g := 19), guard_false, run_un, put1_some, xnot, run_pick, xpick_f, run_ops_nil, run_nil, B0, reduceIte, reduceEqDiff]
      have e28 := some_inj hF27
      exact hN19 _ _ ⟨hS17, by rw [← e28]; simp only [B0, reduceIte, reduceEqDiff], by simp only [zf1, B0, reduceIte, reduceEqDiff], by simp only [B0, reduceIte, reduceEqDiff],
          by simp only [B0, reduceIte, reduceEqDiff]⟩
  rintro fr29 h34 ⟨hS35, f30, f31, f32, f33⟩
  simp only [List.drop_succ_cons, List.drop_zero]
  simp only [f30, run_mv, B0, reduceIte, reduceEqDiff]
  refine ops_j 8 (fun fr' h' => Sep h' h.length ([]) ∧ fr' 36 = .bool (v21 || (decide ((List.length x7.Read : Int) ≠
      (List.length v_0.Ends : Int)))) ∧ fr' 1 = .int .i64 v_1 ∧ fr' 2 = .ref [.int .i64 v_0.Generation, lst Reader.cells v_0.Readers, lst cI v_0.Committed,
      lst cI v_0.Ends] 0 ∧ fr' 5 = .ref [.bool x7.In, .int .i64 x7.Generation, lst cI x7.Share, lst cI x7.Read] 0) (fun Q36 hN37 => ?_) ?_
  · simp only [List.take_succ_cons, List.take_zero]
    simp only [run_guard (g := 28), B0, reduceIte, reduceEqDiff]
    refine guard_split (t := v21) (fun hg38 => ?_) (fun hg38 => ?_)
    · simp only [hg38, run_guard (g := 28), guard_off', run_pick, put1_some, xpick_t, run_ops_nil, run_nil, B0, reduceIte, reduceEqDiff]
      exact hN37 _ _ ⟨hS35, by rw [orT hg38]; simp only [B0, reduceIte, reduceEqDiff], by simp only [f31, B0, reduceIte, reduceEqDiff], by simp only [f32, B0, reduceIte,
          reduceEqDiff], by simp only [f33, B0, reduceIte, reduceEqDiff]⟩
    · simp only [hg38, run_guard (g := 28), guard_false, f33, run_fa, put1_some, Nat.reduceAdd, Nat.zero_add, Nat.add_zero, xfa_ref, run_ld, B0, reduceIte, reduceEqDiff]
      refine put1_eq (v := lst cI x7.Read) rfl ?_
      simp only [hg38, run_guard (g := 28), guard_false, run_len, put1_some, xlen_lst, f32, run_fa, Nat.reduceAdd, Nat.zero_add, Nat.add_zero, xfa_ref, run_ld, B0, reduceIte,
          reduceEqDiff]
      refine put1_eq (v := lst cI v_0.Ends) rfl ?_
      simp only [hg38, run_guard (g := 28), guard_false, run_len, put1_some, xlen_lst, run_bin, xneq, run_pick, xpick_f, run_ops_nil, run_nil, B0, reduceIte, reduceEqDiff]
      exact hN37 _ _ ⟨hS35, by rw [orF hg38]; simp only [B0, reduceIte, reduceEqDiff], by simp only [f31, B0, reduceIte, reduceEqDiff], by simp only [f32, B0, reduceIte,
          reduceEqDiff], by simp only [f33, B0, reduceIte, reduceEqDiff]⟩
  rintro fr39 h44 ⟨hS45, f40, f41, f42, f43⟩
  simp only [List.drop_succ_cons, List.drop_zero]
  simp only [f40, run_mv, B0, reduceIte, reduceEqDiff]
  refine ops_j 15 (fun fr' h' => Sep h' h.length ([]) ∧ fr' 52 = .bool ((v21 || (decide ((List.length x7.Read : Int) ≠ (List.length v_0.Ends : Int)))) || ((!x7.In) && ((decide
      (x7.Generation ≠ 0)) || (decide ((0 : Int) < (List.length x7.Share : Int)))))) ∧ fr' 1 = .int .i64 v_1 ∧ fr' 2 = .ref [.int .i64 v_0.Generation,
      lst Reader.cells v_0.Readers, lst cI v_0.Committed, lst cI v_0.Ends] 0 ∧ fr' 5 = .ref [.bool x7.In, .int .i64 x7.Generation, lst cI x7.Share,
      lst cI x7.Read] 0) (fun Q46 hN47 => ?_) ?_
  · simp only [List.take_succ_cons, List.take_zero]
    simp only [run_guard (g := 37), B0, reduceIte, reduceEqDiff]
    refine guard_split (t := (v21 || (decide ((List.length x7.Read : Int) ≠ (List.length v_0.Ends : Int))))) (fun hg48 => ?_) (fun hg48 => ?_)
    · simp only [hg48, run_guard (g := 37), guard_off', run_guard (g := 41), guard_tup, run_guard (g := 45), run_pick, put1_some, xpick_t, run_ops_nil, run_nil, B0, reduceIte,
        reduceEqDiff]
      exact hN47 _ _ ⟨hS45, by rw [orT hg48]; simp only [B0, reduceIte, reduceEqDiff], by simp only [f41, B0, reduceIte, reduceEqDiff], by simp only [f42, B0, reduceIte,
          reduceEqDiff], by simp only [f43, B0, reduceIte, reduceEqDiff]⟩
    · simp only [hg48, run_guard (g := 37), guard_false, f43, run_fa, put1_some, Nat.reduceAdd, Nat.zero_add, Nat.add_zero, xfa_ref, run_ld, B0, reduceIte, reduceEqDiff]
      refine put1_eq (v := .bool x7.In) rfl ?_
      simp only [hg48, run_guard (g := 37), guard_false, run_un, put1_some, xnot, run_mv, B0, reduceIte, reduceEqDiff]
      refine ops_j 10 (fun fr' h' => Sep h' h.length ([]) ∧ fr' 51 = .bool ((!x7.In) && ((decide (x7.Generation ≠ 0)) || (decide ((0 : Int) <
          (List.length x7.Share : Int))))) ∧ fr' 1 = .int .i64 v_1 ∧ fr' 2 = .ref [.int .i64 v_0.Generation, lst Reader.cells v_0.Readers, lst cI v_0.Committed,
          lst cI v_0.Ends] 0 ∧ fr' 5 = .ref [.bool x7.In, .int .i64 x7.Generation, lst cI x7.Share,
          lst cI x7.Read] 0 ∧ fr' 37 = .bool (v21 || (decide ((List.length x7.Read : Int) ≠ (List.length v_0.Ends : Int))))) (fun Q49 hN50 => ?_) ?_
      · simp only [List.take_succ_cons, List.take_zero]
        simp only [run_guard (g := 41), B0, reduceIte, reduceEqDiff]
        refine guard_split (t := (!x7.In)) (fun hg51 => ?_) (fun hg51 => ?_)
        · simp only [hg51, run_guard (g := 41), guard_true, f43, run_fa, put1_some, Nat.reduceAdd, Nat.zero_add, Nat.add_zero, xfa_ref, run_ld, B0, reduceIte, reduceEqDiff]
          refine put1_eq (v := .int .i64 x7.Generation) rfl ?_
          simp only [hg51, run_guard (g := 41), guard_true, run_bin, put1_some, xneq, run_mv, B0, reduceIte, reduceEqDiff]
          refine ops_j 5 (fun fr' h' => Sep h' h.length ([]) ∧ fr' 50 = .bool ((decide (x7.Generation ≠ 0)) || (decide ((0 : Int) <
              (List.length x7.Share : Int)))) ∧ fr' 1 = .int .i64 v_1 ∧ fr' 2 = .ref [.int .i64 v_0.Generation, lst Reader.cells v_0.Readers, lst cI v_0.Committed,
              lst cI v_0.Ends] 0 ∧ fr' 5 = .ref [.bool x7.In, .int .i64 x7.Generation, lst cI x7.Share,
              lst cI x7.Read] 0 ∧ fr' 37 = .bool (v21 || (decide ((List.length x7.Read : Int) ≠ (List.length v_0.Ends : Int)))) ∧ fr' 41 = .bool (!x7.In)) (fun Q52 hN53 => ?_) ?_
          · simp only [List.take_succ_cons, List.take_zero]
            simp only [run_guard (g := 45), B0, reduceIte, reduceEqDiff]
            refine guard_split (t := (decide (x7.Generation ≠ 0))) (fun hg54 => ?_) (fun hg54 => ?_)
            · simp only [hg54, run_guard (g := 45), guard_off', hg51, run_guard (g := 41), guard_true, run_pick, put1_some, xpick_t, run_ops_nil, run_nil, B0, reduceIte,
                reduceEqDiff]
              exact hN53 _ _ ⟨hS45, by rw [orT hg54]; simp only [B0, reduceIte, reduceEqDiff], by simp only [f41, B0, reduceIte, reduceEqDiff], by simp only [f42, B0, reduceIte,
                  reduceEqDiff], by simp only [f43, B0, reduceIte, reduceEqDiff], by simp only [hg48, B0, reduceIte, reduceEqDiff], by simp only [hg51, B0, reduceIte,
                  reduceEqDiff]⟩
            · simp only [hg54, run_guard (g := 45), guard_false, f43, run_fa, put1_some, Nat.reduceAdd, Nat.zero_add, Nat.add_zero, xfa_ref, run_ld, B0, reduceIte, reduceEqDiff]
              refine put1_eq (v := lst cI x7.Share) rfl ?_
              simp only [hg54, run_guard (g := 45), guard_false, run_len, put1_some, xlen_lst, run_bin, xgtr, hg51, run_guard (g := 41), guard_true, run_pick, xpick_f,
                  run_ops_nil, run_nil, B0, reduceIte, reduceEqDiff]
              exact hN53 _ _ ⟨hS45, by rw [orF hg54]; simp only [B0, reduceIte, reduceEqDiff], by simp only [f41, B0, reduceIte, reduceEqDiff], by simp only [f42, B0, reduceIte,
                  reduceEqDiff], by simp only [f43, B0, reduceIte, reduceEqDiff], by simp only [hg48, B0, reduceIte, reduceEqDiff], by simp only [hg51, B0, reduceIte,
                  reduceEqDiff]⟩
          rintro fr55 h62 ⟨hS63, f56, f57, f58, f59, f60, f61⟩
          simp only [List.drop_succ_cons, List.drop_zero]
          simp only [f60, hg48, run_guard (g := 37), guard_false, f61, hg51, run_pick, put1_some, xpick_t, f56, run_ops_nil, run_nil, B0, reduceIte, reduceEqDiff]
          exact hN50 _ _ ⟨hS63, by rw [andT hg51]; simp only [B0, reduceIte, reduceEqDiff], by simp only [f57, B0, reduceIte, reduceEqDiff], by simp only [f58, B0, reduceIte,
              reduceEqDiff], by simp only [f59, B0, reduceIte, reduceEqDiff], by simp only [f60, hg48, B0, reduceIte, reduceEqDiff]⟩
        · simp only [hg51, run_guard (g := 41), guard_off, run_guard (g := 45), guard_tup, hg48, run_guard (g := 37), guard_false, run_pick, put1_some, xpick_f, run_ops_nil,
            run_nil, B0, reduceIte, reduceEqDiff]
          exact hN50 _ _ ⟨hS45, by rw [andF hg51]; simp only [B0, reduceIte, reduceEqDiff], by simp only [f41, B0, reduceIte, reduceEqDiff], by simp only [f42, B0, reduceIte,
              reduceEqDiff], by simp only [f43, B0, reduceIte, reduceEqDiff], by simp only [hg48, B0, reduceIte, reduceEqDiff]⟩
      rintro fr64 h70 ⟨hS71, f65, f66, f67, f68, f69⟩
      simp only [List.drop_succ_cons, List.drop_zero]
      simp only [f69, hg48, run_pick, put1_some, xpick_f, f65, run_ops_nil, run_nil, B0, reduceIte, reduceEqDiff]
      exact hN47 _ _ ⟨hS71, by rw [orF hg48]; simp only [B0, reduceIte, reduceEqDiff], by simp only [f66, B0, reduceIte, reduceEqDiff], by simp only [f67, B0, reduceIte,
          reduceEqDiff], by simp only [f68, B0, reduceIte, reduceEqDiff]⟩
  rintro fr72 h77 ⟨hS78, f73, f74, f75, f76⟩
  simp only [List.drop_succ_cons, List.drop_zero]
  simp only [run_ops_nil, f73, run_cond, B0, reduceIte, reduceEqDiff]
  refine cond_split (t := ((v21 || (decide ((List.length x7.Read : Int) ≠ (List.length v_0.Ends : Int)))) || ((!x7.In) && ((decide (x7.Generation ≠ 0)) || (decide ((0 : Int) <
      (List.length x7.Share : Int))))))) (fun hc79 => ?_) (fun hc79 => ?_)
  · rw [iteT hc79] at hF23
    simp only [run_seq, run_reg, run_mv, run_ops_nil, run_ret, B0, reduceIte, reduceEqDiff]
    have he := some_inj hF23
    subst he
    simp only [end_ret1, B0, reduceIte, reduceEqDiff]
    exact rfl
  rw [iteF hc79] at hF23
  simp only [run_skip, x70_6, run_seq, run_reg, f76, run_fa, put1_some, Nat.reduceAdd, Nat.zero_add, Nat.add_zero, xfa_ref, run_ld, B0, reduceIte, reduceEqDiff]
  refine put1_eq (v := lst cI x7.Read) rfl ?_
  simp only [run_len, put1_some, xlen_lst, run_mv, run_ops_nil, B0, reduceIte, reduceEqDiff]
  obtain ⟨oc82, hX84, hk85⟩ := jn_some hF23
  simp only [x70_4]
  refine rangeL_j (σ := Unit) x7.Read (fun i80 x81 _ => spec_l14Reader_b1 v_0 x7 i80 x81 ) (fun s fr' h' => fr' 1 = .int .i64 v_1 ∧ fr' 2 = .ref [.int .i64 v_0.Generation,
      lst Reader.cells v_0.Readers, lst cI v_0.Committed, lst cI v_0.Ends] 0 ∧ fr' 5 = .ref [.bool x7.In, .int .i64 x7.Generation, lst cI x7.Share,
      lst cI x7.Read] 0 ∧ fr' 54 = lst cI x7.Read ∧ Sep h' h.length ([])) hX84 ⟨by simp only [f74, B0, reduceIte, reduceEqDiff], by simp only [f75, B0, reduceIte, reduceEqDiff],
      by simp only [f76, B0, reduceIte, reduceEqDiff], by simp only [B0, reduceIte, reduceEqDiff], hS78⟩ (by simp only [B0, reduceIte, reduceEqDiff]) (by simp only [B0, reduceIte,
      reduceEqDiff]) (fun _ _ _ h => h) rfl rfl (fun _ _ _ _ h => h) (fun _ _ _ _ h => h) (fun _ _ _ _ h => h) (by decide) ?_ ?_
  · rintro i80 x81 _ fr94 h95 hx101 ⟨f97, f98, f99, f100, hS96⟩ f102 f103 oc83 hF86 hr87 Q88 hN89 hB93 hK90 hR91 hE92
    unfold spec_l14Reader_b1 at hF86
    simp only [x70_2, run_seq, run_reg, f102, run_mv, f100, run_ia, B0, reduceIte, reduceEqDiff]
    refine put1_eq (v := .ref (cI x81) 0) (xia_lstN hx101 rfl) ?_
    simp only [run_ld, B0, reduceIte, reduceEqDiff]
    refine put1_eq (v := .int .i64 x81) rfl ?_
    simp only [run_mv, run_ops_nil, x70_1, run_seq, run_reg, f98, run_fa, put1_some, Nat.reduceAdd, Nat.zero_add, Nat.add_zero, xfa_ref, run_ld, B0, reduceIte, reduceEqDiff]
    refine put1_eq (v := lst cI v_0.Ends) rfl ?_
    obtain ⟨x104, hx105, hF106⟩ := bind_some' hF86
    simp only [run_mv, run_ia, B0, reduceIte, reduceEqDiff]
    refine put1_eq (v := .ref (cI x104) 0) (xia_lst hx105 rfl) ?_
    simp only [run_ld, B0, reduceIte, reduceEqDiff]
    refine put1_eq (v := .int .i64 x104) rfl ?_
    simp only [run_call, B0, reduceIte, reduceEqDiff]
    refine call1 rfl (mapM1 snap_int (mapM1 snap_int (mapM1 snap_int mapM0))) (spec_l1In_x (fun b hb => decide_eq_true hb) x81 0 x104 _ rfl) ?_
    simp only [run_un, put1_some, xnot, run_mv, B0, reduceIte, reduceEqDiff]
    obtain ⟨v110, hx111, hF112⟩ := bind_some' hF106
    refine ops_j 10 (fun fr' h' => Sep h' h.length ([]) ∧ fr' 79 = .bool v110 ∧ fr' 1 = .int .i64 v_1 ∧ fr' 2 = .ref [.int .i64 v_0.Generation, lst Reader.cells v_0.Readers,
        lst cI v_0.Committed, lst cI v_0.Ends] 0 ∧ fr' 5 = .ref [.bool x7.In, .int .i64 x7.Generation, lst cI x7.Share,
        lst cI x7.Read] 0 ∧ fr' 54 = lst cI x7.Read ∧ fr' 55 = .int .i64 (List.length x7.Read : Int) ∧ fr' 56 = .int .i64 (i80 : Int)) (fun Q107 hN108 => ?_) ?_
    · simp only [List.take_succ_cons, List.take_zero]
      simp only [run_guard (g := 69), B0, reduceIte, reduceEqDiff]
      refine guard_split (t := (!(spec_l1In x81 0 x104))) (fun hg109 => ?_) (fun hg109 => ?_)
      · rw [iteT hg109] at hx111
        simp only [hg109, run_guard (g := 69), guard_off', run_guard (g := 75), guard_tup, run_pick, put1_some, xpick_t, run_ops_nil, run_nil, B0, reduceIte, reduceEqDiff]
        have e113 := some_inj hx111
        exact hN108 _ _ ⟨hS96, by rw [← e113]; simp only [B0, reduceIte, reduceEqDiff], by simp only [f97, B0, reduceIte, reduceEqDiff], by simp only [f98, B0, reduceIte,
            reduceEqDiff], by simp only [f99, B0, reduceIte, reduceEqDiff], by simp only [f100, B0, reduceIte, reduceEqDiff], by simp only [f103, B0, reduceIte, reduceEqDiff],
            by simp only [f102, B0, reduceIte, reduceEqDiff]⟩
      · rw [iteF hg109] at hx111
        simp only [hg109, run_guard (g := 69), guard_false, f99, run_fa, put1_some, Nat.reduceAdd, Nat.zero_add, Nat.add_zero, xfa_ref, run_ld, B0, reduceIte, reduceEqDiff]
        refine put1_eq (v := lst cI x7.Share) rfl ?_
        obtain ⟨v114, hx115, hF116⟩ := bind_some' hx111
        simp only [hg109, run_guard (g := 69), guard_false, run_mv, run_call, B0, reduceIte, reduceEqDiff]
        refine call1 rfl (mapM1 snap_lst (mapM1 snap_int mapM0)) (spec_l1Has_x (fun b hb => decide_eq_true hb) x7.Share (i80 : Int) v114 hx115) ?_
        simp only [hg109, run_guard (g := 69), guard_false, run_un, put1_some, xnot, run_mv, B0, reduceIte, reduceEqDiff]
        refine ops_j 3 (fun fr' h' => Sep h' h.length ([]) ∧ fr' 78 = .bool ((!v114) && (decide (x81 ≠ 0))) ∧ fr' 1 = .int .i64 v_1 ∧ fr' 2 = .ref [.int .i64 v_0.Generation,
            lst Reader.cells v_0.Readers, lst cI v_0.Committed, lst cI v_0.Ends] 0 ∧ fr' 5 = .ref [.bool x7.In, .int .i64 x7.Generation, lst cI x7.Share,
            lst cI x7.Read] 0 ∧ fr' 54 = lst cI x7.Read ∧ fr' 55 = .int .i64 (List.length x7.Read : Int) ∧ fr' 56 = .int .i64 (i80 : Int) ∧ fr' 69 = .bool
            (!(spec_l1In x81 0 x104))) (fun Q117 hN118 => ?_) ?_
        · simp only [List.take_succ_cons, List.take_zero]
          simp only [run_guard (g := 75), B0, reduceIte, reduceEqDiff]
          refine guard_split (t := (!v114)) (fun hg119 => ?_) (fun hg119 => ?_)
          · simp only [hg119, run_guard (g := 75), guard_true, run_mv, run_bin, put1_some, xneq, hg109, run_guard (g := 69), guard_false, run_pick, xpick_t, run_ops_nil, run_nil,
              B0, reduceIte, reduceEqDiff]
            exact hN118 _ _ ⟨hS96, by rw [andT hg119]; simp only [B0, reduceIte, reduceEqDiff], by simp only [f97, B0, reduceIte, reduceEqDiff], by simp only [f98, B0, reduceIte,
                reduceEqDiff], by simp only [f99, B0, reduceIte, reduceEqDiff], by simp only [f100, B0, reduceIte, reduceEqDiff], by simp only [f103, B0, reduceIte, reduceEqDiff],
                by simp only [f102, B0, reduceIte, reduceEqDiff], by simp only [hg109, B0, reduceIte, reduceEqDiff]⟩
          · simp only [hg119, run_guard (g := 75), guard_off, hg109, run_guard (g := 69), guard_false, run_pick, put1_some, xpick_f, run_ops_nil, run_nil, B0, reduceIte,
              reduceEqDiff]
            exact hN118 _ _ ⟨hS96, by rw [andF hg119]; simp only [B0, reduceIte, reduceEqDiff], by simp only [f97, B0, reduceIte, reduceEqDiff], by simp only [f98, B0, reduceIte,
                reduceEqDiff], by simp only [f99, B0, reduceIte, reduceEqDiff], by simp only [f100, B0, reduceIte, reduceEqDiff], by simp only [f103, B0, reduceIte, reduceEqDiff],
                by simp only [f102, B0, reduceIte, reduceEqDiff], by simp only [hg109, B0, reduceIte, reduceEqDiff]⟩
        rintro fr120 h129 ⟨hS130, f121, f122, f123, f124, f125, f126, f127, f128⟩
        simp only [List.drop_succ_cons, List.drop_zero]
        simp only [f128, hg109, run_pick, put1_some, xpick_f, f121, run_ops_nil, run_nil, B0, reduceIte, reduceEqDiff]
        have e131 := some_inj hF116
        exact hN108 _ _ ⟨hS130, by rw [← e131]; simp only [B0, reduceIte, reduceEqDiff], by simp only [f122, B0, reduceIte, reduceEqDiff], by simp only [f123, B0, reduceIte,
            reduceEqDiff], by simp only [f124, B0, reduceIte, reduceEqDiff], by simp only [f125, B0, reduceIte, reduceEqDiff], by simp only [f126, B0, reduceIte, reduceEqDiff],
            by simp only [f127, B0, reduceIte, reduceEqDiff]⟩
    rintro fr132 h140 ⟨hS141, f133, f134, f135, f136, f137, f138, f139⟩
    simp only [List.drop_succ_cons, List.drop_zero]
    simp only [run_ops_nil, f133, run_cond, B0, reduceIte, reduceEqDiff]
    refine cond_split (t := v110) (fun hc142 => ?_) (fun hc142 => ?_)
    · rw [iteT hc142] at hF112
      simp only [run_seq, run_reg, run_mv, run_ops_nil, run_ret, B0, reduceIte, reduceEqDiff]
      have e143 := some_inj hF112
      subst e143
      have ho144 := hr87 _ rfl
      have hk145 := hk85
      rw [ho144] at hk145
      dsimp only [jnO] at hk145
      apply hR91
      have he := some_inj hk145
      subst he
      simp only [end_ret1, B0, reduceIte, reduceEqDiff]
      exact rfl
    rw [iteF hc142] at hF112
    simp only [run_skip, run_nil, B0, reduceIte, reduceEqDiff]
    have e146 := some_inj hF112
    exact hN89 _ _ _ e146.symm ⟨by simp only [f134, B0, reduceIte, reduceEqDiff], by simp only [f135, B0, reduceIte, reduceEqDiff], by simp only [f136, B0, reduceIte,
        reduceEqDiff], by simp only [f137, B0, reduceIte, reduceEqDiff], hS141⟩ (by simp only [f139, B0, reduceIte, reduceEqDiff]) (by simp only [f138, B0, reduceIte,
        reduceEqDiff])
  rintro _ fr148 h149 rfl ⟨f151, f152, f153, f154, hS150⟩
  dsimp only [jnO] at hk85
  unfold spec_l14Reader_j1 at hk85
  simp only [x70_5, run_seq, run_draw, f153, d4_fa, put1d_some, Nat.reduceAdd, Nat.zero_add, Nat.add_zero, xfa_ref, d4_ld, B0, reduceIte, reduceEqDiff]
  refine put1d_eq (v := .bool x7.In) rfl ?_
  simp only [d4_un, put1d_some, xnot, d4_mv, B0, reduceIte, reduceEqDiff]
  refine draw_j 6 (fun fr' h' => Sep h' h.length ([]) ∧ fr' 90 = .bool ((!x7.In) || (decide
      (x7.Generation ≠ v_0.Generation))) ∧ fr' 1 = .int .i64 v_1 ∧ fr' 2 = .ref [.int .i64 v_0.Generation, lst Reader.cells v_0.Readers, lst cI v_0.Committed,
      lst cI v_0.Ends] 0 ∧ fr' 5 = .ref [.bool x7.In, .int .i64 x7.Generation, lst cI x7.Share, lst cI x7.Read] 0) rfl (fun Q155 hN156 => ?_) ?_
  · simp only [List.take_succ_cons, List.take_zero]
    simp only [run_guardd (g := 84), B0, reduceIte, reduceEqDiff]
    refine guardd_split (t := (!x7.In)) (fun hg157 => ?_) (fun hg157 => ?_)
    · simp only [hg157, run_guardd (g := 84), guardd_off', d4_pick, put1d_some, xpick_t, run_draw_nil, run_nil, B0, reduceIte, reduceEqDiff]
      exact hN156 _ _ ⟨hS150, by rw [orT hg157]; simp only [B0, reduceIte, reduceEqDiff], by simp only [f151, B0, reduceIte, reduceEqDiff], by simp only [f152, B0, reduceIte,
          reduceEqDiff], by simp only [f153, B0, reduceIte, reduceEqDiff]⟩
    · simp only [hg157, run_guardd (g := 84), guardd_false, f153, d4_fa, put1d_some, Nat.reduceAdd, Nat.zero_add, Nat.add_zero, xfa_ref, d4_ld, B0, reduceIte, reduceEqDiff]
      refine put1d_eq (v := .int .i64 x7.Generation) rfl ?_
      simp only [hg157, run_guardd (g := 84), guardd_false, f152, d4_fa, put1d_some, Nat.reduceAdd, Nat.zero_add, Nat.add_zero, xfa_ref, d4_ld, B0, reduceIte, reduceEqDiff]
      refine put1d_eq (v := .int .i64 v_0.Generation) rfl ?_
      simp only [hg157, run_guardd (g := 84), guardd_false, d4_bin, put1d_some, xneq, d4_pick, xpick_f, run_draw_nil, run_nil, B0, reduceIte, reduceEqDiff]
      exact hN156 _ _ ⟨hS150, by rw [orF hg157]; simp only [B0, reduceIte, reduceEqDiff], by simp only [f151, B0, reduceIte, reduceEqDiff], by simp only [f152, B0, reduceIte,
          reduceEqDiff], by simp only [f153, B0, reduceIte, reduceEqDiff]⟩
  rintro fr158 h163 ⟨hS164, f159, f160, f161, f162⟩
  simp only [List.drop_succ_cons, List.drop_zero]
  simp only [f159, d4_mv, put1d_some, B0, reduceIte, reduceEqDiff]
  simp only [run_guardd (g := 91), B0, reduceIte, reduceEqDiff]
  refine guardd_split (t := ((!x7.In) || (decide (x7.Generation ≠ v_0.Generation)))) (fun hg165 => ?_) (fun hg165 => ?_)
  · rw [iteT hg165] at hk85
    simp only [hg165, run_guardd (g := 91), guardd_off', d4_pick, put1d_some, xpick_t, d4_mv, run_draw_nil, run_ret, B0, reduceIte, reduceEqDiff]
    have he := some_inj hk85
    subst he
    simp only [end_ret1, B0, reduceIte, reduceEqDiff]
    exact rfl
  rw [iteF hg165] at hk85
  simp only [hg165, run_guardd (g := 91), guardd_false, f162, d1_fa, put1d_some, Nat.reduceAdd, Nat.zero_add, Nat.add_zero, xfa_ref, d1_ld, ldd_ref, B0, reduceIte, reduceEqDiff]
  refine put1d_eq (v := lst cI x7.Share) rfl ?_
  simp only [hg165, run_guardd (g := 91), guardd_false, f161, d4_ld, B0, reduceIte, reduceEqDiff]
  refine put1d_eq (v := .agg [.int .i64 v_0.Generation, lst Reader.cells v_0.Readers, lst cI v_0.Committed, lst cI v_0.Ends]) rfl ?_
  obtain ⟨v166, hx167, hF168⟩ := bind_some' hk85
  simp only [hg165, run_guardd (g := 91), guardd_false, f160, d4_mv, put1d_some, run_d2_call, B0, reduceIte, reduceEqDiff]
  refine call2q rfl hS164 (mapM1 (snap_agg (mapM1 snap_int (mapM1 snap_lst (mapM1 snap_lst (mapM1 snap_lst mapM0))))) (mapM1 snap_int mapM0)) (spec_l14Share_x
      (fun b hb => decide_eq_true hb) v_0 v_1 v166 hx167) ?_
  rintro v169 h173 ⟨_, c170, rfl, hv171, hS174⟩
  refine ⟨_, free_1 (SlF.free1 hv171), hS174, (pf_app (SlF.pf hv171 (fun _ => rfl)) pf_nil), fun h175 hS176 => ?_⟩
  have hS177 : Sep h175 h.length (c170 ++ ([])) := by simpa only [List.append_assoc, List.nil_append] using hS176
  obtain ⟨v178, hx179, hF180⟩ := bind_some' hF168
  simp only [hg165, run_guardd (g := 91), guardd_false, run_d3_call, B0, reduceIte, reduceEqDiff]
  refine call1d rfl (mapM1 snap_lst (mapM1 (SlF.snap hv171 hS177 rfl (fun _ => rfl) (fun _ => rfl)) mapM0)) (spec_l14Same_x
      (fun b hb => decide_eq_true hb) x7.Share v166 v178 hx179) ?_
  simp only [hg165, d4_pick, put1d_some, xpick_f, d4_mv, run_draw_nil, run_ret, B0, reduceIte, reduceEqDiff]
  have he := some_inj hF180
  subst he
  simp only [end_ret1, B0, reduceIte, reduceEqDiff]
  exact rfl
theorem spec_GoodReaders_x {W : Nat → Bool} {h : Heap} (hW : ∀ b,
    h.length ≤ b → W b = true) (v_0 : Readers_) (r : Bool) (hF : spec_GoodReaders v_0 = some r) : Ret E W 36 [.agg [.int .i64 v_0.Generation, lst Reader.cells v_0.Readers,
    lst cI v_0.Committed, lst cI v_0.Ends]] h (fun v h' => cut h.length h' E.sz false 9 v = some (.bool r)) := by
  refine Ret.of (fn := x36) rfl (Run.of ?_)
  unfold spec_GoodReaders at hF
  have zf0 : argFr [.agg [.int .i64 v_0.Generation, lst Reader.cells v_0.Readers, lst cI v_0.Committed, lst cI v_0.Ends]] 0 = .agg [.int .i64 v_0.Generation,
      lst Reader.cells v_0.Readers, lst cI v_0.Committed, lst cI v_0.Ends] := rfl
  generalize argFr [.agg [.int .i64 v_0.Generation, lst Reader.cells v_0.Readers, lst cI v_0.Committed, lst cI v_0.Ends]] = fr0 at zf0 ⊢
  have hS : Sep h h.length [] := Sep.nil h
  simp only [x36, run_seq, run_reg, run_box, zf0, B0, reduceIte, reduceEqDiff]
  refine put2_boxC (cs := [.int .i64 v_0.Generation, lst Reader.cells v_0.Readers, lst cI v_0.Committed, lst cI v_0.Ends]) hS rfl rfl rfl (fun b1 h2 hS3 => ?_)
  simp only [run_mv, run_ops_nil, B0, reduceIte, reduceEqDiff]
  refine frz_stepC hS3 hW (by simp only [B0, reduceIte, reduceEqDiff]) (fun h5 hS6 => ?_)
  simp only [run_frz_nil, x36_11, run_seq, run_reg, run_fa, put1_some, Nat.reduceAdd, Nat.zero_add, Nat.add_zero, xfa_ref, run_ld, B0, reduceIte, reduceEqDiff]
  refine put1_eq (v := lst Reader.cells v_0.Readers) rfl ?_
  simp only [run_len, put1_some, xlen_lst, run_call, B0, reduceIte, reduceEqDiff]
  refine call1 rfl (mapM1 snap_int (mapM1 snap_int (mapM1 snap_int mapM0))) (spec_l1In_x (fun b hb => decide_eq_true hb) (List.length v_0.Readers : Int) 1 5 _ rfl) ?_
  simp only [run_un, put1_some, xnot, run_mv, B0, reduceIte, reduceEqDiff]
  refine ops_j 6 (fun fr' h' => Sep h' h.length ([]) ∧ fr' 17 = .bool ((!(spec_l1In (List.length v_0.Readers : Int) 1 5)) || (!(spec_l1In
      (List.length v_0.Ends : Int) 1 6))) ∧ fr' 1 = .ref [.int .i64 v_0.Generation, lst Reader.cells v_0.Readers, lst cI v_0.Committed, lst cI v_0.Ends] 0) (fun Q7 hN8 => ?_) ?_
  · simp only [List.take_succ_cons, List.take_zero]
    simp only [run_guard (g := 11), B0, reduceIte, reduceEqDiff]
    refine guard_split (t := (!(spec_l1In (List.length v_0.Readers : Int) 1 5))) (fun hg9 => ?_) (fun hg9 => ?_)
    · simp only [hg9, run_guard (g := 11), guard_off', run_pick, put1_some, xpick_t, run_ops_nil, run_nil, B0, reduceIte, reduceEqDiff]
      exact hN8 _ _ ⟨hS6, by rw [orT hg9]; simp only [B0, reduceIte, reduceEqDiff], by simp only [B0, reduceIte, reduceEqDiff]⟩
    · simp only [hg9, run_guard (g := 11), guard_false, run_fa, put1_some, Nat.reduceAdd, Nat.zero_add, Nat.add_zero, xfa_ref, run_ld, B0, reduceIte, reduceEqDiff]
      refine put1_eq (v := lst cI v_0.Ends) rfl ?_
      simp only [hg9, run_guard (g := 11), guard_false, run_len, put1_some, xlen_lst, run_call, B0, reduceIte, reduceEqDiff]
      refine call1 rfl (mapM1 snap_int (mapM1 snap_int (mapM1 snap_int mapM0))) (spec_l1In_x (fun b hb => decide_eq_true hb) (List.length v_0.Ends : Int) 1 6 _ rfl) ?_
      simp only [hg9, run_guard (g := 11), guard_false, run_un, put1_some, xnot, run_pick, xpick_f, run_ops_nil, run_nil, B0, reduceIte, reduceEqDiff]
      exact hN8 _ _ ⟨hS6, by rw [orF hg9]; simp only [B0, reduceIte, reduceEqDiff], by simp only [B0, reduceIte, reduceEqDiff]⟩
  rintro fr10 h13 ⟨hS14, f11, f12⟩
  simp only [List.drop_succ_cons, List.drop_zero]
  simp only [f11, run_mv, B0, reduceIte, reduceEqDiff]
  refine ops_j 8 (fun fr' h' => Sep h' h.length ([]) ∧ fr' 26 = .bool (((!(spec_l1In (List.length v_0.Readers : Int) 1 5)) || (!(spec_l1In (List.length v_0.Ends : Int) 1 6))) ||
      (decide ((List.length v_0.Committed : Int) ≠ (List.length v_0.Ends : Int)))) ∧ fr' 1 = .ref [.int .i64 v_0.Generation, lst Reader.cells v_0.Readers, lst cI v_0.Committed,
      lst cI v_0.Ends] 0) (fun Q15 hN16 => ?_) ?_
  · simp only [List.take_succ_cons, List.take_zero]
    simp only [run_guard (g := 18), B0, reduceIte, reduceEqDiff]
    refine guard_split (t := ((!(spec_l1In (List.length v_0.Readers : Int) 1 5)) || (!(spec_l1In (List.length v_0.Ends : Int) 1 6)))) (fun hg17 => ?_) (fun hg17 => ?_)
    · simp only [hg17, run_guard (g := 18), guard_off', run_pick, put1_some, xpick_t, run_ops_nil, run_nil, B0, reduceIte, reduceEqDiff]
      exact hN16 _ _ ⟨hS14, by rw [orT hg17]; simp only [B0, reduceIte, reduceEqDiff], by simp only [f12, B0, reduceIte, reduceEqDiff]⟩
    · simp only [hg17, run_guard (g := 18), guard_false, f12, run_fa, put1_some, Nat.reduceAdd, Nat.zero_add, Nat.add_zero, xfa_ref, run_ld, B0, reduceIte, reduceEqDiff]
      refine put1_eq (v := lst cI v_0.Committed) rfl ?_
      simp only [hg17, run_guard (g := 18), guard_false, run_len, put1_some, xlen_lst, f12, run_fa, Nat.reduceAdd, Nat.zero_add, Nat.add_zero, xfa_ref, run_ld, B0, reduceIte,
          reduceEqDiff]
      refine put1_eq (v := lst cI v_0.Ends) rfl ?_
      simp only [hg17, run_guard (g := 18), guard_false, run_len, put1_some, xlen_lst, run_bin, xneq, run_pick, xpick_f, run_ops_nil, run_nil, B0, reduceIte, reduceEqDiff]
      exact hN16 _ _ ⟨hS14, by rw [orF hg17]; simp only [B0, reduceIte, reduceEqDiff], by simp only [f12, B0, reduceIte, reduceEqDiff]⟩
  rintro fr18 h21 ⟨hS22, f19, f20⟩
  simp only [List.drop_succ_cons, List.drop_zero]
  simp only [f19, run_mv, B0, reduceIte, reduceEqDiff]
  refine ops_j 5 (fun fr' h' => Sep h' h.length ([]) ∧ fr' 32 = .bool ((((!(spec_l1In (List.length v_0.Readers : Int) 1 5)) || (!(spec_l1In (List.length v_0.Ends : Int) 1 6))) ||
      (decide ((List.length v_0.Committed : Int) ≠ (List.length v_0.Ends : Int)))) || (!(spec_l1In v_0.Generation 0 1000))) ∧ fr' 1 = .ref [.int .i64 v_0.Generation,
      lst Reader.cells v_0.Readers, lst cI v_0.Committed, lst cI v_0.Ends] 0) (fun Q23 hN24 => ?_) ?_
  · simp only [List.take_succ_cons, List.take_zero]
    simp only [run_guard (g := 27), B0, reduceIte, reduceEqDiff]
    refine guard_split (t := (((!(spec_l1In (List.length v_0.Readers : Int) 1 5)) || (!(spec_l1In (List.length v_0.Ends : Int) 1 6))) || (decide
        ((List.length v_0.Committed : Int) ≠ (List.length v_0.Ends : Int))))) (fun hg25 => ?_) (fun hg25 => ?_)
    · simp only [hg25, run_guard (g := 27), guard_off', run_pick, put1_some, xpick_t, run_ops_nil, run_nil, B0, reduceIte, reduceEqDiff]
      exact hN24 _ _ ⟨hS22, by rw [orT hg25]; simp only [B0, reduceIte, reduceEqDiff], by simp only [f20, B0, reduceIte, reduceEqDiff]⟩
    · simp only [hg25, run_guard (g := 27), guard_false, f20, run_fa, put1_some, Nat.reduceAdd, Nat.zero_add, Nat.add_zero, xfa_ref, run_ld, B0, reduceIte, reduceEqDiff]
      refine put1_eq (v := .int .i64 v_0.Generation) rfl ?_
      simp only [hg25, run_guard (g := 27), guard_false, run_call, B0, reduceIte, reduceEqDiff]
      refine call1 rfl (mapM1 snap_int (mapM1 snap_int (mapM1 snap_int mapM0))) (spec_l1In_x (fun b hb => decide_eq_true hb) v_0.Generation 0 1000 _ rfl) ?_
      simp only [hg25, run_guard (g := 27), guard_false, run_un, put1_some, xnot, run_pick, xpick_f, run_ops_nil, run_nil, B0, reduceIte, reduceEqDiff]
      exact hN24 _ _ ⟨hS22, by rw [orF hg25]; simp only [B0, reduceIte, reduceEqDiff], by simp only [f20, B0, reduceIte, reduceEqDiff]⟩
  rintro fr26 h29 ⟨hS30, f27, f28⟩
  simp only [List.drop_succ_cons, List.drop_zero]
  simp only [run_ops_nil, f27, run_cond, B0, reduceIte, reduceEqDiff]
  refine cond_split (t := ((((!(spec_l1In (List.length v_0.Readers : Int) 1 5)) || (!(spec_l1In (List.length v_0.Ends : Int) 1 6))) || (decide
      ((List.length v_0.Committed : Int) ≠ (List.length v_0.Ends : Int)))) || (!(spec_l1In v_0.Generation 0 1000)))) (fun hc31 => ?_) (fun hc31 => ?_)
  · rw [iteT hc31] at hF
    simp only [run_seq, run_reg, run_mv, run_ops_nil, run_ret, B0, reduceIte, reduceEqDiff]
    have he := some_inj hF
    subst he
    simp only [end_ret1, B0, reduceIte, reduceEqDiff]
    exact rfl
  rw [iteF hc31] at hF
  simp only [run_skip, x36_10, run_seq, run_reg, f28, run_fa, put1_some, Nat.reduceAdd, Nat.zero_add, Nat.add_zero, xfa_ref, run_ld, B0, reduceIte, reduceEqDiff]
  refine put1_eq (v := lst cI v_0.Ends) rfl ?_
  simp only [run_len, put1_some, xlen_lst, run_mv, run_ops_nil, B0, reduceIte, reduceEqDiff]
  obtain ⟨oc34, hX36, hk37⟩ := jn_some hF
  simp only [x36_4]
  refine rangeL_j (σ := Unit) v_0.Ends (fun i32 x33 _ => spec_GoodReaders_b1 v_0 i32 x33 ) (fun s fr' h' => fr' 1 = .ref [.int .i64 v_0.Generation, lst Reader.cells v_0.Readers,
      lst cI v_0.Committed, lst cI v_0.Ends] 0 ∧ fr' 34 = lst cI v_0.Ends ∧ Sep h' h.length ([])) hX36 ⟨by simp only [f28, B0, reduceIte, reduceEqDiff], by simp only [B0,
      reduceIte, reduceEqDiff], hS30⟩ (by simp only [B0, reduceIte, reduceEqDiff]) (by simp only [B0, reduceIte,
      reduceEqDiff]) (fun _ _ _ h => h) rfl rfl (fun _ _ _ _ h => h) (fun _ _ _ _ h => h) (fun _ _ _ _ h => h) (by decide) ?_ ?_
  · rintro i32 x33 _ fr46 h47 hx51 ⟨f49, f50, hS48⟩ f52 f53 oc35 hF38 hr39 Q40 hN41 hB45 hK42 hR43 hE44
    unfold spec_GoodReaders_b1 at hF38
    simp only [x36_2, run_seq, run_reg, f52, run_mv, f50, run_ia, B0, reduceIte, reduceEqDiff]
    refine put1_eq (v := .ref (cI x33) 0) (xia_lstN hx51 rfl) ?_
    simp only [run_ld, B0, reduceIte, reduceEqDiff]
    refine put1_eq (v := .int .i64 x33) rfl ?_
    simp only [run_mv, run_ops_nil, x36_1, run_seq, run_reg, run_call, B0, reduceIte, reduceEqDiff]
    refine call1 rfl (mapM1 snap_int (mapM1 snap_int (mapM1 snap_int mapM0))) (spec_l1In_x (fun b hb => decide_eq_true hb) x33 0 100 _ rfl) ?_
    simp only [run_un, put1_some, xnot, run_mv, B0, reduceIte, reduceEqDiff]
    obtain ⟨v57, hx58, hF59⟩ := bind_some' hF38
    refine ops_j 9 (fun fr' h' => Sep h' h.length ([]) ∧ fr' 53 = .bool v57 ∧ fr' 1 = .ref [.int .i64 v_0.Generation, lst Reader.cells v_0.Readers, lst cI v_0.Committed,
        lst cI v_0.Ends] 0 ∧ fr' 34 = lst cI v_0.Ends ∧ fr' 35 = .int .i64 (List.length v_0.Ends : Int) ∧ fr' 36 = .int .i64 (i32 : Int)) (fun Q54 hN55 => ?_) ?_
    · simp only [List.take_succ_cons, List.take_zero]
      simp only [run_guard (g := 44), B0, reduceIte, reduceEqDiff]
      refine guard_split (t := (!(spec_l1In x33 0 100))) (fun hg56 => ?_) (fun hg56 => ?_)
      · rw [iteT hg56] at hx58
        simp only [hg56, run_guard (g := 44), guard_off', run_pick, put1_some, xpick_t, run_ops_nil, run_nil, B0, reduceIte, reduceEqDiff]
        have e60 := some_inj hx58
        exact hN55 _ _ ⟨hS48, by rw [← e60]; simp only [B0, reduceIte, reduceEqDiff], by simp only [f49, B0, reduceIte, reduceEqDiff], by simp only [f50, B0, reduceIte,
            reduceEqDiff], by simp only [f53, B0, reduceIte, reduceEqDiff], by simp only [f52, B0, reduceIte, reduceEqDiff]⟩
      · rw [iteF hg56] at hx58
        simp only [hg56, run_guard (g := 44), guard_false, f49, run_fa, put1_some, Nat.reduceAdd, Nat.zero_add, Nat.add_zero, xfa_ref, run_ld, B0, reduceIte, reduceEqDiff]
        refine put1_eq (v := lst cI v_0.Committed) rfl ?_
        obtain ⟨x61, hx62, hF63⟩ := bind_some' hx58
        simp only [hg56, run_guard (g := 44), guard_false, run_mv, run_ia, B0, reduceIte, reduceEqDiff]
        refine put1_eq (v := .ref (cI x61) 0) (xia_lst hx62 rfl) ?_
        simp only [hg56, run_guard (g := 44), guard_false, run_ld, B0, reduceIte, reduceEqDiff]
        refine put1_eq (v := .int .i64 x61) rfl ?_
        simp only [hg56, run_guard (g := 44), guard_false, run_mv, run_call, B0, reduceIte, reduceEqDiff]
        refine call1 rfl (mapM1 snap_int (mapM1 snap_int (mapM1 snap_int mapM0))) (spec_l1In_x (fun b hb => decide_eq_true hb) x61 0 x33 _ rfl) ?_
        simp only [hg56, run_guard (g := 44), guard_false, run_un, put1_some, xnot, run_pick, xpick_f, run_ops_nil, run_nil, B0, reduceIte, reduceEqDiff]
        have e64 := some_inj hF63
        exact hN55 _ _ ⟨hS48, by rw [← e64]; simp only [B0, reduceIte, reduceEqDiff], by simp only [f49, B0, reduceIte, reduceEqDiff], by simp only [f50, B0, reduceIte,
            reduceEqDiff], by simp only [f53, B0, reduceIte, reduceEqDiff], by simp only [f52, B0, reduceIte, reduceEqDiff]⟩
    rintro fr65 h71 ⟨hS72, f66, f67, f68, f69, f70⟩
    simp only [List.drop_succ_cons, List.drop_zero]
    simp only [run_ops_nil, f66, run_cond, B0, reduceIte, reduceEqDiff]
    refine cond_split (t := v57) (fun hc73 => ?_) (fun hc73 => ?_)
    · rw [iteT hc73] at hF59
      simp only [run_seq, run_reg, run_mv, run_ops_nil, run_ret, B0, reduceIte, reduceEqDiff]
      have e74 := some_inj hF59
      subst e74
      have ho75 := hr39 _ rfl
      have hk76 := hk37
      rw [ho75] at hk76
      dsimp only [jnO] at hk76
      apply hR43
      have he := some_inj hk76
      subst he
      simp only [end_ret1, B0, reduceIte, reduceEqDiff]
      exact rfl
    rw [iteF hc73] at hF59
    simp only [run_skip, run_nil, B0, reduceIte, reduceEqDiff]
    have e77 := some_inj hF59
    exact hN41 _ _ _ e77.symm ⟨by simp only [f67, B0, reduceIte, reduceEqDiff], by simp only [f68, B0, reduceIte, reduceEqDiff], hS72⟩ (by simp only [f70, B0, reduceIte,
        reduceEqDiff]) (by simp only [f69, B0, reduceIte, reduceEqDiff])
  rintro _ fr79 h80 rfl ⟨f82, f83, hS81⟩
  dsimp only [jnO] at hk37
  unfold spec_GoodReaders_j2 at hk37
  simp only [x36_9, run_seq, run_reg, f82, run_fa, put1_some, Nat.reduceAdd, Nat.zero_add, Nat.add_zero, xfa_ref, run_ld, B0, reduceIte, reduceEqDiff]
  refine put1_eq (v := lst Reader.cells v_0.Readers) rfl ?_
  simp only [run_len, put1_some, xlen_lst, run_mv, run_ops_nil, B0, reduceIte, reduceEqDiff]
  obtain ⟨oc86, hX88, hk89⟩ := jn_some hk37
  simp only [x36_8]
  refine rangeN_j (σ := Unit) (fun i84 _ => spec_GoodReaders_b2 v_0 i84 ) (fun s fr' h' => fr' 1 = .ref [.int .i64 v_0.Generation, lst Reader.cells v_0.Readers,
      lst cI v_0.Committed, lst cI v_0.Ends] 0 ∧ Sep h' h.length ([])) hX88 ⟨by simp only [f82, B0, reduceIte, reduceEqDiff], hS81⟩ (by simp only [B0, reduceIte,
      reduceEqDiff]) (by simp only [B0, reduceIte, reduceEqDiff]) (fun _ _ _ h => h) rfl rfl (fun _ _ _ _ h => h) (fun _ _ _ _ h => h) (fun _ _ _ _ h => h) (by decide) ?_ ?_
  · rintro i84 _ fr98 h99 hx102 ⟨f101, hS100⟩ f103 f104 oc87 hF90 hr91 Q92 hN93 hB97 hK94 hR95 hE96
    unfold spec_GoodReaders_b2 at hF90
    simp only [x36_6, run_seq, run_reg, f103, run_mv, run_ops_nil, x36_5, f101, run_ld, B0, reduceIte, reduceEqDiff]
    refine put1_eq (v := .agg [.int .i64 v_0.Generation, lst Reader.cells v_0.Readers, lst cI v_0.Committed, lst cI v_0.Ends]) rfl ?_
    obtain ⟨v105, hx106, hF107⟩ := bind_some' hF90
    simp only [run_mv, run_call, B0, reduceIte, reduceEqDiff]
    refine call1 rfl (mapM1 (snap_agg (mapM1 snap_int (mapM1 snap_lst (mapM1 snap_lst (mapM1 snap_lst mapM0))))) (mapM1 snap_int mapM0)) (spec_l14Reader_x
        (fun b hb => decide_eq_true hb) v_0 (i84 : Int) v105 hx106) ?_
    simp only [run_un, put1_some, xnot, run_ops_nil, run_cond, B0, reduceIte, reduceEqDiff]
    refine cond_split (t := (!v105)) (fun hc108 => ?_) (fun hc108 => ?_)
    · rw [iteT hc108] at hF107
      simp only [run_seq, run_reg, run_mv, run_ops_nil, run_ret, B0, reduceIte, reduceEqDiff]
      have e109 := some_inj hF107
      subst e109
      have ho110 := hr91 _ rfl
      have hk111 := hk89
      rw [ho110] at hk111
      dsimp only [jnO] at hk111
      apply hR95
      have he := some_inj hk111
      subst he
      simp only [end_ret1, B0, reduceIte, reduceEqDiff]
      exact rfl
    rw [iteF hc108] at hF107
    simp only [run_skip, run_nil, B0, reduceIte, reduceEqDiff]
    have e112 := some_inj hF107
    exact hN93 _ _ _ e112.symm ⟨by simp only [f101, B0, reduceIte, reduceEqDiff], hS100⟩ (by simp only [f103, B0, reduceIte, reduceEqDiff]) (by simp only [f104, B0, reduceIte,
        reduceEqDiff])
  rintro _ fr114 h115 rfl ⟨f117, hS116⟩
  dsimp only [jnO] at hk89
  unfold spec_GoodReaders_j1 at hk89
  simp only [run_seq, run_reg, run_mv, run_ops_nil, run_ret, B0, reduceIte, reduceEqDiff]
  have he := some_inj hk89
  subst he
  simp only [end_ret1, B0, reduceIte, reduceEqDiff]
  exact rfl
end Go.Proofs.Ytdhibknhejhfaaa.X
namespace Go.Proofs.Ytdhibknhejhfaaa.X
open Go
open Nat (reduceEqDiff)
theorem spec_l14Step_x {W : Nat → Bool} {h : Heap} {lo : Nat} {S0 : List Obj} (hW : ∀ b,
    lo ≤ b → W b = true) (v_0 : Readers_) (pv0_1 : XV) (pc0_1 : List Obj) (ph0_1 : SlN Reader.R 4 37 pv0_1 v_0.Readers pc0_1) (pv0_2 : XV) (pc0_2 : List Obj)
    (ph0_2 : SlF cI 1 3 pv0_2 v_0.Committed pc0_2) (pv0_3 : XV) (pc0_3 : List Obj) (ph0_3 : SlF cI 1 3 pv0_3 v_0.Ends pc0_3) (v_1 : GroupStep) (r : Readers_ × Bool)
    (hF : spec_l14Step v_0 v_1 = some r) (hS : Sep h lo (pc0_1 ++ (pc0_2 ++ (pc0_3 ++ (S0))))) : Ret E W 53 [.agg [.int .i64 v_0.Generation, pv0_1, pv0_2, pv0_3],
    .agg [.int .i64 v_1.Kind, .int .i64 v_1.K, .int .i64 v_1.Part, .int .i64 v_1.N]] h (fun v h' => ∃ rv0_1 rc0_1 rv0_2 rc0_2 rv0_3 rc0_3,
    v = .tup [.agg [.int .i64 r.1.Generation, rv0_1, rv0_2, rv0_3],
    .bool r.2] ∧ SlN Reader.R 4 37 rv0_1 r.1.Readers rc0_1 ∧ SlF cI 1 3 rv0_2 r.1.Committed rc0_2 ∧ SlF cI 1 3 rv0_3 r.1.Ends rc0_3 ∧ Sep h' lo (rc0_1 ++ (rc0_2 ++ (rc0_3 ++
    (S0))))) := by
  refine Ret.of (fn := x53) rfl (Run.of ?_)
  unfold spec_l14Step at hF
  have zf0 : argFr [.agg [.int .i64 v_0.Generation, pv0_1, pv0_2, pv0_3], .agg [.int .i64 v_1.Kind, .int .i64 v_1.K, .int .i64 v_1.Part,
      .int .i64 v_1.N]] 0 = .agg [.int .i64 v_0.Generation, pv0_1, pv0_2, pv0_3] := rfl
  have zf1 : argFr [.agg [.int .i64 v_0.Generation, pv0_1, pv0_2, pv0_3], .agg [.int .i64 v_1.Kind, .int .i64 v_1.K, .int .i64 v_1.Part,
      .int .i64 v_1.N]] 1 = .agg [.int .i64 v_1.Kind, .int .i64 v_1.K, .int .i64 v_1.Part, .int .i64 v_1.N] := rfl
  generalize argFr [.agg [.int .i64 v_0.Generation, pv0_1, pv0_2, pv0_3], .agg [.int .i64 v_1.Kind, .int .i64 v_1.K, .int .i64 v_1.Part, .int .i64 v_1.N]] = fr0 at zf0 zf1 ⊢
  simp only [x53, run_seq, run_reg, run_box, zf0, B0, reduceIte, reduceEqDiff]
  refine put2_boxC (cs := [.int .i64 v_0.Generation, pv0_1, pv0_2,
      pv0_3]) hS rfl rfl (all_c rfl (all_c (SlN.one ph0_1) (all_c (SlF.one ph0_2) (all_c (SlF.one ph0_3) all_n)))) (fun b1 h2 hS3 => ?_)
  simp only [run_box, zf1, B0, reduceIte, reduceEqDiff]
  refine put2_boxC (cs := [.int .i64 v_1.Kind, .int .i64 v_1.K, .int .i64 v_1.Part, .int .i64 v_1.N]) hS3 rfl rfl rfl (fun b5 h6 hS7 => ?_)
  simp only [run_new, B0, reduceIte, reduceEqDiff]
  refine put2_newC hS7 (fun b9 h10 hS11 => ?_)
  simp only [run_mv, run_ops_nil, B0, reduceIte, reduceEqDiff]
  refine frz_stepC (Sep.m1 hS11) hW (by simp only [B0, reduceIte, reduceEqDiff]) (fun h13 hS14 => ?_)
  simp only [run_frz_nil, x53_36, run_seq, run_reg, run_fa, put1_some, Nat.reduceAdd, Nat.zero_add, Nat.add_zero, xfa_ref, run_ld, B0, reduceIte, reduceEqDiff]
  refine put1_eq (v := .int .i64 v_1.K) rfl ?_
  simp only [run_bin, put1_some, xlss, run_mv, B0, reduceIte, reduceEqDiff]
  refine ops_j 7 (fun fr' h' => Sep h' lo ([Blk1 b1 [.int .i64 v_0.Generation, pv0_1, pv0_2, pv0_3] 29] ++ ([Blk1 b9 [.int .i64 0, .nil, .nil,
      .nil] 29] ++ (pc0_1 ++ (pc0_2 ++ (pc0_3 ++ (S0)))))) ∧ fr' 19 = .bool ((decide (v_1.K < 0)) || (decide
      ((List.length v_0.Readers : Int) ≤ v_1.K))) ∧ fr' 2 = .ptr b1 0 ∧ fr' 3 = .ref [.int .i64 v_1.Kind, .int .i64 v_1.K, .int .i64 v_1.Part,
      .int .i64 v_1.N] 0 ∧ fr' 4 = .ptr b9 0) (fun Q15 hN16 => ?_) ?_
  · simp only [List.take_succ_cons, List.take_zero]
    simp only [run_guard (g := 12), B0, reduceIte, reduceEqDiff]
    refine guard_split (t := (decide (v_1.K < 0))) (fun hg17 => ?_) (fun hg17 => ?_)
    · simp only [hg17, run_guard (g := 12), guard_off', run_pick, put1_some, xpick_t, run_ops_nil, run_nil, B0, reduceIte, reduceEqDiff]
      exact hN16 _ _ ⟨(Sep.m4 (Sep.m3 (Sep.m4 (Sep.m4 (Sep.m4 hS14))))), by rw [orT hg17]; simp only [B0, reduceIte, reduceEqDiff], by simp only [B0, reduceIte, reduceEqDiff],
          by simp only [B0, reduceIte, reduceEqDiff], by simp only [B0, reduceIte, reduceEqDiff]⟩
    · simp only [hg17, run_guard (g := 12), guard_false, run_fa, put1_some, Nat.reduceAdd, Nat.zero_add, Nat.add_zero, xfa_ref, run_ld, B0, reduceIte, reduceEqDiff]
      refine put1_eq (v := .int .i64 v_1.K) rfl ?_
      simp only [hg17, run_guard (g := 12), guard_false, run_fa, put1_some, Nat.reduceAdd, Nat.zero_add, Nat.add_zero, xfa_ptr, run_ld, B0, reduceIte, reduceEqDiff]
      refine put1_eq (v := pv0_1) ((xld_b (Sep.bk _ _ _ (Sep.m1 hS14))).trans rfl) ?_
      simp only [hg17, run_guard (g := 12), guard_false, run_len, put1_some, SlN.len ph0_1, run_bin, xgeq, run_pick, xpick_f, run_ops_nil, run_nil, B0, reduceIte, reduceEqDiff]
      exact hN16 _ _ ⟨(Sep.m4 (Sep.m3 (Sep.m4 (Sep.m4 (Sep.m4 hS14))))), by rw [orF hg17]; simp only [B0, reduceIte, reduceEqDiff], by simp only [B0, reduceIte, reduceEqDiff],
          by simp only [B0, reduceIte, reduceEqDiff], by simp only [B0, reduceIte, reduceEqDiff]⟩
  rintro fr18 h23 ⟨hS24, f19, f20, f21, f22⟩
  simp only [List.drop_succ_cons, List.drop_zero]
  simp only [f19, run_mv, B0, reduceIte, reduceEqDiff]
  refine ops_j 9 (fun fr' h' => Sep h' lo ([Blk1 b1 [.int .i64 v_0.Generation, pv0_1, pv0_2, pv0_3] 29] ++ ([Blk1 b9 [.int .i64 0, .nil, .nil,
      .nil] 29] ++ (pc0_1 ++ (pc0_2 ++ (pc0_3 ++ (S0)))))) ∧ fr' 29 = .bool (((decide (v_1.K < 0)) || (decide ((List.length v_0.Readers : Int) ≤ v_1.K))) || ((decide
      (v_1.Kind < 4)) && (decide (v_1.Part ≠ 0)))) ∧ fr' 2 = .ptr b1 0 ∧ fr' 3 = .ref [.int .i64 v_1.Kind, .int .i64 v_1.K, .int .i64 v_1.Part,
      .int .i64 v_1.N] 0 ∧ fr' 4 = .ptr b9 0) (fun Q25 hN26 => ?_) ?_
  · simp only [List.take_succ_cons, List.take_zero]
    simp only [run_guard (g := 20), B0, reduceIte, reduceEqDiff]
    refine guard_split (t := ((decide (v_1.K < 0)) || (decide ((List.length v_0.Readers : Int) ≤ v_1.K)))) (fun hg27 => ?_) (fun hg27 => ?_)
    · simp only [hg27, run_guard (g := 20), guard_off', run_guard (g := 24), guard_tup, run_pick, put1_some, xpick_t, run_ops_nil, run_nil, B0, reduceIte, reduceEqDiff]
      exact hN26 _ _ ⟨(Sep.m4 (Sep.m4 (Sep.m4 (Sep.m4 (Sep.m4 hS24))))), by rw [orT hg27]; simp only [B0, reduceIte, reduceEqDiff], by simp only [f20, B0, reduceIte,
          reduceEqDiff], by simp only [f21, B0, reduceIte, reduceEqDiff], by simp only [f22, B0, reduceIte, reduceEqDiff]⟩
    · simp only [hg27, run_guard (g := 20), guard_false, f21, run_fa, put1_some, Nat.reduceAdd, Nat.zero_add, Nat.add_zero, xfa_ref, run_ld, B0, reduceIte, reduceEqDiff]
      refine put1_eq (v := .int .i64 v_1.Kind) rfl ?_
      simp only [hg27, run_guard (g := 20), guard_false, run_bin, put1_some, xlss, run_mv, B0, reduceIte, reduceEqDiff]
      refine ops_j 4 (fun fr' h' => Sep h' lo ([Blk1 b1 [.int .i64 v_0.Generation, pv0_1, pv0_2, pv0_3] 29] ++ ([Blk1 b9 [.int .i64 0, .nil, .nil,
          .nil] 29] ++ (pc0_1 ++ (pc0_2 ++ (pc0_3 ++ (S0)))))) ∧ fr' 28 = .bool ((decide (v_1.Kind < 4)) && (decide
          (v_1.Part ≠ 0))) ∧ fr' 2 = .ptr b1 0 ∧ fr' 3 = .ref [.int .i64 v_1.Kind, .int .i64 v_1.K, .int .i64 v_1.Part,
          .int .i64 v_1.N] 0 ∧ fr' 4 = .ptr b9 0 ∧ fr' 20 = .bool ((decide (v_1.K < 0)) || (decide ((List.length v_0.Readers : Int) ≤ v_1.K)))) (fun Q28 hN29 => ?_) ?_
      · simp only [List.take_succ_cons, List.take_zero]
        simp only [run_guard (g := 24), B0, reduceIte, reduceEqDiff]
        refine guard_split (t := (decide (v_1.Kind < 4))) (fun hg30 => ?_) (fun hg30 => ?_)
        · simp only [hg30, run_guard (g := 24), guard_true, f21, run_fa, put1_some, Nat.reduceAdd, Nat.zero_add, Nat.add_zero, xfa_ref, run_ld, B0, reduceIte, reduceEqDiff]
          refine put1_eq (v := .int .i64 v_1.Part) rfl ?_
          simp only [hg30, run_guard (g := 24), guard_true, run_bin, put1_some, xneq, hg27, run_guard (g := 20), guard_false, run_pick, xpick_t, run_ops_nil, run_nil, B0,
              reduceIte, reduceEqDiff]
          exact hN29 _ _ ⟨(Sep.m4 (Sep.m4 (Sep.m4 (Sep.m4 (Sep.m4 hS24))))), by rw [andT hg30]; simp only [B0, reduceIte, reduceEqDiff], by simp only [f20, B0, reduceIte,
              reduceEqDiff], by simp only [f21, B0, reduceIte, reduceEqDiff], by simp only [f22, B0, reduceIte, reduceEqDiff], by simp only [hg27, B0, reduceIte, reduceEqDiff]⟩
        · simp only [hg30, run_guard (g := 24), guard_off, hg27, run_guard (g := 20), guard_false, run_pick, put1_some, xpick_f, run_ops_nil, run_nil, B0, reduceIte, reduceEqDiff]
          exact hN29 _ _ ⟨(Sep.m4 (Sep.m4 (Sep.m4 (Sep.m4 (Sep.m4 hS24))))), by rw [andF hg30]; simp only [B0, reduceIte, reduceEqDiff], by simp only [f20, B0, reduceIte,
              reduceEqDiff], by simp only [f21, B0, reduceIte, reduceEqDiff], by simp only [f22, B0, reduceIte, reduceEqDiff], by simp only [hg27, B0, reduceIte, reduceEqDiff]⟩
      rintro fr31 h37 ⟨hS38, f32, f33, f34, f35, f36⟩
      simp only [List.drop_succ_cons, List.drop_zero]
      simp only [f36, hg27, run_pick, put1_some, xpick_f, f32, run_ops_nil, run_nil, B0, reduceIte, reduceEqDiff]
      exact hN26 _ _ ⟨(Sep.m4 (Sep.m4 (Sep.m4 (Sep.m4 (Sep.m4 hS38))))), by rw [orF hg27]; simp only [B0, reduceIte, reduceEqDiff], by simp only [f33, B0, reduceIte,
          reduceEqDiff], by simp only [f34, B0, reduceIte, reduceEqDiff], by simp only [f35, B0, reduceIte, reduceEqDiff]⟩
  rintro fr39 h44 ⟨hS45, f40, f41, f42, f43⟩
  simp only [List.drop_succ_cons, List.drop_zero]
  simp only [f40, run_mv, B0, reduceIte, reduceEqDiff]
  refine ops_j 9 (fun fr' h' => Sep h' lo ([Blk1 b1 [.int .i64 v_0.Generation, pv0_1, pv0_2, pv0_3] 29] ++ ([Blk1 b9 [.int .i64 0, .nil, .nil,
      .nil] 29] ++ (pc0_1 ++ (pc0_2 ++ (pc0_3 ++ (S0)))))) ∧ fr' 39 = .bool ((((decide (v_1.K < 0)) || (decide ((List.length v_0.Readers : Int) ≤ v_1.K))) || ((decide
      (v_1.Kind < 4)) && (decide (v_1.Part ≠ 0)))) || ((decide (v_1.Kind ≠ 4)) && (decide (v_1.N ≠ 0)))) ∧ fr' 2 = .ptr b1 0 ∧ fr' 3 = .ref [.int .i64 v_1.Kind, .int .i64 v_1.K,
      .int .i64 v_1.Part, .int .i64 v_1.N] 0 ∧ fr' 4 = .ptr b9 0) (fun Q46 hN47 => ?_) ?_
  · simp only [List.take_succ_cons, List.take_zero]
    simp only [run_guard (g := 30), B0, reduceIte, reduceEqDiff]
    refine guard_split (t := (((decide (v_1.K < 0)) || (decide ((List.length v_0.Readers : Int) ≤ v_1.K))) || ((decide (v_1.Kind < 4)) && (decide (v_1.Part ≠ 0)))))
        (fun hg48 => ?_) (fun hg48 => ?_)
    · simp only [hg48, run_guard (g := 30), guard_off', run_guard (g := 34), guard_tup, run_pick, put1_some, xpick_t, run_ops_nil, run_nil, B0, reduceIte, reduceEqDiff]
      exact hN47 _ _ ⟨(Sep.m4 (Sep.m4 (Sep.m4 (Sep.m4 (Sep.m4 hS45))))), by rw [orT hg48]; simp only [B0, reduceIte, reduceEqDiff], by simp only [f41, B0, reduceIte,
          reduceEqDiff], by simp only [f42, B0, reduceIte, reduceEqDiff], by simp only [f43, B0, reduceIte, reduceEqDiff]⟩
    · simp only [hg48, run_guard (g := 30), guard_false, f42, run_fa, put1_some, Nat.reduceAdd, Nat.zero_add, Nat.add_zero, xfa_ref, run_ld, B0, reduceIte, reduceEqDiff]
      refine put1_eq (v := .int .i64 v_1.Kind) rfl ?_
      simp only [hg48, run_guard (g := 30), guard_false, run_bin, put1_some, xneq, run_mv, B0, reduceIte, reduceEqDiff]
      refine ops_j 4 (fun fr' h' => Sep h' lo ([Blk1 b1 [.int .i64 v_0.Generation, pv0_1, pv0_2, pv0_3] 29] ++ ([Blk1 b9 [.int .i64 0, .nil, .nil,
          .nil] 29] ++ (pc0_1 ++ (pc0_2 ++ (pc0_3 ++ (S0)))))) ∧ fr' 38 = .bool ((decide (v_1.Kind ≠ 4)) && (decide
          (v_1.N ≠ 0))) ∧ fr' 2 = .ptr b1 0 ∧ fr' 3 = .ref [.int .i64 v_1.Kind, .int .i64 v_1.K, .int .i64 v_1.Part,
          .int .i64 v_1.N] 0 ∧ fr' 4 = .ptr b9 0 ∧ fr' 30 = .bool (((decide (v_1.K < 0)) || (decide ((List.length v_0.Readers : Int) ≤ v_1.K))) || ((decide (v_1.Kind < 4)) &&
          (decide (v_1.Part ≠ 0))))) (fun Q49 hN50 => ?_) ?_
      · simp only [List.take_succ_cons, List.take_zero]
        simp only [run_guard (g := 34), B0, reduceIte, reduceEqDiff]
        refine guard_split (t := (decide (v_1.Kind ≠ 4))) (fun hg51 => ?_) (fun hg51 => ?_)
        · simp only [hg51, run_guard (g := 34), guard_true, f42, run_fa, put1_some, Nat.reduceAdd, Nat.zero_add, Nat.add_zero, xfa_ref, run_ld, B0, reduceIte, reduceEqDiff]
          refine put1_eq (v := .int .i64 v_1.N) rfl ?_
          simp only [hg51, run_guard (g := 34), guard_true, run_bin, put1_some, xneq, hg48, run_guard (g := 30), guard_false, run_pick, xpick_t, run_ops_nil, run_nil, B0,
              reduceIte, reduceEqDiff]
          exact hN50 _ _ ⟨(Sep.m4 (Sep.m4 (Sep.m4 (Sep.m4 (Sep.m4 hS45))))), by rw [andT hg51]; simp only [B0, reduceIte, reduceEqDiff], by simp only [f41, B0, reduceIte,
              reduceEqDiff], by simp only [f42, B0, reduceIte, reduceEqDiff], by simp only [f43, B0, reduceIte, reduceEqDiff], by simp only [hg48, B0, reduceIte, reduceEqDiff]⟩
        · simp only [hg51, run_guard (g := 34), guard_off, hg48, run_guard (g := 30), guard_false, run_pick, put1_some, xpick_f, run_ops_nil, run_nil, B0, reduceIte, reduceEqDiff]
          exact hN50 _ _ ⟨(Sep.m4 (Sep.m4 (Sep.m4 (Sep.m4 (Sep.m4 hS45))))), by rw [andF hg51]; simp only [B0, reduceIte, reduceEqDiff], by simp only [f41, B0, reduceIte,
              reduceEqDiff], by simp only [f42, B0, reduceIte, reduceEqDiff], by simp only [f43, B0, reduceIte, reduceEqDiff], by simp only [hg48, B0, reduceIte, reduceEqDiff]⟩
      rintro fr52 h58 ⟨hS59, f53, f54, f55, f56, f57⟩
      simp only [List.drop_succ_cons, List.drop_zero]
      simp only [f57, hg48, run_pick, put1_some, xpick_f, f53, run_ops_nil, run_nil, B0, reduceIte, reduceEqDiff]
      exact hN47 _ _ ⟨(Sep.m4 (Sep.m4 (Sep.m4 (Sep.m4 (Sep.m4 hS59))))), by rw [orF hg48]; simp only [B0, reduceIte, reduceEqDiff], by simp only [f54, B0, reduceIte,
          reduceEqDiff], by simp only [f55, B0, reduceIte, reduceEqDiff], by simp only [f56, B0, reduceIte, reduceEqDiff]⟩
  rintro fr60 h65 ⟨hS66, f61, f62, f63, f64⟩
  simp only [List.drop_succ_cons, List.drop_zero]
  simp only [run_ops_nil, x53_1, f61, run_cond, B0, reduceIte, reduceEqDiff]
  refine cond_split (t := ((((decide (v_1.K < 0)) || (decide ((List.length v_0.Readers : Int) ≤ v_1.K))) || ((decide (v_1.Kind < 4)) && (decide (v_1.Part ≠ 0)))) || ((decide
      (v_1.Kind ≠ 4)) && (decide (v_1.N ≠ 0))))) (fun hc67 => ?_) (fun hc67 => ?_)
  · rw [iteT hc67] at hF
    simp only [run_seq, run_reg, f62, run_ld, B0, reduceIte, reduceEqDiff]
    refine put1_eq (v := .agg [.int .i64 v_0.Generation, pv0_1, pv0_2, pv0_3]) ((xld_bs (Sep.bk _ _ _ hS66)).trans rfl) ?_
    simp only [f64, run_st, B0, reduceIte, reduceEqDiff]
    refine put2_stCx (us := [.int .i64 v_0.Generation, pv0_1, pv0_2, pv0_3]) rfl (cs' := [.int .i64 v_0.Generation, pv0_1, pv0_2,
        pv0_3]) (Sep.m1 hS66) hW rfl (all_c rfl (all_c (SlN.one ph0_1) (all_c (SlF.one ph0_2) (all_c (SlF.one ph0_3) all_n)))) (Nat.le_of_ble_eq_true rfl) rfl (fun h68 hS69 => ?_)
    simp only [run_mv, run_ops_nil, run_ret, B0, reduceIte, reduceEqDiff]
    have he := some_inj hF
    subst he
    refine end_ret_m (mapM1 (res_cell (bb := b9) (oo := 0) (v := .agg [.int .i64 v_0.Generation, pv0_1, pv0_2, pv0_3]) (by simp only [f64, B0, reduceIte,
        reduceEqDiff]) ((xld_bs (Sep.bk _ _ _ hS69)).trans rfl)) (mapM1 (res_t (v := .bool false) (by simp only [B0, reduceIte, reduceEqDiff])) mapM0)) ?_
    exact ⟨pv0_1, pc0_1, pv0_2, pc0_2, pv0_3, pc0_3, by first | trivial | rfl, ph0_1, ph0_2, ph0_3, (Sep.m2 (Sep.m2 (Sep.m2 (Sep.dc ((Sep.dc (hS69)))))))⟩
  rw [iteF hc67] at hF
  simp only [run_skip, x53_35, run_seq, run_reg, f62, run_fa, put1_some, Nat.reduceAdd, Nat.zero_add, Nat.add_zero, xfa_ptr, run_ld, B0, reduceIte, reduceEqDiff]
  refine put1_eq (v := pv0_1) ((xld_b (Sep.bk _ _ _ hS66)).trans rfl) ?_
  simp only [f63, run_fa, put1_some, Nat.reduceAdd, Nat.zero_add, Nat.add_zero, xfa_ref, run_ld, B0, reduceIte, reduceEqDiff]
  refine put1_eq (v := .int .i64 v_1.K) rfl ?_
  obtain ⟨x70, hx71, hF72⟩ := bind_some' hF
  simp only [run_ia, B0, reduceIte, reduceEqDiff]
  obtain ⟨b73, hb74⟩ := SlN.isrow ph0_1 (geti_ne hx71)
  refine put1_eq (SlN.ia ph0_1 hb74 hx71) ?_
  obtain ⟨c75, cs76, os77, hv78, hR79, hS80⟩ := SlG.opn (SlN.toG ph0_1 hb74 Reader.RO.len) hx71 hk_nil Reader.RO.len (Sep.m2 hS66)
  obtain ⟨v82, c83, v86, c87, hv84, hv88, rfl, rfl⟩ := hR79
  have hS81 := Sep.no2 hS80
  simp only [run_ld, B0, reduceIte, reduceEqDiff]
  refine put1_eq (v := .agg [.bool x70.In, .int .i64 x70.Generation, v82, v86]) ((SlG.lds (o := 0) hv78 rfl hx71 hS81 (Nat.le_of_ble_eq_true rfl)).trans rfl) ?_
  simp only [run_new, B0, reduceIte, reduceEqDiff]
  refine put2_newC hS81 (fun b90 h91 hS92 => ?_)
  simp only [run_st, B0, reduceIte, reduceEqDiff]
  refine put2_stCx (us := [.bool x70.In, .int .i64 x70.Generation, v82, v86]) rfl (cs' := [.bool x70.In, .int .i64 x70.Generation, v82,
      v86]) hS92 hW rfl (all_c rfl (all_c rfl (all_c (SlF.one hv84) (all_c (SlF.one hv88) all_n)))) (Nat.le_of_ble_eq_true rfl) rfl (fun h94 hS95 => ?_)
  simp only [run_ops_nil, x53_34, run_seq, run_block, x53_32, run_reg, f63, run_fa, put1_some, Nat.reduceAdd, Nat.zero_add, Nat.add_zero, xfa_ref, run_ld, B0, reduceIte,
      reduceEqDiff]
  refine put1_eq (v := .int .i64 v_1.Kind) rfl ?_
  simp only [run_bin, put1_some, xeql, run_mv, B0, reduceIte, reduceEqDiff]
  refine ops_j 4 (fun fr' h' => Sep h' lo ([Blk1 b1 [.int .i64 v_0.Generation, pv0_1, pv0_2, pv0_3] 29] ++ ([Blk1 b9 [.int .i64 0, .nil, .nil,
      .nil] 29] ++ ([Blk1 b90 [.bool x70.In, .int .i64 x70.Generation, v82,
      v86] 37] ++ (c75 ++ (pc0_2 ++ (pc0_3 ++ (c83 ++ (c87 ++ (S0))))))))) ∧ fr' 56 = .bool ((decide (v_1.Kind = 1)) &&
      (!x70.In)) ∧ fr' 2 = .ptr b1 0 ∧ fr' 3 = .ref [.int .i64 v_1.Kind, .int .i64 v_1.K, .int .i64 v_1.Part,
      .int .i64 v_1.N] 0 ∧ fr' 4 = .ptr b9 0 ∧ fr' 6 = .ptr b90 0) (fun Q96 hN97 => ?_) ?_
  · simp only [List.take_succ_cons, List.take_zero]
    simp only [run_guard (g := 52), B0, reduceIte, reduceEqDiff]
    refine guard_split (t := (decide (v_1.Kind = 1))) (fun hg98 => ?_) (fun hg98 => ?_)
    · simp only [hg98, run_guard (g := 52), guard_true, run_fa, put1_some, Nat.reduceAdd, Nat.zero_add, Nat.add_zero, xfa_ptr, run_ld, B0, reduceIte, reduceEqDiff]
      refine put1_eq (v := .bool x70.In) ((xld_b (Sep.bk _ _ _ hS95)).trans rfl) ?_
      simp only [hg98, run_guard (g := 52), guard_true, run_un, put1_some, xnot, run_pick, xpick_t, run_ops_nil, run_nil, B0, reduceIte, reduceEqDiff]
      exact hN97 _ _ ⟨(Sep.m7 (Sep.m7 (Sep.m5 (Sep.m5 (Sep.m7 (Sep.m7 (Sep.m3 (Sep.m3 hS95)))))))), by rw [andT hg98]; simp only [B0, reduceIte, reduceEqDiff], by simp only [f62,
          B0, reduceIte, reduceEqDiff], by simp only [f63, B0, reduceIte, reduceEqDiff], by simp only [f64, B0, reduceIte, reduceEqDiff], by simp only [B0, reduceIte,
          reduceEqDiff]⟩
    · simp only [hg98, run_guard (g := 52), guard_off, run_pick, put1_some, xpick_f, run_ops_nil, run_nil, B0, reduceIte, reduceEqDiff]
      exact hN97 _ _ ⟨(Sep.m7 (Sep.m7 (Sep.m5 (Sep.m5 (Sep.m7 (Sep.m7 (Sep.m3 (Sep.m3 hS95)))))))), by rw [andF hg98]; simp only [B0, reduceIte, reduceEqDiff], by simp only [f62,
          B0, reduceIte, reduceEqDiff], by simp only [f63, B0, reduceIte, reduceEqDiff], by simp only [f64, B0, reduceIte, reduceEqDiff], by simp only [B0, reduceIte,
          reduceEqDiff]⟩
  rintro fr99 h105 ⟨hS106, f100, f101, f102, f103, f104⟩
  simp only [List.drop_succ_cons, List.drop_zero]
  simp only [f100, run_mv, B0, reduceIte, reduceEqDiff]
  refine ops_j 4 (fun fr' h' => Sep h' lo ([Blk1 b1 [.int .i64 v_0.Generation, pv0_1, pv0_2, pv0_3] 29] ++ ([Blk1 b9 [.int .i64 0, .nil, .nil,
      .nil] 29] ++ ([Blk1 b90 [.bool x70.In, .int .i64 x70.Generation, v82,
      v86] 37] ++ (c75 ++ (pc0_2 ++ (pc0_3 ++ (c83 ++ (c87 ++ (S0))))))))) ∧ fr' 61 = .bool (((decide (v_1.Kind = 1)) && (!x70.In)) && (decide
      (v_0.Generation < 1000))) ∧ fr' 2 = .ptr b1 0 ∧ fr' 3 = .ref [.int .i64 v_1.Kind, .int .i64 v_1.K, .int .i64 v_1.Part,
      .int .i64 v_1.N] 0 ∧ fr' 4 = .ptr b9 0 ∧ fr' 6 = .ptr b90 0) (fun Q107 hN108 => ?_) ?_
  · simp only [List.take_succ_cons, List.take_zero]
    simp only [run_guard (g := 57), B0, reduceIte, reduceEqDiff]
    refine guard_split (t := ((decide (v_1.Kind = 1)) && (!x70.In))) (fun hg109 => ?_) (fun hg109 => ?_)
    · simp only [hg109, run_guard (g := 57), guard_true, f101, run_fa, put1_some, Nat.reduceAdd, Nat.zero_add, Nat.add_zero, xfa_ptr, run_ld, B0, reduceIte, reduceEqDiff]
      refine put1_eq (v := .int .i64 v_0.Generation) ((xld_b (Sep.bk _ _ _ hS106)).trans rfl) ?_
      simp only [hg109, run_guard (g := 57), guard_true, run_bin, put1_some, xlss, run_pick, xpick_t, run_ops_nil, run_nil, B0, reduceIte, reduceEqDiff]
      exact hN108 _ _ ⟨(Sep.m7 (Sep.m7 (Sep.m7 (Sep.m7 (Sep.m7 (Sep.m7 (Sep.m7 (Sep.m7 hS106)))))))), by rw [andT hg109]; simp only [B0, reduceIte, reduceEqDiff],
          by simp only [f101, B0, reduceIte, reduceEqDiff], by simp only [f102, B0, reduceIte, reduceEqDiff], by simp only [f103, B0, reduceIte, reduceEqDiff], by simp only [f104,
          B0, reduceIte, reduceEqDiff]⟩
    · simp only [hg109, run_guard (g := 57), guard_off, run_pick, put1_some, xpick_f, run_ops_nil, run_nil, B0, reduceIte, reduceEqDiff]
      exact hN108 _ _ ⟨(Sep.m7 (Sep.m7 (Sep.m7 (Sep.m7 (Sep.m7 (Sep.m7 (Sep.m7 (Sep.m7 hS106)))))))), by rw [andF hg109]; simp only [B0, reduceIte, reduceEqDiff],
          by simp only [f101, B0, reduceIte, reduceEqDiff], by simp only [f102, B0, reduceIte, reduceEqDiff], by simp only [f103, B0, reduceIte, reduceEqDiff], by simp only [f104,
          B0, reduceIte, reduceEqDiff]⟩
  rintro fr110 h116 ⟨hS117, f111, f112, f113, f114, f115⟩
  simp only [List.drop_succ_cons, List.drop_zero]
  simp only [f111, run_mv, run_ops_nil, x53_31, run_cond, B0, reduceIte, reduceEqDiff]
  obtain ⟨oc131, hX132, hk133⟩ := jn_some hF72
  refine cond_j (t := (((decide (v_1.Kind = 1)) && (!x70.In)) && (decide (v_0.Generation < 1000)))) (fun fr' h' => ∃ s, oc131 = .nxt s ∧ ∃ v121 c122 v125 c126 c129,
      fr' 2 = .ptr b1 0 ∧ fr' 3 = .ref [.int .i64 v_1.Kind, .int .i64 v_1.K, .int .i64 v_1.Part,
      .int .i64 v_1.N] 0 ∧ fr' 4 = .ptr b9 0 ∧ fr' 6 = .ptr b90 0 ∧ SlF cI 1 3 v121 s.2.1.Share c122 ∧ SlF cI 1 3 v125 s.2.1.Read c126 ∧ SlF cI 1 3 pv0_2 s.2.2 c129 ∧ Sep h' lo
      ([Blk1 b1 [.int .i64 s.1.Generation, pv0_1, pv0_2, pv0_3] 29] ++ ([Blk1 b9 [.int .i64 0, .nil, .nil, .nil] 29] ++ ([Blk1 b90 [.bool s.2.1.In, .int .i64 s.2.1.Generation,
      v121, v125] 37] ++ (c75 ++ (c129 ++ (pc0_3 ++ (c122 ++ (c126 ++ (S0)))))))))) (fun Q134 hN135 hR136 hE137 => ⟨fun hc138 => ?_, fun hc138 => ?_⟩) ?_
  · rw [iteT hc138] at hX132
    simp only [x53_3, run_seq, run_reg, f112, run_fa, put1_some, Nat.reduceAdd, Nat.zero_add, Nat.add_zero, xfa_ptr, run_ld, B0, reduceIte, reduceEqDiff]
    refine put1_eq (v := .int .i64 v_0.Generation) ((xld_b (Sep.bk _ _ _ hS117)).trans rfl) ?_
    simp only [run_bin, put1_some, xadd, f112, run_fa, Nat.reduceAdd, Nat.zero_add, Nat.add_zero, xfa_ptr, run_st, B0, reduceIte, reduceEqDiff]
    refine put2_stCx (us := [.int .i64 (IntKind.wrap .i64 (v_0.Generation + 1))]) rfl (cs' := [.int .i64 (IntKind.wrap .i64 (v_0.Generation + 1)), pv0_1, pv0_2,
        pv0_3]) hS117 hW rfl rfl (Nat.le_of_ble_eq_true rfl) rfl (fun h139 hS140 => ?_)
    simp only [run_ops_nil, x53_2, run_reg, f112, run_fa, put1_some, Nat.reduceAdd, Nat.zero_add, Nat.add_zero, xfa_ptr, run_ld, B0, reduceIte, reduceEqDiff]
    refine put1_eq (v := pv0_3) ((xld_b (Sep.bk _ _ _ hS140)).trans rfl) ?_
    obtain ⟨l141, hx142, hF143⟩ := bind_some' hX132
    simp only [run_len, put1_some, SlF.plen ph0_3, run_mkS, B0, reduceIte, reduceEqDiff]
    refine put2_mkSF (f := cI) (z := (0 : Int)) hS140 hx142 rfl (fun v144 c145 h146 hv147 hS148 => ?_)
    simp only [run_build, evp, B0, reduceIte, reduceEqDiff]
    refine put1_eq (v := .agg [.bool true, .int .i64 0, .nil, v144]) (pbuild_some (fill1 (us := [.bool true]) (vs := [.bool true, .int .i64 0, .nil,
        .nil]) rfl rfl (Nat.le_of_ble_eq_true rfl) rfl rfl (fill1 (us := [v144]) (vs := [.bool true, .int .i64 0, .nil,
        v144]) (cells_one (SlF.one hv147)) rfl (Nat.le_of_ble_eq_true rfl) (all_c (SlF.one hv147) all_n) rfl fill0))) ?_
    simp only [f115, run_st, B0, reduceIte, reduceEqDiff]
    refine put2_stCx (us := [.bool true, .int .i64 0, .nil, v144]) rfl (cs' := [.bool true, .int .i64 0, .nil,
        v144]) (Sep.m3 hS148) hW rfl (all_c rfl (all_c rfl (all_c rfl (all_c (SlF.one hv147) all_n)))) (Nat.le_of_ble_eq_true rfl) rfl (fun h150 hS151 => ?_)
    simp only [run_ops_nil, run_nil, B0, reduceIte, reduceEqDiff]
    have e152 := some_inj hF143
    exact hN135 _ _ ⟨_, e152.symm, .nil, [], v144, c145, pc0_2, by simp only [f112, B0, reduceIte, reduceEqDiff], by simp only [f113, B0, reduceIte, reduceEqDiff],
        by simp only [f114, B0, reduceIte, reduceEqDiff], by simp only [f115, B0, reduceIte, reduceEqDiff], SlF.nil, hv147, ph0_2,
        ((Sep.m6 (Sep.m6 (Sep.m4 (Sep.m6 (Sep.m6 (Sep.m6 (Sep.m1 (Sep.dc (Sep.m7 (Sep.dc (Sep.m7 hS151))))))))))) : Sep _ lo ([Blk1 b1 [.int .i64 (IntKind.wrap .i64
        (v_0.Generation + 1)), pv0_1, pv0_2, pv0_3] 29] ++ ([Blk1 b9 [.int .i64 0, .nil, .nil, .nil] 29] ++ ([Blk1 b90 [.bool true, .int .i64 0, .nil,
        v144] 37] ++ (c75 ++ (pc0_2 ++ (pc0_3 ++ (c145 ++ (S0)))))))))⟩
  · rw [iteF hc138] at hX132
    simp only [x53_30, run_seq, run_reg, f115, run_fa, put1_some, Nat.reduceAdd, Nat.zero_add, Nat.add_zero, xfa_ptr, run_ld, B0, reduceIte, reduceEqDiff]
    refine put1_eq (v := .bool x70.In) ((xld_b (Sep.bk _ _ _ (Sep.m2 hS117))).trans rfl) ?_
    simp only [run_un, put1_some, xnot, run_mv, run_ops_nil, x53_29, run_cond, B0, reduceIte, reduceEqDiff]
    refine cond_split (t := (!x70.In)) (fun hc153 => ?_) (fun hc153 => ?_)
    · rw [iteT hc153] at hX132
      simp only [run_seq, run_reg, f112, run_ld, B0, reduceIte, reduceEqDiff]
      refine put1_eq (v := .agg [.int .i64 v_0.Generation, pv0_1, pv0_2, pv0_3]) ((xld_bs (Sep.bk _ _ _ hS117)).trans rfl) ?_
      simp only [f114, run_st, B0, reduceIte, reduceEqDiff]
      refine put2_stCx (us := [.int .i64 v_0.Generation, pv0_1, pv0_2, pv0_3]) rfl (cs' := [.int .i64 v_0.Generation, pv0_1, pv0_2,
          pv0_3]) (Sep.m1 hS117) hW rfl (all_c rfl (all_c (SlG.one hv78) (all_c (SlF.one ph0_2) (all_c (SlF.one ph0_3) all_n)))) (Nat.le_of_ble_eq_true rfl) rfl
          (fun h154 hS155 => ?_)
      simp only [run_mv, run_ops_nil, run_ret, B0, reduceIte, reduceEqDiff]
      have e156 := some_inj hX132
      subst e156
      have hk133' := hk133
      dsimp only [jnO] at hk133'
      apply hR136
      obtain ⟨c157, hv158, hS159⟩ := SlG.cls0 (c := c75) (os := c83 ++ (c87)) hv78 rfl hx71 hk_nil (Reader.RI (x := x70) hv84 hv88) (Sep.ni2 (c1 := c83) (c2 := c87) (Sep.m5
          (Sep.m7 (Sep.m7 hS155))))
      have hv160 := SlG.toN hv158
      have he := some_inj hk133'
      subst he
      refine end_ret_m (mapM1 (res_cell (bb := b9) (oo := 0) (v := .agg [.int .i64 v_0.Generation, pv0_1, pv0_2, pv0_3]) (by simp only [f114, B0, reduceIte,
          reduceEqDiff]) ((xld_bs (Sep.bk _ _ _ (Sep.m1 hS159))).trans rfl)) (mapM1 (res_t (v := .bool false) (by simp only [B0, reduceIte, reduceEqDiff])) mapM0)) ?_
      exact ⟨pv0_1, c157, pv0_2, pc0_2, pv0_3, pc0_3, by first | trivial | rfl, hv160, ph0_2, ph0_3,
          (Sep.m2 (Sep.m2 (Sep.m2 (Sep.dc (Sep.m1 (Sep.dc (Sep.m1 (Sep.dc (Sep.m1 hS159)))))))))⟩
    rw [iteF hc153] at hX132
    simp only [x53_28, run_seq, run_reg, f113, run_fa, put1_some, Nat.reduceAdd, Nat.zero_add, Nat.add_zero, xfa_ref, run_ld, B0, reduceIte, reduceEqDiff]
    refine put1_eq (v := .int .i64 v_1.Kind) rfl ?_
    simp only [run_bin, put1_some, xeql, run_mv, B0, reduceIte, reduceEqDiff]
    refine ops_j 4 (fun fr' h' => Sep h' lo ([Blk1 b1 [.int .i64 v_0.Generation, pv0_1, pv0_2, pv0_3] 29] ++ ([Blk1 b9 [.int .i64 0, .nil, .nil,
        .nil] 29] ++ ([Blk1 b90 [.bool x70.In, .int .i64 x70.Generation, v82,
        v86] 37] ++ (c75 ++ (pc0_2 ++ (pc0_3 ++ (c83 ++ (c87 ++ (S0))))))))) ∧ fr' 84 = .bool ((decide (v_1.Kind = 2)) && (decide
        (v_0.Generation < 1000))) ∧ fr' 2 = .ptr b1 0 ∧ fr' 3 = .ref [.int .i64 v_1.Kind, .int .i64 v_1.K, .int .i64 v_1.Part,
        .int .i64 v_1.N] 0 ∧ fr' 4 = .ptr b9 0 ∧ fr' 6 = .ptr b90 0) (fun Q161 hN162 => ?_) ?_
    · simp only [List.take_succ_cons, List.take_zero]
      simp only [run_guard (g := 80), B0, reduceIte, reduceEqDiff]
      refine guard_split (t := (decide (v_1.Kind = 2))) (fun hg163 => ?_) (fun hg163 => ?_)
      · simp only [hg163, run_guard (g := 80), guard_true, f112, run_fa, put1_some, Nat.reduceAdd, Nat.zero_add, Nat.add_zero, xfa_ptr, run_ld, B0, reduceIte, reduceEqDiff]
        refine put1_eq (v := .int .i64 v_0.Generation) ((xld_b (Sep.bk _ _ _ hS117)).trans rfl) ?_
        simp only [hg163, run_guard (g := 80), guard_true, run_bin, put1_some, xlss, run_pick, xpick_t, run_ops_nil, run_nil, B0, reduceIte, reduceEqDiff]
        exact hN162 _ _ ⟨(Sep.m7 (Sep.m7 (Sep.m7 (Sep.m7 (Sep.m7 (Sep.m7 (Sep.m7 (Sep.m7 hS117)))))))), by rw [andT hg163]; simp only [B0, reduceIte, reduceEqDiff],
            by simp only [f112, B0, reduceIte, reduceEqDiff], by simp only [f113, B0, reduceIte, reduceEqDiff], by simp only [f114, B0, reduceIte, reduceEqDiff],
            by simp only [f115, B0, reduceIte, reduceEqDiff]⟩
      · simp only [hg163, run_guard (g := 80), guard_off, run_pick, put1_some, xpick_f, run_ops_nil, run_nil, B0, reduceIte, reduceEqDiff]
        exact hN162 _ _ ⟨(Sep.m7 (Sep.m7 (Sep.m7 (Sep.m7 (Sep.m7 (Sep.m7 (Sep.m7 (Sep.m7 hS117)))))))), by rw [andF hg163]; simp only [B0, reduceIte, reduceEqDiff],
            by simp only [f112, B0, reduceIte, reduceEqDiff], by simp only [f113, B0, reduceIte, reduceEqDiff], by simp only [f114, B0, reduceIte, reduceEqDiff],
            by simp only [f115, B0, reduceIte, reduceEqDiff]⟩
    rintro fr164 h170 ⟨hS171, f165, f166, f167, f168, f169⟩
    simp only [List.drop_succ_cons, List.drop_zero]
    simp only [f165, run_mv, run_ops_nil, x53_27, run_cond, B0, reduceIte, reduceEqDiff]
    refine cond_split (t := ((decide (v_1.Kind = 2)) && (decide (v_0.Generation < 1000)))) (fun hc172 => ?_) (fun hc172 => ?_)
    · rw [iteT hc172] at hX132
      simp only [x53_5, run_seq, run_reg, f166, run_fa, put1_some, Nat.reduceAdd, Nat.zero_add, Nat.add_zero, xfa_ptr, run_ld, B0, reduceIte, reduceEqDiff]
      refine put1_eq (v := .int .i64 v_0.Generation) ((xld_b (Sep.bk _ _ _ hS171)).trans rfl) ?_
      simp only [run_bin, put1_some, xadd, f166, run_fa, Nat.reduceAdd, Nat.zero_add, Nat.add_zero, xfa_ptr, run_st, B0, reduceIte, reduceEqDiff]
      refine put2_stCx (us := [.int .i64 (IntKind.wrap .i64 (v_0.Generation + 1))]) rfl (cs' := [.int .i64 (IntKind.wrap .i64 (v_0.Generation + 1)), pv0_1, pv0_2,
          pv0_3]) hS171 hW rfl rfl (Nat.le_of_ble_eq_true rfl) rfl (fun h173 hS174 => ?_)
      simp only [run_ops_nil, x53_4, run_reg, f166, run_fa, put1_some, Nat.reduceAdd, Nat.zero_add, Nat.add_zero, xfa_ptr, run_ld, B0, reduceIte, reduceEqDiff]
      refine put1_eq (v := pv0_3) ((xld_b (Sep.bk _ _ _ hS174)).trans rfl) ?_
      obtain ⟨l175, hx176, hF177⟩ := bind_some' hX132
      simp only [run_len, put1_some, SlF.plen ph0_3, run_mkS, B0, reduceIte, reduceEqDiff]
      refine put2_mkSF (f := cI) (z := (0 : Int)) hS174 hx176 rfl (fun v178 c179 h180 hv181 hS182 => ?_)
      simp only [run_build, evp, B0, reduceIte, reduceEqDiff]
      refine put1_eq (v := .agg [.bool false, .int .i64 0, .nil, v178]) (pbuild_some (fill1 (us := [v178]) (vs := [.bool false, .int .i64 0, .nil,
          v178]) (cells_one (SlF.one hv181)) rfl (Nat.le_of_ble_eq_true rfl) (all_c (SlF.one hv181) all_n) rfl fill0)) ?_
      simp only [f169, run_st, B0, reduceIte, reduceEqDiff]
      refine put2_stCx (us := [.bool false, .int .i64 0, .nil, v178]) rfl (cs' := [.bool false, .int .i64 0, .nil,
          v178]) (Sep.m3 hS182) hW rfl (all_c rfl (all_c rfl (all_c rfl (all_c (SlF.one hv181) all_n)))) (Nat.le_of_ble_eq_true rfl) rfl (fun h184 hS185 => ?_)
      simp only [run_ops_nil, run_nil, B0, reduceIte, reduceEqDiff]
      have e186 := some_inj hF177
      exact hN135 _ _ ⟨_, e186.symm, .nil, [], v178, c179, pc0_2, by simp only [f166, B0, reduceIte, reduceEqDiff], by simp only [f167, B0, reduceIte, reduceEqDiff],
          by simp only [f168, B0, reduceIte, reduceEqDiff], by simp only [f169, B0, reduceIte, reduceEqDiff], SlF.nil, hv181, ph0_2,
          ((Sep.m6 (Sep.m6 (Sep.m4 (Sep.m6 (Sep.m6 (Sep.m6 (Sep.m1 (Sep.dc (Sep.m7 (Sep.dc (Sep.m7 hS185))))))))))) : Sep _ lo ([Blk1 b1 [.int .i64 (IntKind.wrap .i64
          (v_0.Generation + 1)), pv0_1, pv0_2, pv0_3] 29] ++ ([Blk1 b9 [.int .i64 0, .nil, .nil, .nil] 29] ++ ([Blk1 b90 [.bool false, .int .i64 0, .nil,
          v178] 37] ++ (c75 ++ (pc0_2 ++ (pc0_3 ++ (c179 ++ (S0)))))))))⟩
    rw [iteF hc172] at hX132
    simp only [x53_26, run_seq, run_reg, f167, run_fa, put1_some, Nat.reduceAdd, Nat.zero_add, Nat.add_zero, xfa_ref, run_ld, B0, reduceIte, reduceEqDiff]
    refine put1_eq (v := .int .i64 v_1.Kind) rfl ?_
    simp only [run_bin, put1_some, xeql, run_mv, B0, reduceIte, reduceEqDiff]
    refine ops_j 6 (fun fr' h' => Sep h' lo ([Blk1 b1 [.int .i64 v_0.Generation, pv0_1, pv0_2, pv0_3] 29] ++ ([Blk1 b9 [.int .i64 0, .nil, .nil,
        .nil] 29] ++ ([Blk1 b90 [.bool x70.In, .int .i64 x70.Generation, v82,
        v86] 37] ++ (c75 ++ (pc0_2 ++ (pc0_3 ++ (c83 ++ (c87 ++ (S0))))))))) ∧ fr' 104 = .bool ((decide (v_1.Kind = 3)) && (decide
        (x70.Generation ≠ v_0.Generation))) ∧ fr' 2 = .ptr b1 0 ∧ fr' 3 = .ref [.int .i64 v_1.Kind, .int .i64 v_1.K, .int .i64 v_1.Part,
        .int .i64 v_1.N] 0 ∧ fr' 4 = .ptr b9 0 ∧ fr' 6 = .ptr b90 0) (fun Q187 hN188 => ?_) ?_
    · simp only [List.take_succ_cons, List.take_zero]
      simp only [run_guard (g := 98), B0, reduceIte, reduceEqDiff]
      refine guard_split (t := (decide (v_1.Kind = 3))) (fun hg189 => ?_) (fun hg189 => ?_)
      · simp only [hg189, run_guard (g := 98), guard_true, f169, run_fa, put1_some, Nat.reduceAdd, Nat.zero_add, Nat.add_zero, xfa_ptr, run_ld, B0, reduceIte, reduceEqDiff]
        refine put1_eq (v := .int .i64 x70.Generation) ((xld_b (Sep.bk _ _ _ (Sep.m2 hS171))).trans rfl) ?_
        simp only [hg189, run_guard (g := 98), guard_true, f166, run_fa, put1_some, Nat.reduceAdd, Nat.zero_add, Nat.add_zero, xfa_ptr, run_ld, B0, reduceIte, reduceEqDiff]
        refine put1_eq (v := .int .i64 v_0.Generation) ((xld_b (Sep.bk _ _ _ hS171)).trans rfl) ?_
        simp only [hg189, run_guard (g := 98), guard_true, run_bin, put1_some, xneq, run_pick, xpick_t, run_ops_nil, run_nil, B0, reduceIte, reduceEqDiff]
        exact hN188 _ _ ⟨(Sep.m7 (Sep.m7 (Sep.m7 (Sep.m7 (Sep.m7 (Sep.m7 (Sep.m7 (Sep.m7 hS171)))))))), by rw [andT hg189]; simp only [B0, reduceIte, reduceEqDiff],
            by simp only [f166, B0, reduceIte, reduceEqDiff], by simp only [f167, B0, reduceIte, reduceEqDiff], by simp only [f168, B0, reduceIte, reduceEqDiff],
            by simp only [f169, B0, reduceIte, reduceEqDiff]⟩
      · simp only [hg189, run_guard (g := 98), guard_off, run_pick, put1_some, xpick_f, run_ops_nil, run_nil, B0, reduceIte, reduceEqDiff]
        exact hN188 _ _ ⟨(Sep.m7 (Sep.m7 (Sep.m7 (Sep.m7 (Sep.m7 (Sep.m7 (Sep.m7 (Sep.m7 hS171)))))))), by rw [andF hg189]; simp only [B0, reduceIte, reduceEqDiff],
            by simp only [f166, B0, reduceIte, reduceEqDiff], by simp only [f167, B0, reduceIte, reduceEqDiff], by simp only [f168, B0, reduceIte, reduceEqDiff],
            by simp only [f169, B0, reduceIte, reduceEqDiff]⟩
    rintro fr190 h196 ⟨hS197, f191, f192, f193, f194, f195⟩
    simp only [List.drop_succ_cons, List.drop_zero]
    simp only [f191, run_mv, run_ops_nil, x53_25, run_cond, B0, reduceIte, reduceEqDiff]
    refine cond_split (t := ((decide (v_1.Kind = 3)) && (decide (x70.Generation ≠ v_0.Generation)))) (fun hc198 => ?_) (fun hc198 => ?_)
    · rw [iteT hc198] at hX132
      simp only [x53_13, run_seq, run_reg, f192, run_fa, put1_some, Nat.reduceAdd, Nat.zero_add, Nat.add_zero, xfa_ptr, run_ld, B0, reduceIte, reduceEqDiff]
      refine put1_eq (v := .int .i64 v_0.Generation) ((xld_b (Sep.bk _ _ _ hS197)).trans rfl) ?_
      simp only [f195, run_fa, put1_some, Nat.reduceAdd, Nat.zero_add, Nat.add_zero, xfa_ptr, run_st, B0, reduceIte, reduceEqDiff]
      refine put2_stCx (us := [.int .i64 v_0.Generation]) rfl (cs' := [.bool x70.In, .int .i64 v_0.Generation, v82,
          v86]) (Sep.m2 hS197) hW rfl rfl (Nat.le_of_ble_eq_true rfl) rfl (fun h199 hS200 => ?_)
      simp only [run_ops_nil, x53_12, run_seq, run_reg, f192, run_ld, B0, reduceIte, reduceEqDiff]
      refine put1_eq (v := .agg [.int .i64 v_0.Generation, pv0_1, pv0_2, pv0_3]) ((xld_bs (Sep.bk _ _ _ (Sep.m1 hS200))).trans rfl) ?_
      simp only [f193, run_fa, put1_some, Nat.reduceAdd, Nat.zero_add, Nat.add_zero, xfa_ref, run_ld, B0, reduceIte, reduceEqDiff]
      refine put1_eq (v := .int .i64 v_1.K) rfl ?_
      obtain ⟨c201, hv202, hS203⟩ := SlG.cls0 (c := c75) (os := c83 ++ (c87)) hv78 rfl hx71 hk_nil (Reader.RI (x := x70) hv84 hv88) (Sep.ni2 (c1 := c83) (c2 := c87) (Sep.m5
          (Sep.m7 (Sep.m7 hS200))))
      have hv204 := SlG.toN hv202
      obtain ⟨v205, hx206, hF207⟩ := bind_some' hX132
      simp only [run_call, B0, reduceIte, reduceEqDiff]
      refine call2 rfl hS200 (mapM1 (snap_agg (mapM1 snap_int (mapM1 (SlN.snap hv204 _ hS203 rfl Reader.RO) (mapM1 (SlF.snap ph0_2 (Sep.m4 hS203) rfl (fun _ => rfl)
          (fun _ => rfl)) (mapM1 (SlF.snap ph0_3 (Sep.m5 hS203) rfl (fun _ => rfl) (fun _ => rfl)) mapM0))))) (mapM1 snap_int mapM0)) (spec_l14Share_x
          (fun b hb => decide_eq_true hb) v_0 v_1.K v205 hx206) ?_
      rintro v208 h212 ⟨_, c209, rfl, hv210, hS213⟩
      refine ⟨_, free_1 (SlF.free1 hv210), hS213, (pf_app (SlF.pf hv210 (fun _ => rfl)) pf_nil), fun h214 hS215 => ?_⟩
      have hS216 : Sep h214 lo (c209 ++ ([Blk1 b90 [.bool x70.In, .int .i64 v_0.Generation, v82, v86] 37] ++ ([Blk1 b1 [.int .i64 v_0.Generation, pv0_1, pv0_2,
          pv0_3] 29] ++ ([Blk1 b9 [.int .i64 0, .nil, .nil, .nil] 29] ++ (c75 ++ (pc0_2 ++ (pc0_3 ++ (c83 ++ (c87 ++ (S0)))))))))) := by simpa only [List.append_assoc,
          List.nil_append] using hS215
      simp only [f195, run_fa, put1_some, Nat.reduceAdd, Nat.zero_add, Nat.add_zero, xfa_ptr, run_st, B0, reduceIte, reduceEqDiff]
      refine put2_stCx (us := [v208]) (cells_one (SlF.one hv210)) (cs' := [.bool x70.In, .int .i64 v_0.Generation, v208,
          v86]) (Sep.m1 hS216) hW rfl (all_c (SlF.one hv210) all_n) (Nat.le_of_ble_eq_true rfl) rfl (fun h217 hS218 => ?_)
      simp only [run_ops_nil, x53_11, run_seq, run_reg, f192, run_fa, put1_some, Nat.reduceAdd, Nat.zero_add, Nat.add_zero, xfa_ptr, run_ld, B0, reduceIte, reduceEqDiff]
      refine put1_eq (v := pv0_3) ((xld_b (Sep.bk _ _ _ (Sep.m2 hS218))).trans rfl) ?_
      obtain ⟨l219, hx220, hF221⟩ := bind_some' hF207
      simp only [run_len, put1_some, SlF.plen ph0_3, run_mkS, B0, reduceIte, reduceEqDiff]
      refine put2_mkSF (f := cI) (z := (0 : Int)) hS218 hx220 rfl (fun v222 c223 h224 hv225 hS226 => ?_)
      simp only [f195, run_fa, put1_some, Nat.reduceAdd, Nat.zero_add, Nat.add_zero, xfa_ptr, run_st, B0, reduceIte, reduceEqDiff]
      refine put2_stCx (us := [v222]) (cells_one (SlF.one hv225)) (cs' := [.bool x70.In, .int .i64 v_0.Generation, v208,
          v222]) (Sep.m1 hS226) hW rfl (all_c (SlF.one hv225) all_n) (Nat.le_of_ble_eq_true rfl) rfl (fun h228 hS229 => ?_)
      simp only [run_ops_nil, x53_10, run_seq, run_reg, f195, run_fa, put1_some, Nat.reduceAdd, Nat.zero_add, Nat.add_zero, xfa_ptr, run_ld, B0, reduceIte, reduceEqDiff]
      refine put1_eq (v := v208) ((xld_b (Sep.bk _ _ _ hS229)).trans rfl) ?_
      simp only [run_len, put1_some, SlF.plen hv210, run_mv, run_ops_nil, B0, reduceIte, reduceEqDiff]
      obtain ⟨oc238, hX240, hk241⟩ := jn_some hF221
      simp only [x53_9]
      refine rangeN_j (σ := (List Int)) (fun i236 s282 => spec_l14Step_b1 v_0 v205 i236 s282) (fun s fr' h' => ∃ c234, fr' 2 = .ptr b1 0 ∧ fr' 3 = .ref [.int .i64 v_1.Kind,
          .int .i64 v_1.K, .int .i64 v_1.Part, .int .i64 v_1.N] 0 ∧ fr' 4 = .ptr b9 0 ∧ fr' 6 = .ptr b90 0 ∧ fr' 119 = v208 ∧ SlF cI 1 3 v222 s c234 ∧ Sep h' lo
          ([Blk1 b1 [.int .i64 v_0.Generation, pv0_1, pv0_2, pv0_3] 29] ++ ([Blk1 b9 [.int .i64 0, .nil, .nil, .nil] 29] ++ ([Blk1 b90 [.bool x70.In, .int .i64 v_0.Generation,
          v208, v222] 37] ++ (c209 ++ (c75 ++ (pc0_2 ++ (pc0_3 ++ (c234 ++ (S0)))))))))) hX240 ⟨c223, by simp only [f192, B0, reduceIte, reduceEqDiff], by simp only [f193, B0,
          reduceIte, reduceEqDiff], by simp only [f194, B0, reduceIte, reduceEqDiff], by simp only [f195, B0, reduceIte, reduceEqDiff], by simp only [B0, reduceIte, reduceEqDiff],
          hv225, (Sep.m7 (Sep.m7 (Sep.m5 (Sep.m5 (Sep.m7 (Sep.m7 (Sep.m7 (Sep.m1 (Sep.dc (Sep.m8 (Sep.dc (Sep.m8 hS229))))))))))))⟩ (by simp only [B0, reduceIte,
          reduceEqDiff]) (by simp only [B0, reduceIte, reduceEqDiff]) (fun _ _ _ h => h) rfl rfl (fun _ _ _ _ h => h) (fun _ _ _ _ h => h) (fun _ _ _ _ h => h) (by decide) ?_ ?_
      · rintro i236 s233 fr250 h251 hx258 ⟨c234, f253, f254, f255, f256, f257, hv235, hS252⟩ f259 f260 oc239 hF242 hr243 Q244 hN245 hB249 hK246 hR247 hE248
        unfold spec_l14Step_b1 at hF242
        obtain ⟨x261, hx262, hF263⟩ := bind_some' hF242
        simp only [x53_7, run_seq, run_reg, f257, f259, run_ia, B0, reduceIte, reduceEqDiff]
        obtain ⟨b264, hb265⟩ := SlF.isrow hv210 (geti_ne hx262)
        refine put1_eq (SlF.ia hv210 hb265 hx262) ?_
        simp only [run_ld, B0, reduceIte, reduceEqDiff]
        refine put1_eq (v := .int .i64 x261) ((SlF.ld (o := 0) hv210 (Sep.m3 hS252) hb265 hx262 (fun _ => rfl) (Nat.le_of_ble_eq_true rfl)).trans rfl) ?_
        simp only [run_mv, run_ops_nil, x53_6, run_draw, f256, d4_fa, put1d_some, Nat.reduceAdd, Nat.zero_add, Nat.add_zero, xfa_ptr, d4_ld, B0, reduceIte, reduceEqDiff]
        refine put1d_eq (v := v222) ((xld_b (Sep.bk _ _ _ (Sep.m2 hS252))).trans rfl) ?_
        simp only [d4_mv, put1d_some, f253, d4_fa, Nat.reduceAdd, Nat.zero_add, Nat.add_zero, xfa_ptr, d4_ld, B0, reduceIte, reduceEqDiff]
        refine put1d_eq (v := pv0_2) ((xld_b (Sep.bk _ _ _ hS252)).trans rfl) ?_
        obtain ⟨x266, hx267, hF268⟩ := bind_some' hF263
        simp only [d4_mv, put1d_some, d4_ia, B0, reduceIte, reduceEqDiff]
        obtain ⟨b269, hb270⟩ := SlF.isrow ph0_2 (geti_ne hx267)
        refine put1d_eq (SlF.ia ph0_2 hb270 hx267) ?_
        simp only [d4_ld, B0, reduceIte, reduceEqDiff]
        refine put1d_eq (v := .int .i64 x266) ((SlF.ld (o := 0) ph0_2 (Sep.m5 hS252) hb270 hx267 (fun _ => rfl) (Nat.le_of_ble_eq_true rfl)).trans rfl) ?_
        obtain ⟨x271, hx272, hF273⟩ := bind_some' hF268
        simp only [d4_ia, B0, reduceIte, reduceEqDiff]
        obtain ⟨b274, hb275⟩ := SlF.isrow hv235 (geti_ne hx272)
        refine put1d_eq (SlF.ia hv235 hb275 hx272) ?_
        simp only [d3_st, B0, reduceIte, reduceEqDiff]
        refine put2d_stF (f := cI) (x' := x266) (o := 0) hv235 (Sep.m7 hS252) hW hb275 hx272 (fun _ => rfl) rfl rfl (Nat.le_of_ble_eq_true rfl) rfl
            (fun c278 h276 hv279 hS277 => ?_)
        have hx280 := geti_set (x' := x266) hx272
        simp only [run_draw_nil, run_nil, B0, reduceIte, reduceEqDiff]
        have e281 := some_inj hF273
        exact hN245 _ _ _ e281.symm ⟨c278, by simp only [f253, B0, reduceIte, reduceEqDiff], by simp only [f254, B0, reduceIte, reduceEqDiff], by simp only [f255, B0, reduceIte,
            reduceEqDiff], by simp only [f256, B0, reduceIte, reduceEqDiff], by simp only [f257, B0, reduceIte, reduceEqDiff], hv279,
            (Sep.m7 (Sep.m7 (Sep.m7 (Sep.m7 (Sep.m7 (Sep.m7 (Sep.m7 hS277)))))))⟩ (by simp only [f259, B0, reduceIte, reduceEqDiff]) (by simp only [f260, B0, reduceIte,
            reduceEqDiff])
      rintro s283 fr286 h287 rfl ⟨c284, f289, f290, f291, f292, f293, hv285, hS288⟩
      dsimp only [jnO] at hk241
      unfold spec_l14Step_j1 at hk241
      simp only [run_nil, B0, reduceIte, reduceEqDiff]
      have e294 := some_inj hk241
      exact hN135 _ _ ⟨_, e294.symm, v208, c209, v222, c284, pc0_2, by simp only [f289, B0, reduceIte, reduceEqDiff], by simp only [f290, B0, reduceIte, reduceEqDiff],
          by simp only [f291, B0, reduceIte, reduceEqDiff], by simp only [f292, B0, reduceIte, reduceEqDiff], hv210, hv285, ph0_2,
          (Sep.m7 (Sep.m7 (Sep.m7 (Sep.m7 (Sep.m7 (Sep.m7 (Sep.m4 (Sep.m7 hS288))))))))⟩
    rw [iteF hc198] at hX132
    simp only [x53_24, run_seq, run_reg, f193, run_fa, put1_some, Nat.reduceAdd, Nat.zero_add, Nat.add_zero, xfa_ref, run_ld, B0, reduceIte, reduceEqDiff]
    refine put1_eq (v := .int .i64 v_1.Kind) rfl ?_
    simp only [run_bin, put1_some, xeql, run_mv, B0, reduceIte, reduceEqDiff]
    obtain ⟨v299, hx300, hF301⟩ := bind_some' hX132
    refine ops_j 6 (fun fr' h' => Sep h' lo ([Blk1 b1 [.int .i64 v_0.Generation, pv0_1, pv0_2, pv0_3] 29] ++ ([Blk1 b9 [.int .i64 0, .nil, .nil,
        .nil] 29] ++ ([Blk1 b90 [.bool x70.In, .int .i64 x70.Generation, v82,
        v86] 37] ++ (c75 ++ (pc0_2 ++ (pc0_3 ++ (c83 ++ (c87 ++ (S0))))))))) ∧ fr' 145 = .bool v299 ∧ fr' 2 = .ptr b1 0 ∧ fr' 3 = .ref [.int .i64 v_1.Kind, .int .i64 v_1.K,
        .int .i64 v_1.Part, .int .i64 v_1.N] 0 ∧ fr' 4 = .ptr b9 0 ∧ fr' 6 = .ptr b90 0) (fun Q296 hN297 => ?_) ?_
    · simp only [List.take_succ_cons, List.take_zero]
      simp only [run_guard (g := 139), B0, reduceIte, reduceEqDiff]
      refine guard_split (t := (decide (v_1.Kind = 4))) (fun hg298 => ?_) (fun hg298 => ?_)
      · rw [iteT hg298] at hx300
        simp only [hg298, run_guard (g := 139), guard_true, f195, run_fa, put1_some, Nat.reduceAdd, Nat.zero_add, Nat.add_zero, xfa_ptr, run_ld, B0, reduceIte, reduceEqDiff]
        refine put1_eq (v := v82) ((xld_b (Sep.bk _ _ _ (Sep.m2 hS197))).trans rfl) ?_
        simp only [hg298, run_guard (g := 139), guard_true, f193, run_fa, put1_some, Nat.reduceAdd, Nat.zero_add, Nat.add_zero, xfa_ref, run_ld, B0, reduceIte, reduceEqDiff]
        refine put1_eq (v := .int .i64 v_1.Part) rfl ?_
        obtain ⟨v302, hx303, hF304⟩ := bind_some' hx300
        simp only [hg298, run_guard (g := 139), guard_true, run_call, B0, reduceIte, reduceEqDiff]
        refine call1 rfl (mapM1 (SlF.snap hv84 (Sep.m6 hS197) rfl (fun _ => rfl) (fun _ => rfl)) (mapM1 snap_int mapM0)) (spec_l1Has_x
            (fun b hb => decide_eq_true hb) x70.Share v_1.Part v302 hx303) ?_
        simp only [hg298, run_pick, put1_some, xpick_t, run_ops_nil, run_nil, B0, reduceIte, reduceEqDiff]
        have e305 := some_inj hF304
        exact hN297 _ _ ⟨(Sep.m7 (Sep.m7 (Sep.m7 (Sep.m7 (Sep.m7 (Sep.m7 (Sep.m7 (Sep.m7 hS197)))))))), by rw [← e305]; simp only [B0, reduceIte, reduceEqDiff],
            by simp only [f192, B0, reduceIte, reduceEqDiff], by simp only [f193, B0, reduceIte, reduceEqDiff], by simp only [f194, B0, reduceIte, reduceEqDiff],
            by simp only [f195, B0, reduceIte, reduceEqDiff]⟩
      · rw [iteF hg298] at hx300
        simp only [hg298, run_guard (g := 139), guard_off, run_pick, put1_some, xpick_f, run_ops_nil, run_nil, B0, reduceIte, reduceEqDiff]
        have e306 := some_inj hx300
        exact hN297 _ _ ⟨(Sep.m7 (Sep.m7 (Sep.m7 (Sep.m7 (Sep.m7 (Sep.m7 (Sep.m7 (Sep.m7 hS197)))))))), by rw [← e306]; simp only [B0, reduceIte, reduceEqDiff],
            by simp only [f192, B0, reduceIte, reduceEqDiff], by simp only [f193, B0, reduceIte, reduceEqDiff], by simp only [f194, B0, reduceIte, reduceEqDiff],
            by simp only [f195, B0, reduceIte, reduceEqDiff]⟩
    rintro fr307 h313 ⟨hS314, f308, f309, f310, f311, f312⟩
    simp only [List.drop_succ_cons, List.drop_zero]
    simp only [f308, run_mv, B0, reduceIte, reduceEqDiff]
    refine ops_j 4 (fun fr' h' => Sep h' lo ([Blk1 b1 [.int .i64 v_0.Generation, pv0_1, pv0_2, pv0_3] 29] ++ ([Blk1 b9 [.int .i64 0, .nil, .nil,
        .nil] 29] ++ ([Blk1 b90 [.bool x70.In, .int .i64 x70.Generation, v82,
        v86] 37] ++ (c75 ++ (pc0_2 ++ (pc0_3 ++ (c83 ++ (c87 ++ (S0))))))))) ∧ fr' 150 = .bool (v299 && (decide
        ((1 : Int) ≤ v_1.N))) ∧ fr' 2 = .ptr b1 0 ∧ fr' 3 = .ref [.int .i64 v_1.Kind, .int .i64 v_1.K, .int .i64 v_1.Part,
        .int .i64 v_1.N] 0 ∧ fr' 4 = .ptr b9 0 ∧ fr' 6 = .ptr b90 0) (fun Q315 hN316 => ?_) ?_
    · simp only [List.take_succ_cons, List.take_zero]
      simp only [run_guard (g := 146), B0, reduceIte, reduceEqDiff]
      refine guard_split (t := v299) (fun hg317 => ?_) (fun hg317 => ?_)
      · simp only [hg317, run_guard (g := 146), guard_true, f310, run_fa, put1_some, Nat.reduceAdd, Nat.zero_add, Nat.add_zero, xfa_ref, run_ld, B0, reduceIte, reduceEqDiff]
        refine put1_eq (v := .int .i64 v_1.N) rfl ?_
        simp only [hg317, run_guard (g := 146), guard_true, run_bin, put1_some, xgeq, run_pick, xpick_t, run_ops_nil, run_nil, B0, reduceIte, reduceEqDiff]
        exact hN316 _ _ ⟨(Sep.m7 (Sep.m7 (Sep.m7 (Sep.m7 (Sep.m7 (Sep.m7 (Sep.m7 (Sep.m7 hS314)))))))), by rw [andT hg317]; simp only [B0, reduceIte, reduceEqDiff],
            by simp only [f309, B0, reduceIte, reduceEqDiff], by simp only [f310, B0, reduceIte, reduceEqDiff], by simp only [f311, B0, reduceIte, reduceEqDiff],
            by simp only [f312, B0, reduceIte, reduceEqDiff]⟩
      · simp only [hg317, run_guard (g := 146), guard_off, run_pick, put1_some, xpick_f, run_ops_nil, run_nil, B0, reduceIte, reduceEqDiff]
        exact hN316 _ _ ⟨(Sep.m7 (Sep.m7 (Sep.m7 (Sep.m7 (Sep.m7 (Sep.m7 (Sep.m7 (Sep.m7 hS314)))))))), by rw [andF hg317]; simp only [B0, reduceIte, reduceEqDiff],
            by simp only [f309, B0, reduceIte, reduceEqDiff], by simp only [f310, B0, reduceIte, reduceEqDiff], by simp only [f311, B0, reduceIte, reduceEqDiff],
            by simp only [f312, B0, reduceIte, reduceEqDiff]⟩
    rintro fr318 h324 ⟨hS325, f319, f320, f321, f322, f323⟩
    simp only [List.drop_succ_cons, List.drop_zero]
    simp only [f319, run_mv, run_ops_nil, x53_23, run_cond, B0, reduceIte, reduceEqDiff]
    refine cond_split (t := (v299 && (decide ((1 : Int) ≤ v_1.N)))) (fun hc326 => ?_) (fun hc326 => ?_)
    · rw [iteT hc326] at hF301
      simp only [x53_17, run_seq, run_draw, f321, d4_fa, put1d_some, Nat.reduceAdd, Nat.zero_add, Nat.add_zero, xfa_ref, d4_ld, B0, reduceIte, reduceEqDiff]
      refine put1d_eq (v := .int .i64 v_1.N) rfl ?_
      simp only [f320, d4_fa, put1d_some, Nat.reduceAdd, Nat.zero_add, Nat.add_zero, xfa_ptr, d4_ld, B0, reduceIte, reduceEqDiff]
      refine put1d_eq (v := pv0_3) ((xld_b (Sep.bk _ _ _ hS325)).trans rfl) ?_
      simp only [f321, d4_fa, put1d_some, Nat.reduceAdd, Nat.zero_add, Nat.add_zero, xfa_ref, d4_ld, B0, reduceIte, reduceEqDiff]
      refine put1d_eq (v := .int .i64 v_1.Part) rfl ?_
      obtain ⟨x327, hx328, hF329⟩ := bind_some' hF301
      simp only [d4_ia, B0, reduceIte, reduceEqDiff]
      obtain ⟨b330, hb331⟩ := SlF.isrow ph0_3 (geti_ne hx328)
      refine put1d_eq (SlF.ia ph0_3 hb331 hx328) ?_
      simp only [d4_ld, B0, reduceIte, reduceEqDiff]
      refine put1d_eq (v := .int .i64 x327) ((SlF.ld (o := 0) ph0_3 (Sep.m5 hS325) hb331 hx328 (fun _ => rfl) (Nat.le_of_ble_eq_true rfl)).trans rfl) ?_
      simp only [f323, d4_fa, put1d_some, Nat.reduceAdd, Nat.zero_add, Nat.add_zero, xfa_ptr, d4_ld, B0, reduceIte, reduceEqDiff]
      refine put1d_eq (v := v86) ((xld_b (Sep.bk _ _ _ (Sep.m2 hS325))).trans rfl) ?_
      simp only [f321, d4_fa, put1d_some, Nat.reduceAdd, Nat.zero_add, Nat.add_zero, xfa_ref, d4_ld, B0, reduceIte, reduceEqDiff]
      refine put1d_eq (v := .int .i64 v_1.Part) rfl ?_
      obtain ⟨x332, hx333, hF334⟩ := bind_some' hF329
      simp only [d4_ia, B0, reduceIte, reduceEqDiff]
      obtain ⟨b335, hb336⟩ := SlF.isrow hv88 (geti_ne hx333)
      refine put1d_eq (SlF.ia hv88 hb336 hx333) ?_
      simp only [d4_ld, B0, reduceIte, reduceEqDiff]
      refine put1d_eq (v := .int .i64 x332) ((SlF.ld (o := 0) hv88 (Sep.m7 hS325) hb336 hx333 (fun _ => rfl) (Nat.le_of_ble_eq_true rfl)).trans rfl) ?_
      simp only [d4_bin, put1d_some, xsub, xgeq, run_draw_nil, x53_16, run_cond, B0, reduceIte, reduceEqDiff]
      refine cond_split (t := (decide ((IntKind.wrap .i64 (x327 - x332)) ≤ v_1.N))) (fun hc337 => ?_) (fun hc337 => ?_)
      · rw [iteT hc337] at hF334
        simp only [x53_14, run_draw, f323, d4_fa, put1d_some, Nat.reduceAdd, Nat.zero_add, Nat.add_zero, xfa_ptr, d4_ld, B0, reduceIte, reduceEqDiff]
        refine put1d_eq (v := v86) ((xld_b (Sep.bk _ _ _ (Sep.m2 hS325))).trans rfl) ?_
        simp only [f321, d4_fa, put1d_some, Nat.reduceAdd, Nat.zero_add, Nat.add_zero, xfa_ref, d4_ld, B0, reduceIte, reduceEqDiff]
        refine put1d_eq (v := .int .i64 v_1.Part) rfl ?_
        simp only [f320, d4_fa, put1d_some, Nat.reduceAdd, Nat.zero_add, Nat.add_zero, xfa_ptr, d4_ld, B0, reduceIte, reduceEqDiff]
        refine put1d_eq (v := pv0_3) ((xld_b (Sep.bk _ _ _ hS325)).trans rfl) ?_
        simp only [f321, d4_fa, put1d_some, Nat.reduceAdd, Nat.zero_add, Nat.add_zero, xfa_ref, d4_ld, B0, reduceIte, reduceEqDiff]
        refine put1d_eq (v := .int .i64 v_1.Part) rfl ?_
        simp only [d4_ia, B0, reduceIte, reduceEqDiff]
        refine put1d_eq (SlF.ia ph0_3 hb331 hx328) ?_
        simp only [d4_ld, B0, reduceIte, reduceEqDiff]
        refine put1d_eq (v := .int .i64 x327) ((SlF.ld (o := 0) ph0_3 (Sep.m5 hS325) hb331 hx328 (fun _ => rfl) (Nat.le_of_ble_eq_true rfl)).trans rfl) ?_
        simp only [d4_ia, B0, reduceIte, reduceEqDiff]
        refine put1d_eq (SlF.ia hv88 hb336 hx333) ?_
        simp only [d3_st, B0, reduceIte, reduceEqDiff]
        refine put2d_stF (f := cI) (x' := x327) (o := 0) hv88 (Sep.m7 hS325) hW hb336 hx333 (fun _ => rfl) rfl rfl (Nat.le_of_ble_eq_true rfl) rfl (fun c340 h338 hv341 hS339 => ?_)
        have hx342 := geti_set (x' := x327) hx333
        simp only [run_draw_nil, run_nil, B0, reduceIte, reduceEqDiff]
        have e343 := some_inj hF334
        exact hN135 _ _ ⟨_, e343.symm, v82, c83, v86, c340, pc0_2, by simp only [f320, B0, reduceIte, reduceEqDiff], by simp only [f321, B0, reduceIte, reduceEqDiff],
            by simp only [f322, B0, reduceIte, reduceEqDiff], by simp only [f323, B0, reduceIte, reduceEqDiff], hv84, hv341, ph0_2,
            (Sep.m7 (Sep.m7 (Sep.m7 (Sep.m7 (Sep.m7 (Sep.m7 (Sep.m7 hS339)))))))⟩
      rw [iteF hc337] at hF334
      simp only [x53_15, run_draw, f323, d4_fa, put1d_some, Nat.reduceAdd, Nat.zero_add, Nat.add_zero, xfa_ptr, d4_ld, B0, reduceIte, reduceEqDiff]
      refine put1d_eq (v := v86) ((xld_b (Sep.bk _ _ _ (Sep.m2 hS325))).trans rfl) ?_
      simp only [f321, d4_fa, put1d_some, Nat.reduceAdd, Nat.zero_add, Nat.add_zero, xfa_ref, d4_ld, B0, reduceIte, reduceEqDiff]
      refine put1d_eq (v := .int .i64 v_1.Part) rfl ?_
      simp only [d4_ia, B0, reduceIte, reduceEqDiff]
      refine put1d_eq (SlF.ia hv88 hb336 hx333) ?_
      simp only [d4_ld, B0, reduceIte, reduceEqDiff]
      refine put1d_eq (v := .int .i64 x332) ((SlF.ld (o := 0) hv88 (Sep.m7 hS325) hb336 hx333 (fun _ => rfl) (Nat.le_of_ble_eq_true rfl)).trans rfl) ?_
      simp only [f321, d4_fa, put1d_some, Nat.reduceAdd, Nat.zero_add, Nat.add_zero, xfa_ref, d4_ld, B0, reduceIte, reduceEqDiff]
      refine put1d_eq (v := .int .i64 v_1.N) rfl ?_
      simp only [d4_bin, put1d_some, xadd, d4_ia, B0, reduceIte, reduceEqDiff]
      refine put1d_eq (SlF.ia hv88 hb336 hx333) ?_
      simp only [d3_st, B0, reduceIte, reduceEqDiff]
      refine put2d_stF (f := cI) (x' := (IntKind.wrap .i64 (x332 + v_1.N))) (o := 0) hv88 (Sep.m7 hS325) hW hb336 hx333 (fun _ => rfl) rfl rfl (Nat.le_of_ble_eq_true rfl) rfl
          (fun c346 h344 hv347 hS345 => ?_)
      have hx348 := geti_set (x' := (IntKind.wrap .i64 (x332 + v_1.N))) hx333
      simp only [run_draw_nil, run_nil, B0, reduceIte, reduceEqDiff]
      have e349 := some_inj hF334
      exact hN135 _ _ ⟨_, e349.symm, v82, c83, v86, c346, pc0_2, by simp only [f320, B0, reduceIte, reduceEqDiff], by simp only [f321, B0, reduceIte, reduceEqDiff],
          by simp only [f322, B0, reduceIte, reduceEqDiff], by simp only [f323, B0, reduceIte, reduceEqDiff], hv84, hv347, ph0_2,
          (Sep.m7 (Sep.m7 (Sep.m7 (Sep.m7 (Sep.m7 (Sep.m7 (Sep.m7 hS345)))))))⟩
    rw [iteF hc326] at hF301
    simp only [x53_22, run_seq, run_reg, f321, run_fa, put1_some, Nat.reduceAdd, Nat.zero_add, Nat.add_zero, xfa_ref, run_ld, B0, reduceIte, reduceEqDiff]
    refine put1_eq (v := .int .i64 v_1.Kind) rfl ?_
    simp only [run_bin, put1_some, xeql, run_mv, B0, reduceIte, reduceEqDiff]
    refine ops_j 6 (fun fr' h' => Sep h' lo ([Blk1 b1 [.int .i64 v_0.Generation, pv0_1, pv0_2, pv0_3] 29] ++ ([Blk1 b9 [.int .i64 0, .nil, .nil,
        .nil] 29] ++ ([Blk1 b90 [.bool x70.In, .int .i64 x70.Generation, v82,
        v86] 37] ++ (c75 ++ (pc0_2 ++ (pc0_3 ++ (c83 ++ (c87 ++ (S0))))))))) ∧ fr' 198 = .bool ((decide (v_1.Kind = 5)) && (decide
        (x70.Generation = v_0.Generation))) ∧ fr' 2 = .ptr b1 0 ∧ fr' 3 = .ref [.int .i64 v_1.Kind, .int .i64 v_1.K, .int .i64 v_1.Part,
        .int .i64 v_1.N] 0 ∧ fr' 4 = .ptr b9 0 ∧ fr' 6 = .ptr b90 0) (fun Q350 hN351 => ?_) ?_
    · simp only [List.take_succ_cons, List.take_zero]
      simp only [run_guard (g := 192), B0, reduceIte, reduceEqDiff]
      refine guard_split (t := (decide (v_1.Kind = 5))) (fun hg352 => ?_) (fun hg352 => ?_)
      · simp only [hg352, run_guard (g := 192), guard_true, f323, run_fa, put1_some, Nat.reduceAdd, Nat.zero_add, Nat.add_zero, xfa_ptr, run_ld, B0, reduceIte, reduceEqDiff]
        refine put1_eq (v := .int .i64 x70.Generation) ((xld_b (Sep.bk _ _ _ (Sep.m2 hS325))).trans rfl) ?_
        simp only [hg352, run_guard (g := 192), guard_true, f320, run_fa, put1_some, Nat.reduceAdd, Nat.zero_add, Nat.add_zero, xfa_ptr, run_ld, B0, reduceIte, reduceEqDiff]
        refine put1_eq (v := .int .i64 v_0.Generation) ((xld_b (Sep.bk _ _ _ hS325)).trans rfl) ?_
        simp only [hg352, run_guard (g := 192), guard_true, run_bin, put1_some, xeql, run_pick, xpick_t, run_ops_nil, run_nil, B0, reduceIte, reduceEqDiff]
        exact hN351 _ _ ⟨(Sep.m7 (Sep.m7 (Sep.m7 (Sep.m7 (Sep.m7 (Sep.m7 (Sep.m7 (Sep.m7 hS325)))))))), by rw [andT hg352]; simp only [B0, reduceIte, reduceEqDiff],
            by simp only [f320, B0, reduceIte, reduceEqDiff], by simp only [f321, B0, reduceIte, reduceEqDiff], by simp only [f322, B0, reduceIte, reduceEqDiff],
            by simp only [f323, B0, reduceIte, reduceEqDiff]⟩
      · simp only [hg352, run_guard (g := 192), guard_off, run_pick, put1_some, xpick_f, run_ops_nil, run_nil, B0, reduceIte, reduceEqDiff]
        exact hN351 _ _ ⟨(Sep.m7 (Sep.m7 (Sep.m7 (Sep.m7 (Sep.m7 (Sep.m7 (Sep.m7 (Sep.m7 hS325)))))))), by rw [andF hg352]; simp only [B0, reduceIte, reduceEqDiff],
            by simp only [f320, B0, reduceIte, reduceEqDiff], by simp only [f321, B0, reduceIte, reduceEqDiff], by simp only [f322, B0, reduceIte, reduceEqDiff],
            by simp only [f323, B0, reduceIte, reduceEqDiff]⟩
    rintro fr353 h359 ⟨hS360, f354, f355, f356, f357, f358⟩
    simp only [List.drop_succ_cons, List.drop_zero]
    simp only [f354, run_mv, B0, reduceIte, reduceEqDiff]
    obtain ⟨v364, hx365, hF366⟩ := bind_some' hF301
    refine ops_j 6 (fun fr' h' => Sep h' lo ([Blk1 b1 [.int .i64 v_0.Generation, pv0_1, pv0_2, pv0_3] 29] ++ ([Blk1 b9 [.int .i64 0, .nil, .nil,
        .nil] 29] ++ ([Blk1 b90 [.bool x70.In, .int .i64 x70.Generation, v82,
        v86] 37] ++ (c75 ++ (pc0_2 ++ (pc0_3 ++ (c83 ++ (c87 ++ (S0))))))))) ∧ fr' 205 = .bool v364 ∧ fr' 2 = .ptr b1 0 ∧ fr' 3 = .ref [.int .i64 v_1.Kind, .int .i64 v_1.K,
        .int .i64 v_1.Part, .int .i64 v_1.N] 0 ∧ fr' 4 = .ptr b9 0 ∧ fr' 6 = .ptr b90 0) (fun Q361 hN362 => ?_) ?_
    · simp only [List.take_succ_cons, List.take_zero]
      simp only [run_guard (g := 199), B0, reduceIte, reduceEqDiff]
      refine guard_split (t := ((decide (v_1.Kind = 5)) && (decide (x70.Generation = v_0.Generation)))) (fun hg363 => ?_) (fun hg363 => ?_)
      · rw [iteT hg363] at hx365
        simp only [hg363, run_guard (g := 199), guard_true, f358, run_fa, put1_some, Nat.reduceAdd, Nat.zero_add, Nat.add_zero, xfa_ptr, run_ld, B0, reduceIte, reduceEqDiff]
        refine put1_eq (v := v82) ((xld_b (Sep.bk _ _ _ (Sep.m2 hS360))).trans rfl) ?_
        simp only [hg363, run_guard (g := 199), guard_true, f356, run_fa, put1_some, Nat.reduceAdd, Nat.zero_add, Nat.add_zero, xfa_ref, run_ld, B0, reduceIte, reduceEqDiff]
        refine put1_eq (v := .int .i64 v_1.Part) rfl ?_
        obtain ⟨v367, hx368, hF369⟩ := bind_some' hx365
        simp only [hg363, run_guard (g := 199), guard_true, run_call, B0, reduceIte, reduceEqDiff]
        refine call1 rfl (mapM1 (SlF.snap hv84 (Sep.m6 hS360) rfl (fun _ => rfl) (fun _ => rfl)) (mapM1 snap_int mapM0)) (spec_l1Has_x
            (fun b hb => decide_eq_true hb) x70.Share v_1.Part v367 hx368) ?_
        simp only [hg363, run_pick, put1_some, xpick_t, run_ops_nil, run_nil, B0, reduceIte, reduceEqDiff]
        have e370 := some_inj hF369
        exact hN362 _ _ ⟨(Sep.m7 (Sep.m7 (Sep.m7 (Sep.m7 (Sep.m7 (Sep.m7 (Sep.m7 (Sep.m7 hS360)))))))), by rw [← e370]; simp only [B0, reduceIte, reduceEqDiff],
            by simp only [f355, B0, reduceIte, reduceEqDiff], by simp only [f356, B0, reduceIte, reduceEqDiff], by simp only [f357, B0, reduceIte, reduceEqDiff],
            by simp only [f358, B0, reduceIte, reduceEqDiff]⟩
      · rw [iteF hg363] at hx365
        simp only [hg363, run_guard (g := 199), guard_off, run_pick, put1_some, xpick_f, run_ops_nil, run_nil, B0, reduceIte, reduceEqDiff]
        have e371 := some_inj hx365
        exact hN362 _ _ ⟨(Sep.m7 (Sep.m7 (Sep.m7 (Sep.m7 (Sep.m7 (Sep.m7 (Sep.m7 (Sep.m7 hS360)))))))), by rw [← e371]; simp only [B0, reduceIte, reduceEqDiff],
            by simp only [f355, B0, reduceIte, reduceEqDiff], by simp only [f356, B0, reduceIte, reduceEqDiff], by simp only [f357, B0, reduceIte, reduceEqDiff],
            by simp only [f358, B0, reduceIte, reduceEqDiff]⟩
    rintro fr372 h378 ⟨hS379, f373, f374, f375, f376, f377⟩
    simp only [List.drop_succ_cons, List.drop_zero]
    simp only [f373, run_mv, run_ops_nil, x53_21, run_cond, B0, reduceIte, reduceEqDiff]
    refine cond_split (t := v364) (fun hc380 => ?_) (fun hc380 => ?_)
    · rw [iteT hc380] at hF366
      simp only [x53_20, run_seq, run_draw, f377, d4_fa, put1d_some, Nat.reduceAdd, Nat.zero_add, Nat.add_zero, xfa_ptr, d4_ld, B0, reduceIte, reduceEqDiff]
      refine put1d_eq (v := v86) ((xld_b (Sep.bk _ _ _ (Sep.m2 hS379))).trans rfl) ?_
      simp only [f375, d4_fa, put1d_some, Nat.reduceAdd, Nat.zero_add, Nat.add_zero, xfa_ref, d4_ld, B0, reduceIte, reduceEqDiff]
      refine put1d_eq (v := .int .i64 v_1.Part) rfl ?_
      obtain ⟨x381, hx382, hF383⟩ := bind_some' hF366
      simp only [d4_ia, B0, reduceIte, reduceEqDiff]
      obtain ⟨b384, hb385⟩ := SlF.isrow hv88 (geti_ne hx382)
      refine put1d_eq (SlF.ia hv88 hb385 hx382) ?_
      simp only [d4_ld, B0, reduceIte, reduceEqDiff]
      refine put1d_eq (v := .int .i64 x381) ((SlF.ld (o := 0) hv88 (Sep.m7 hS379) hb385 hx382 (fun _ => rfl) (Nat.le_of_ble_eq_true rfl)).trans rfl) ?_
      simp only [f374, d4_fa, put1d_some, Nat.reduceAdd, Nat.zero_add, Nat.add_zero, xfa_ptr, d4_ld, B0, reduceIte, reduceEqDiff]
      refine put1d_eq (v := pv0_2) ((xld_b (Sep.bk _ _ _ hS379)).trans rfl) ?_
      simp only [f375, d4_fa, put1d_some, Nat.reduceAdd, Nat.zero_add, Nat.add_zero, xfa_ref, d4_ld, B0, reduceIte, reduceEqDiff]
      refine put1d_eq (v := .int .i64 v_1.Part) rfl ?_
      obtain ⟨x386, hx387, hF388⟩ := bind_some' hF383
      simp only [d4_ia, B0, reduceIte, reduceEqDiff]
      obtain ⟨b389, hb390⟩ := SlF.isrow ph0_2 (geti_ne hx387)
      refine put1d_eq (SlF.ia ph0_2 hb390 hx387) ?_
      simp only [d4_ld, B0, reduceIte, reduceEqDiff]
      refine put1d_eq (v := .int .i64 x386) ((SlF.ld (o := 0) ph0_2 (Sep.m4 hS379) hb390 hx387 (fun _ => rfl) (Nat.le_of_ble_eq_true rfl)).trans rfl) ?_
      simp only [d4_bin, put1d_some, xgtr, run_draw_nil, x53_19, run_cond, B0, reduceIte, reduceEqDiff]
      refine cond_split (t := (decide (x386 < x381))) (fun hc391 => ?_) (fun hc391 => ?_)
      · rw [iteT hc391] at hF388
        simp only [x53_18, run_draw, f374, d4_fa, put1d_some, Nat.reduceAdd, Nat.zero_add, Nat.add_zero, xfa_ptr, d4_ld, B0, reduceIte, reduceEqDiff]
        refine put1d_eq (v := pv0_2) ((xld_b (Sep.bk _ _ _ hS379)).trans rfl) ?_
        simp only [f375, d4_fa, put1d_some, Nat.reduceAdd, Nat.zero_add, Nat.add_zero, xfa_ref, d4_ld, B0, reduceIte, reduceEqDiff]
        refine put1d_eq (v := .int .i64 v_1.Part) rfl ?_
        simp only [f377, d4_fa, put1d_some, Nat.reduceAdd, Nat.zero_add, Nat.add_zero, xfa_ptr, d4_ld, B0, reduceIte, reduceEqDiff]
        refine put1d_eq (v := v86) ((xld_b (Sep.bk _ _ _ (Sep.m2 hS379))).trans rfl) ?_
        simp only [f375, d4_fa, put1d_some, Nat.reduceAdd, Nat.zero_add, Nat.add_zero, xfa_ref, d4_ld, B0, reduceIte, reduceEqDiff]
        refine put1d_eq (v := .int .i64 v_1.Part) rfl ?_
        simp only [d4_ia, B0, reduceIte, reduceEqDiff]
        refine put1d_eq (SlF.ia hv88 hb385 hx382) ?_
        simp only [d4_ld, B0, reduceIte, reduceEqDiff]
        refine put1d_eq (v := .int .i64 x381) ((SlF.ld (o := 0) hv88 (Sep.m7 hS379) hb385 hx382 (fun _ => rfl) (Nat.le_of_ble_eq_true rfl)).trans rfl) ?_
        simp only [d4_ia, B0, reduceIte, reduceEqDiff]
        refine put1d_eq (SlF.ia ph0_2 hb390 hx387) ?_
        simp only [d3_st, B0, reduceIte, reduceEqDiff]
        refine put2d_stF (f := cI) (x' := x381) (o := 0) ph0_2 (Sep.m4 hS379) hW hb390 hx387 (fun _ => rfl) rfl rfl (Nat.le_of_ble_eq_true rfl) rfl
            (fun c394 h392 hv395 hS393 => ?_)
        have hx396 := geti_set (x' := x381) hx387
        simp only [run_draw_nil, run_nil, B0, reduceIte, reduceEqDiff]
        have e397 := some_inj hF388
        exact hN135 _ _ ⟨_, e397.symm, v82, c83, v86, c87, c394, by simp only [f374, B0, reduceIte, reduceEqDiff], by simp only [f375, B0, reduceIte, reduceEqDiff],
            by simp only [f376, B0, reduceIte, reduceEqDiff], by simp only [f377, B0, reduceIte, reduceEqDiff], hv84, hv88, hv395,
            (Sep.m7 (Sep.m7 (Sep.m7 (Sep.m7 (Sep.m3 (Sep.m7 (Sep.m7 (Sep.m7 hS393))))))))⟩
      rw [iteF hc391] at hF388
      simp only [run_skip, run_nil, B0, reduceIte, reduceEqDiff]
      have e398 := some_inj hF388
      exact hN135 _ _ ⟨_, e398.symm, v82, c83, v86, c87, pc0_2, by simp only [f374, B0, reduceIte, reduceEqDiff], by simp only [f375, B0, reduceIte, reduceEqDiff],
          by simp only [f376, B0, reduceIte, reduceEqDiff], by simp only [f377, B0, reduceIte, reduceEqDiff], hv84, hv88, ph0_2,
          (Sep.m7 (Sep.m7 (Sep.m7 (Sep.m7 (Sep.m7 (Sep.m7 (Sep.m7 (Sep.m7 hS379))))))))⟩
    rw [iteF hc380] at hF366
    simp only [run_seq, run_reg, f374, run_ld, B0, reduceIte, reduceEqDiff]
    refine put1_eq (v := .agg [.int .i64 v_0.Generation, pv0_1, pv0_2, pv0_3]) ((xld_bs (Sep.bk _ _ _ hS379)).trans rfl) ?_
    simp only [f376, run_st, B0, reduceIte, reduceEqDiff]
    refine put2_stCx (us := [.int .i64 v_0.Generation, pv0_1, pv0_2, pv0_3]) rfl (cs' := [.int .i64 v_0.Generation, pv0_1, pv0_2,
        pv0_3]) (Sep.m1 hS379) hW rfl (all_c rfl (all_c (SlG.one hv78) (all_c (SlF.one ph0_2) (all_c (SlF.one ph0_3) all_n)))) (Nat.le_of_ble_eq_true rfl) rfl
        (fun h399 hS400 => ?_)
    simp only [run_mv, run_ops_nil, run_ret, B0, reduceIte, reduceEqDiff]
    have e401 := some_inj hF366
    subst e401
    have hk133' := hk133
    dsimp only [jnO] at hk133'
    apply hR136
    obtain ⟨c402, hv403, hS404⟩ := SlG.cls0 (c := c75) (os := c83 ++ (c87)) hv78 rfl hx71 hk_nil (Reader.RI (x := x70) hv84 hv88) (Sep.ni2 (c1 := c83) (c2 := c87) (Sep.m5 (Sep.m7
        (Sep.m7 hS400))))
    have hv405 := SlG.toN hv403
    have he := some_inj hk133'
    subst he
    refine end_ret_m (mapM1 (res_cell (bb := b9) (oo := 0) (v := .agg [.int .i64 v_0.Generation, pv0_1, pv0_2, pv0_3]) (by simp only [f376, B0, reduceIte,
        reduceEqDiff]) ((xld_bs (Sep.bk _ _ _ (Sep.m1 hS404))).trans rfl)) (mapM1 (res_t (v := .bool false) (by simp only [B0, reduceIte, reduceEqDiff])) mapM0)) ?_
    exact ⟨pv0_1, c402, pv0_2, pc0_2, pv0_3, pc0_3, by first | trivial | rfl, hv405, ph0_2, ph0_3,
        (Sep.m2 (Sep.m2 (Sep.m2 (Sep.dc (Sep.m1 (Sep.dc (Sep.m1 (Sep.dc (Sep.m1 hS404)))))))))⟩
  rintro fr406 h407 ⟨⟨s118, s119, s128⟩, rfl, v121, c122, v125, c126, c129, f409, f410, f411, f412, hv123, hv127, hv130, hS408⟩
  dsimp only [jnO] at hk133
  dsimp only at *
  unfold spec_l14Step_j2 at hk133
  simp only [run_blk, x53_33, run_seq, run_reg, f409, run_fa, put1_some, Nat.reduceAdd, Nat.zero_add, Nat.add_zero, xfa_ptr, run_ld, B0, reduceIte, reduceEqDiff]
  refine put1_eq (v := pv0_1) ((xld_b (Sep.bk _ _ _ hS408)).trans rfl) ?_
  simp only [f410, run_fa, put1_some, Nat.reduceAdd, Nat.zero_add, Nat.add_zero, xfa_ref, run_ld, B0, reduceIte, reduceEqDiff]
  refine put1_eq (v := .int .i64 v_1.K) rfl ?_
  simp only [f412, run_ld, B0, reduceIte, reduceEqDiff]
  refine put1_eq (v := .agg [.bool s119.In, .int .i64 s119.Generation, v121, v125]) ((xld_bs (Sep.bk _ _ _ (Sep.m2 hS408))).trans rfl) ?_
  simp only [run_ia, B0, reduceIte, reduceEqDiff]
  refine put1_eq (SlG.ia hv78 hx71) ?_
  simp only [run_st, B0, reduceIte, reduceEqDiff]
  refine put2_stGx (us := [.bool s119.In, .int .i64 s119.Generation, v121, v125]) (o := 0) (cs' := [.bool s119.In, .int .i64 s119.Generation, v121,
      v125]) rfl hv78 rfl hx71 (Sep.m3 hS408) hW rfl (all_c rfl (all_c rfl (all_c (SlF.one hv123) (all_c (SlF.one hv127) all_n)))) (Nat.le_of_ble_eq_true rfl) rfl
      (fun c415 h413 hv416 hS414 => ?_)
  simp only [run_ops_nil, run_seq, run_reg, f409, run_ld, B0, reduceIte, reduceEqDiff]
  refine put1_eq (v := .agg [.int .i64 s118.Generation, pv0_1, pv0_2, pv0_3]) ((xld_bs (Sep.bk _ _ _ (Sep.m1 hS414))).trans rfl) ?_
  simp only [f411, run_st, B0, reduceIte, reduceEqDiff]
  refine put2_stCx (us := [.int .i64 s118.Generation, pv0_1, pv0_2, pv0_3]) rfl (cs' := [.int .i64 s118.Generation, pv0_1, pv0_2,
      pv0_3]) (Sep.m2 hS414) hW rfl (all_c rfl (all_c (SlG.one hv416) (all_c (SlF.one hv130) (all_c (SlF.one ph0_3) all_n)))) (Nat.le_of_ble_eq_true rfl) rfl (fun h417 hS418 => ?_)
  simp only [run_mv, run_ops_nil, run_ret, B0, reduceIte, reduceEqDiff]
  obtain ⟨c419, hv420, hS421⟩ := SlG.cls (e' := s119) (c := c415) (os := c122 ++ (c126)) hv416 rfl hx71 hk_nil (Reader.RI (x := s119) hv123 hv127) (Sep.ni2 (c1 := c122)
      (c2 := c126) (Sep.m3 (Sep.m7 (Sep.m7 hS418))))
  have hx422 := geti_set (x' := s119) hx71
  have hv423 := SlG.toN hv420
  have he := some_inj hk133
  subst he
  refine end_ret_m (mapM1 (res_cell (bb := b9) (oo := 0) (v := .agg [.int .i64 s118.Generation, pv0_1, pv0_2, pv0_3]) (by simp only [f411, B0, reduceIte,
      reduceEqDiff]) ((xld_bs (Sep.bk _ _ _ (Sep.m1 hS421))).trans rfl)) (mapM1 (res_t (v := .bool true) (by simp only [B0, reduceIte, reduceEqDiff])) mapM0)) ?_
  exact ⟨pv0_1, c419, pv0_2, c129, pv0_3, pc0_3, by first | trivial | rfl, hv423, hv130, ph0_3,
      (Sep.m2 (Sep.m2 (Sep.m2 (Sep.dc (Sep.m1 (Sep.dc (Sep.m1 (Sep.dc (Sep.m1 hS421)))))))))⟩
end Go.Proofs.Ytdhibknhejhfaaa.X
