/- The functions' code comes to what the plain functions say (3). -/
import Derived.Test.YtohofoampalhoaaXCH2
set_option linter.unusedVariables false
set_option linter.unusedSimpArgs false
set_option maxRecDepth 100000
namespace Go.Proofs.Ytohofoampalhoaa.X
open Go
theorem spec_l17Node_x {W : Nat → Bool} {h : Heap} (hW : ∀ b,
    h.length ≤ b → W b = true) (k : Nat) (v_0 : Cluster) (v_1 : Int) (r : Bool) (hF : spec_l17Node k v_0 v_1 = some r) : Ret E W 55 [.agg [.int .i64 v_0.Truth.Epoch,
    .int .i64 v_0.Truth.Leader, lst cI v_0.Truth.InStep, lst Node.cells v_0.Nodes, lst Row.cells v_0.Acked],
    .int .i64 v_1] h (fun v h' => cut h.length h' E.sz false 9 v = some (.bool r)) := by
  refine Ret.of (fn := x55) rfl (Run.of ?_)
  unfold spec_l17Node at hF
  have zf0 : argFr [.agg [.int .i64 v_0.Truth.Epoch, .int .i64 v_0.Truth.Leader, lst cI v_0.Truth.InStep, lst Node.cells v_0.Nodes, lst Row.cells v_0.Acked],
      .int .i64 v_1] 0 = .agg [.int .i64 v_0.Truth.Epoch, .int .i64 v_0.Truth.Leader, lst cI v_0.Truth.InStep, lst Node.cells v_0.Nodes, lst Row.cells v_0.Acked] := rfl
  have zf1 : argFr [.agg [.int .i64 v_0.Truth.Epoch, .int .i64 v_0.Truth.Leader, lst cI v_0.Truth.InStep, lst Node.cells v_0.Nodes, lst Row.cells v_0.Acked],
      .int .i64 v_1] 1 = .int .i64 v_1 := rfl
  generalize argFr [.agg [.int .i64 v_0.Truth.Epoch, .int .i64 v_0.Truth.Leader, lst cI v_0.Truth.InStep, lst Node.cells v_0.Nodes, lst Row.cells v_0.Acked],
      .int .i64 v_1] = fr0 at zf0 zf1 ⊢
  have hS : Sep h h.length [] := Sep.nil h
  simp only [x55, run_seq, run_reg, run_box, zf0, put_at, put_no, ev_t, ev_c, reduceIte, Nat.reduceEqDiff, List.map_cons, List.map_nil]
  refine put2_boxC (cs := [.int .i64 v_0.Truth.Epoch, .int .i64 v_0.Truth.Leader, lst cI v_0.Truth.InStep, lst Node.cells v_0.Nodes,
      lst Row.cells v_0.Acked]) hS rfl rfl rfl (fun b1 h2 hS3 => ?_)
  simp only [run_mv, run_ops_nil, put_at, put_no, ev_t, ev_c, reduceIte, Nat.reduceEqDiff, List.map_cons, List.map_nil]
  refine frz_stepC hS3 hW (by simp only [put_at, put_no, ev_t, ev_c, reduceIte, Nat.reduceEqDiff, List.map_cons, List.map_nil]) (fun h5 hS6 => ?_)
  simp only [run_frz_nil, x55_8, run_seq, run_reg, run_fa, put1_some, Nat.reduceAdd, Nat.zero_add, Nat.add_zero, xfa_ref, run_ld, put_at, put_no, ev_t, ev_c, reduceIte,
      Nat.reduceEqDiff, List.map_cons, List.map_nil]
  refine put1_eq (v := lst Node.cells v_0.Nodes) rfl ?_
  obtain ⟨x7, hx8, hF9⟩ := bind_some' hF
  simp only [zf1, run_mv, run_ia, put_at, put_no, ev_t, ev_c, reduceIte, Nat.reduceEqDiff, List.map_cons, List.map_nil]
  refine put1_eq (v := .ref (Node.cells x7) 0) (xia_lst hx8 rfl) ?_
  simp only [run_ld, put_at, put_no, ev_t, ev_c, reduceIte, Nat.reduceEqDiff, List.map_cons, List.map_nil]
  refine put1_eq (v := .agg [.int .i64 x7.View.Epoch, .int .i64 x7.View.Leader, lst cI x7.View.InStep, lst Row.cells x7.Log, lst cI x7.Known, .int .i64 x7.Told]) rfl ?_
  simp only [run_new, put_at, put_no, ev_t, ev_c, reduceIte, Nat.reduceEqDiff, List.map_cons, List.map_nil]
  refine put2_newC hS6 (fun b10 h11 hS12 => ?_)
  simp only [run_st, put_at, put_no, ev_t, ev_c, reduceIte, Nat.reduceEqDiff, List.map_cons, List.map_nil]
  refine put2_stCx (us := [.int .i64 x7.View.Epoch, .int .i64 x7.View.Leader, lst cI x7.View.InStep, lst Row.cells x7.Log, lst cI x7.Known,
      .int .i64 x7.Told]) rfl (cs' := [.int .i64 x7.View.Epoch, .int .i64 x7.View.Leader, lst cI x7.View.InStep, lst Row.cells x7.Log, lst cI x7.Known,
      .int .i64 x7.Told]) hS12 hW rfl rfl (Nat.le_of_ble_eq_true rfl) rfl (fun h14 hS15 => ?_)
  simp only [put_no, run_ops_nil, put_at, ev_t, ev_c, reduceIte, Nat.reduceEqDiff, List.map_cons, List.map_nil]
  refine frz_stepC hS15 hW (by simp only [put_at, put_no, ev_t, ev_c, reduceIte, Nat.reduceEqDiff, List.map_cons, List.map_nil]) (fun h16 hS17 => ?_)
  simp only [run_frz_nil, x55_7, run_seq, run_reg, run_fa, put1_some, Nat.reduceAdd, Nat.zero_add, Nat.add_zero, xfa_ref, run_ld, put_at, put_no, ev_t, ev_c, reduceIte,
      Nat.reduceEqDiff, List.map_cons, List.map_nil]
  refine put1_eq (v := .agg [.int .i64 x7.View.Epoch, .int .i64 x7.View.Leader, lst cI x7.View.InStep]) rfl ?_
  simp only [run_fa, put1_some, Nat.reduceAdd, Nat.zero_add, Nat.add_zero, xfa_ref, run_ld, put_at, put_no, ev_t, ev_c, reduceIte, Nat.reduceEqDiff, List.map_cons, List.map_nil]
  refine put1_eq (v := lst Node.cells v_0.Nodes) rfl ?_
  obtain ⟨v18, hx19, hF20⟩ := bind_some' hF9
  simp only [run_len, put1_some, xlen_lst, run_call, put_at, put_no, ev_t, ev_c, reduceIte, Nat.reduceEqDiff, List.map_cons, List.map_nil]
  refine call1 rfl (mapM1 (snap_agg (mapM1 snap_int (mapM1 snap_int (mapM1 snap_lst mapM0)))) (mapM1 snap_int mapM0)) (spec_l17View_x (fun b hb => decide_eq_true hb) x7.View
      (List.length v_0.Nodes : Int) v18 hx19) ?_
  simp only [run_un, put1_some, xnot, run_mv, put_at, put_no, ev_t, ev_c, reduceIte, Nat.reduceEqDiff, List.map_cons, List.map_nil]
  refine ops_j 8 (fun fr' h' => Sep h' h.length ([]) ∧ fr' 28 = .bool ((!v18) || (decide
      (v_0.Truth.Epoch < x7.View.Epoch))) ∧ fr' 1 = .int .i64 v_1 ∧ fr' 2 = .ref [.int .i64 v_0.Truth.Epoch, .int .i64 v_0.Truth.Leader, lst cI v_0.Truth.InStep,
      lst Node.cells v_0.Nodes, lst Row.cells v_0.Acked] 0 ∧ fr' 5 = .ref [.int .i64 x7.View.Epoch, .int .i64 x7.View.Leader, lst cI x7.View.InStep, lst Row.cells x7.Log,
      lst cI x7.Known, .int .i64 x7.Told] 0) (fun Q21 hN22 => ?_) ?_
  · simp only [List.take_succ_cons, List.take_zero]
    simp only [run_guard (g := 20), put_at, put_no, ev_t, ev_c, reduceIte, Nat.reduceEqDiff, List.map_cons, List.map_nil]
    refine guard_split (t := (!v18)) (fun hg23 => ?_) (fun hg23 => ?_)
    · simp only [hg23, run_guard (g := 20), guard_off', run_pick, put1_some, xpick_t, run_ops_nil, run_nil, put_at, put_no, ev_t, ev_c, reduceIte, Nat.reduceEqDiff, List.map_cons,
        List.map_nil]
      exact hN22 _ _ ⟨hS17, by rw [orT hg23]; simp only [put_at, put_no, ev_t, ev_c, reduceIte, Nat.reduceEqDiff, List.map_cons, List.map_nil], by simp only [zf1, put_at, put_no,
          ev_t, ev_c, reduceIte, Nat.reduceEqDiff, List.map_cons, List.map_nil], by simp only [put_at, put_no, ev_t, ev_c, reduceIte, Nat.reduceEqDiff, List.map_cons,
          List.map_nil], by simp only [put_at, put_no, ev_t, ev_c, reduceIte, Nat.reduceEqDiff, List.map_cons, List.map_nil]⟩
    · simp only [hg23, run_guard (g := 20), guard_false, run_fa, put1_some, Nat.reduceAdd, Nat.zero_add, Nat.add_zero, xfa_ref, run_ld, put_at, put_no, ev_t, ev_c, reduceIte,
        Nat.reduceEqDiff, List.map_cons, List.map_nil]
      refine put1_eq (v := .int .i64 x7.View.Epoch) rfl ?_
      simp only [hg23, run_guard (g := 20), guard_false, run_fa, put1_some, Nat.reduceAdd, Nat.zero_add, Nat.add_zero, xfa_ref, run_ld, put_at, put_no, ev_t, ev_c, reduceIte,
          Nat.reduceEqDiff, List.map_cons, List.map_nil]
      refine put1_eq (v := .int .i64 v_0.Truth.Epoch) rfl ?_
      simp only [hg23, run_guard (g := 20), guard_false, run_bin, put1_some, xgtr, run_pick, xpick_f, run_ops_nil, run_nil, put_at, put_no, ev_t, ev_c, reduceIte,
          Nat.reduceEqDiff, List.map_cons, List.map_nil]
      exact hN22 _ _ ⟨hS17, by rw [orF hg23]; simp only [put_at, put_no, ev_t, ev_c, reduceIte, Nat.reduceEqDiff, List.map_cons, List.map_nil], by simp only [zf1, put_at, put_no,
          ev_t, ev_c, reduceIte, Nat.reduceEqDiff, List.map_cons, List.map_nil], by simp only [put_at, put_no, ev_t, ev_c, reduceIte, Nat.reduceEqDiff, List.map_cons,
          List.map_nil], by simp only [put_at, put_no, ev_t, ev_c, reduceIte, Nat.reduceEqDiff, List.map_cons, List.map_nil]⟩
  · rintro fr24 h29 ⟨hS30, f25, f26, f27, f28⟩
    simp only [List.drop_succ_cons, List.drop_zero]
    simp only [f25, run_mv, put_at, put_no, ev_t, ev_c, reduceIte, Nat.reduceEqDiff, List.map_cons, List.map_nil]
    refine ops_j 17 (fun fr' h' => Sep h' h.length ([]) ∧ fr' 46 = .bool (((!v18) || (decide (v_0.Truth.Epoch < x7.View.Epoch))) || ((decide (x7.View.Epoch = v_0.Truth.Epoch)) &&
        (decide (x7.View.Leader ≠ v_0.Truth.Leader)))) ∧ fr' 1 = .int .i64 v_1 ∧ fr' 2 = .ref [.int .i64 v_0.Truth.Epoch, .int .i64 v_0.Truth.Leader, lst cI v_0.Truth.InStep,
        lst Node.cells v_0.Nodes, lst Row.cells v_0.Acked] 0 ∧ fr' 5 = .ref [.int .i64 x7.View.Epoch, .int .i64 x7.View.Leader, lst cI x7.View.InStep, lst Row.cells x7.Log,
        lst cI x7.Known, .int .i64 x7.Told] 0) (fun Q31 hN32 => ?_) ?_
    · simp only [List.take_succ_cons, List.take_zero]
      simp only [run_guard (g := 29), put_at, put_no, ev_t, ev_c, reduceIte, Nat.reduceEqDiff, List.map_cons, List.map_nil]
      refine guard_split (t := ((!v18) || (decide (v_0.Truth.Epoch < x7.View.Epoch)))) (fun hg33 => ?_) (fun hg33 => ?_)
      · simp only [hg33, run_guard (g := 29), guard_off', run_guard (g := 37), guard_tup, run_pick, put1_some, xpick_t, run_ops_nil, run_nil, put_at, put_no, ev_t, ev_c,
          reduceIte, Nat.reduceEqDiff, List.map_cons, List.map_nil]
        exact hN32 _ _ ⟨hS30, by rw [orT hg33]; simp only [put_at, put_no, ev_t, ev_c, reduceIte, Nat.reduceEqDiff, List.map_cons, List.map_nil], by simp only [f26, put_at,
            put_no, ev_t, ev_c, reduceIte, Nat.reduceEqDiff, List.map_cons, List.map_nil], by simp only [f27, put_at, put_no, ev_t, ev_c, reduceIte, Nat.reduceEqDiff,
            List.map_cons, List.map_nil], by simp only [f28, put_at, put_no, ev_t, ev_c, reduceIte, Nat.reduceEqDiff, List.map_cons, List.map_nil]⟩
      · simp only [hg33, run_guard (g := 29), guard_false, f28, run_fa, put1_some, Nat.reduceAdd, Nat.zero_add, Nat.add_zero, xfa_ref, run_ld, put_at, put_no, ev_t, ev_c,
          reduceIte, Nat.reduceEqDiff, List.map_cons, List.map_nil]
        refine put1_eq (v := .int .i64 x7.View.Epoch) rfl ?_
        simp only [hg33, run_guard (g := 29), guard_false, f27, run_fa, put1_some, Nat.reduceAdd, Nat.zero_add, Nat.add_zero, xfa_ref, run_ld, put_at, put_no, ev_t, ev_c,
            reduceIte, Nat.reduceEqDiff, List.map_cons, List.map_nil]
        refine put1_eq (v := .int .i64 v_0.Truth.Epoch) rfl ?_
        simp only [hg33, run_guard (g := 29), guard_false, run_bin, put1_some, xeql, run_mv, put_at, put_no, ev_t, ev_c, reduceIte, Nat.reduceEqDiff, List.map_cons, List.map_nil]
        refine ops_j 8 (fun fr' h' => Sep h' h.length ([]) ∧ fr' 45 = .bool ((decide (x7.View.Epoch = v_0.Truth.Epoch)) && (decide
            (x7.View.Leader ≠ v_0.Truth.Leader))) ∧ fr' 1 = .int .i64 v_1 ∧ fr' 2 = .ref [.int .i64 v_0.Truth.Epoch, .int .i64 v_0.Truth.Leader, lst cI v_0.Truth.InStep,
            lst Node.cells v_0.Nodes, lst Row.cells v_0.Acked] 0 ∧ fr' 5 = .ref [.int .i64 x7.View.Epoch, .int .i64 x7.View.Leader, lst cI x7.View.InStep, lst Row.cells x7.Log,
            lst cI x7.Known, .int .i64 x7.Told] 0 ∧ fr' 29 = .bool ((!v18) || (decide (v_0.Truth.Epoch < x7.View.Epoch)))) (fun Q34 hN35 => ?_) ?_
        · simp only [List.take_succ_cons, List.take_zero]
          simp only [run_guard (g := 37), put_at, put_no, ev_t, ev_c, reduceIte, Nat.reduceEqDiff, List.map_cons, List.map_nil]
          refine guard_split (t := (decide (x7.View.Epoch = v_0.Truth.Epoch))) (fun hg36 => ?_) (fun hg36 => ?_)
          · simp only [hg36, run_guard (g := 37), guard_true, f28, run_fa, put1_some, Nat.reduceAdd, Nat.zero_add, Nat.add_zero, xfa_ref, run_ld, put_at, put_no, ev_t, ev_c,
              reduceIte, Nat.reduceEqDiff, List.map_cons, List.map_nil]
            refine put1_eq (v := .int .i64 x7.View.Leader) rfl ?_
            simp only [hg36, run_guard (g := 37), guard_true, f27, run_fa, put1_some, Nat.reduceAdd, Nat.zero_add, Nat.add_zero, xfa_ref, run_ld, put_at, put_no, ev_t, ev_c,
                reduceIte, Nat.reduceEqDiff, List.map_cons, List.map_nil]
            refine put1_eq (v := .int .i64 v_0.Truth.Leader) rfl ?_
            simp only [hg36, run_guard (g := 37), guard_true, run_bin, put1_some, xneq, hg33, run_guard (g := 29), guard_false, run_pick, xpick_t, run_ops_nil, run_nil, put_at,
                put_no, ev_t, ev_c, reduceIte, Nat.reduceEqDiff, List.map_cons, List.map_nil]
            exact hN35 _ _ ⟨hS30, by rw [andT hg36]; simp only [put_at, put_no, ev_t, ev_c, reduceIte, Nat.reduceEqDiff, List.map_cons, List.map_nil], by simp only [f26, put_at,
                put_no, ev_t, ev_c, reduceIte, Nat.reduceEqDiff, List.map_cons, List.map_nil], by simp only [f27, put_at, put_no, ev_t, ev_c, reduceIte, Nat.reduceEqDiff,
                List.map_cons, List.map_nil], by simp only [f28, put_at, put_no, ev_t, ev_c, reduceIte, Nat.reduceEqDiff, List.map_cons, List.map_nil], by simp only [hg33, put_at,
                put_no, ev_t, ev_c, reduceIte, Nat.reduceEqDiff, List.map_cons, List.map_nil]⟩
          · simp only [hg36, run_guard (g := 37), guard_off, hg33, run_guard (g := 29), guard_false, run_pick, put1_some, xpick_f, run_ops_nil, run_nil, put_at, put_no, ev_t,
              ev_c, reduceIte, Nat.reduceEqDiff, List.map_cons, List.map_nil]
            exact hN35 _ _ ⟨hS30, by rw [andF hg36]; simp only [put_at, put_no, ev_t, ev_c, reduceIte, Nat.reduceEqDiff, List.map_cons, List.map_nil], by simp only [f26, put_at,
                put_no, ev_t, ev_c, reduceIte, Nat.reduceEqDiff, List.map_cons, List.map_nil], by simp only [f27, put_at, put_no, ev_t, ev_c, reduceIte, Nat.reduceEqDiff,
                List.map_cons, List.map_nil], by simp only [f28, put_at, put_no, ev_t, ev_c, reduceIte, Nat.reduceEqDiff, List.map_cons, List.map_nil], by simp only [hg33, put_at,
                put_no, ev_t, ev_c, reduceIte, Nat.reduceEqDiff, List.map_cons, List.map_nil]⟩
        · rintro fr37 h43 ⟨hS44, f38, f39, f40, f41, f42⟩
          simp only [List.drop_succ_cons, List.drop_zero]
          simp only [f42, hg33, run_pick, put1_some, xpick_f, f38, run_ops_nil, run_nil, put_at, put_no, ev_t, ev_c, reduceIte, Nat.reduceEqDiff, List.map_cons, List.map_nil]
          exact hN32 _ _ ⟨hS44, by rw [orF hg33]; simp only [put_at, put_no, ev_t, ev_c, reduceIte, Nat.reduceEqDiff, List.map_cons, List.map_nil], by simp only [f39, put_at,
              put_no, ev_t, ev_c, reduceIte, Nat.reduceEqDiff, List.map_cons, List.map_nil], by simp only [f40, put_at, put_no, ev_t, ev_c, reduceIte, Nat.reduceEqDiff,
              List.map_cons, List.map_nil], by simp only [f41, put_at, put_no, ev_t, ev_c, reduceIte, Nat.reduceEqDiff, List.map_cons, List.map_nil]⟩
    · rintro fr45 h50 ⟨hS51, f46, f47, f48, f49⟩
      simp only [List.drop_succ_cons, List.drop_zero]
      simp only [f46, run_mv, put_at, put_no, ev_t, ev_c, reduceIte, Nat.reduceEqDiff, List.map_cons, List.map_nil]
      obtain ⟨v55, hx56, hF57⟩ := bind_some' hF20
      refine ops_j 8 (fun fr' h' => Sep h' h.length ([]) ∧ fr' 55 = .bool v55 ∧ fr' 1 = .int .i64 v_1 ∧ fr' 2 = .ref [.int .i64 v_0.Truth.Epoch, .int .i64 v_0.Truth.Leader,
          lst cI v_0.Truth.InStep, lst Node.cells v_0.Nodes, lst Row.cells v_0.Acked] 0 ∧ fr' 5 = .ref [.int .i64 x7.View.Epoch, .int .i64 x7.View.Leader, lst cI x7.View.InStep,
          lst Row.cells x7.Log, lst cI x7.Known, .int .i64 x7.Told] 0) (fun Q52 hN53 => ?_) ?_
      · simp only [List.take_succ_cons, List.take_zero]
        simp only [run_guard (g := 47), put_at, put_no, ev_t, ev_c, reduceIte, Nat.reduceEqDiff, List.map_cons, List.map_nil]
        refine guard_split (t := (((!v18) || (decide (v_0.Truth.Epoch < x7.View.Epoch))) || ((decide (x7.View.Epoch = v_0.Truth.Epoch)) && (decide
            (x7.View.Leader ≠ v_0.Truth.Leader))))) (fun hg54 => ?_) (fun hg54 => ?_)
        · rw [iteT hg54] at hx56
          simp only [hg54, run_guard (g := 47), guard_off', run_pick, put1_some, xpick_t, run_ops_nil, run_nil, put_at, put_no, ev_t, ev_c, reduceIte, Nat.reduceEqDiff,
              List.map_cons, List.map_nil]
          have e58 := some_inj hx56
          exact hN53 _ _ ⟨hS51, by rw [← e58]; simp only [put_at, put_no, ev_t, ev_c, reduceIte, Nat.reduceEqDiff, List.map_cons, List.map_nil], by simp only [f47, put_at, put_no,
              ev_t, ev_c, reduceIte, Nat.reduceEqDiff, List.map_cons, List.map_nil], by simp only [f48, put_at, put_no, ev_t, ev_c, reduceIte, Nat.reduceEqDiff, List.map_cons,
              List.map_nil], by simp only [f49, put_at, put_no, ev_t, ev_c, reduceIte, Nat.reduceEqDiff, List.map_cons, List.map_nil]⟩
        · rw [iteF hg54] at hx56
          simp only [hg54, run_guard (g := 47), guard_false, f49, run_fa, put1_some, Nat.reduceAdd, Nat.zero_add, Nat.add_zero, xfa_ref, run_ld, put_at, put_no, ev_t, ev_c,
              reduceIte, Nat.reduceEqDiff, List.map_cons, List.map_nil]
          refine put1_eq (v := lst Row.cells x7.Log) rfl ?_
          simp only [hg54, run_guard (g := 47), guard_false, f49, run_fa, put1_some, Nat.reduceAdd, Nat.zero_add, Nat.add_zero, xfa_ref, run_ld, put_at, put_no, ev_t, ev_c,
              reduceIte, Nat.reduceEqDiff, List.map_cons, List.map_nil]
          refine put1_eq (v := .int .i64 x7.View.Epoch) rfl ?_
          obtain ⟨v59, hx60, hF61⟩ := bind_some' hx56
          simp only [hg54, run_guard (g := 47), guard_false, run_call, put_at, put_no, ev_t, ev_c, reduceIte, Nat.reduceEqDiff, List.map_cons, List.map_nil]
          refine call1 rfl (mapM1 snap_lst (mapM1 snap_int mapM0)) (spec_l11Log_x (fun b hb => decide_eq_true hb) x7.Log x7.View.Epoch v59 hx60) ?_
          simp only [hg54, run_guard (g := 47), guard_false, run_un, put1_some, xnot, run_pick, xpick_f, run_ops_nil, run_nil, put_at, put_no, ev_t, ev_c, reduceIte,
              Nat.reduceEqDiff, List.map_cons, List.map_nil]
          have e62 := some_inj hF61
          exact hN53 _ _ ⟨hS51, by rw [← e62]; simp only [put_at, put_no, ev_t, ev_c, reduceIte, Nat.reduceEqDiff, List.map_cons, List.map_nil], by simp only [f47, put_at, put_no,
              ev_t, ev_c, reduceIte, Nat.reduceEqDiff, List.map_cons, List.map_nil], by simp only [f48, put_at, put_no, ev_t, ev_c, reduceIte, Nat.reduceEqDiff, List.map_cons,
              List.map_nil], by simp only [f49, put_at, put_no, ev_t, ev_c, reduceIte, Nat.reduceEqDiff, List.map_cons, List.map_nil]⟩
      · rintro fr63 h68 ⟨hS69, f64, f65, f66, f67⟩
        simp only [List.drop_succ_cons, List.drop_zero]
        simp only [f64, run_mv, put_at, put_no, ev_t, ev_c, reduceIte, Nat.reduceEqDiff, List.map_cons, List.map_nil]
        refine ops_j 8 (fun fr' h' => Sep h' h.length ([]) ∧ fr' 64 = .bool (v55 || (decide ((List.length x7.Known : Int) ≠
            (List.length v_0.Nodes : Int)))) ∧ fr' 1 = .int .i64 v_1 ∧ fr' 2 = .ref [.int .i64 v_0.Truth.Epoch, .int .i64 v_0.Truth.Leader, lst cI v_0.Truth.InStep,
            lst Node.cells v_0.Nodes, lst Row.cells v_0.Acked] 0 ∧ fr' 5 = .ref [.int .i64 x7.View.Epoch, .int .i64 x7.View.Leader, lst cI x7.View.InStep, lst Row.cells x7.Log,
            lst cI x7.Known, .int .i64 x7.Told] 0) (fun Q70 hN71 => ?_) ?_
        · simp only [List.take_succ_cons, List.take_zero]
          simp only [run_guard (g := 56), put_at, put_no, ev_t, ev_c, reduceIte, Nat.reduceEqDiff, List.map_cons, List.map_nil]
          refine guard_split (t := v55) (fun hg72 => ?_) (fun hg72 => ?_)
          · simp only [hg72, run_guard (g := 56), guard_off', run_pick, put1_some, xpick_t, run_ops_nil, run_nil, put_at, put_no, ev_t, ev_c, reduceIte, Nat.reduceEqDiff,
              List.map_cons, List.map_nil]
            exact hN71 _ _ ⟨hS69, by rw [orT hg72]; simp only [put_at, put_no, ev_t, ev_c, reduceIte, Nat.reduceEqDiff, List.map_cons, List.map_nil], by simp only [f65, put_at,
                put_no, ev_t, ev_c, reduceIte, Nat.reduceEqDiff, List.map_cons, List.map_nil], by simp only [f66, put_at, put_no, ev_t, ev_c, reduceIte, Nat.reduceEqDiff,
                List.map_cons, List.map_nil], by simp only [f67, put_at, put_no, ev_t, ev_c, reduceIte, Nat.reduceEqDiff, List.map_cons, List.map_nil]⟩
          · simp only [hg72, run_guard (g := 56), guard_false, f67, run_fa, put1_some, Nat.reduceAdd, Nat.zero_add, Nat.add_zero, xfa_ref, run_ld, put_at, put_no, ev_t, ev_c,
              reduceIte, Nat.reduceEqDiff, List.map_cons, List.map_nil]
            refine put1_eq (v := lst cI x7.Known) rfl ?_
            simp only [hg72, run_guard (g := 56), guard_false, run_len, put1_some, xlen_lst, f66, run_fa, Nat.reduceAdd, Nat.zero_add, Nat.add_zero, xfa_ref, run_ld, put_at,
                put_no, ev_t, ev_c, reduceIte, Nat.reduceEqDiff, List.map_cons, List.map_nil]
            refine put1_eq (v := lst Node.cells v_0.Nodes) rfl ?_
            simp only [hg72, run_guard (g := 56), guard_false, run_len, put1_some, xlen_lst, run_bin, xneq, run_pick, xpick_f, run_ops_nil, run_nil, put_at, put_no, ev_t, ev_c,
                reduceIte, Nat.reduceEqDiff, List.map_cons, List.map_nil]
            exact hN71 _ _ ⟨hS69, by rw [orF hg72]; simp only [put_at, put_no, ev_t, ev_c, reduceIte, Nat.reduceEqDiff, List.map_cons, List.map_nil], by simp only [f65, put_at,
                put_no, ev_t, ev_c, reduceIte, Nat.reduceEqDiff, List.map_cons, List.map_nil], by simp only [f66, put_at, put_no, ev_t, ev_c, reduceIte, Nat.reduceEqDiff,
                List.map_cons, List.map_nil], by simp only [f67, put_at, put_no, ev_t, ev_c, reduceIte, Nat.reduceEqDiff, List.map_cons, List.map_nil]⟩
        · rintro fr73 h78 ⟨hS79, f74, f75, f76, f77⟩
          simp only [List.drop_succ_cons, List.drop_zero]
          simp only [f74, run_mv, put_at, put_no, ev_t, ev_c, reduceIte, Nat.reduceEqDiff, List.map_cons, List.map_nil]
          refine ops_j 4 (fun fr' h' => Sep h' h.length ([]) ∧ fr' 69 = .bool ((v55 || (decide ((List.length x7.Known : Int) ≠ (List.length v_0.Nodes : Int)))) || (decide
              (x7.Told < 0))) ∧ fr' 1 = .int .i64 v_1 ∧ fr' 2 = .ref [.int .i64 v_0.Truth.Epoch, .int .i64 v_0.Truth.Leader, lst cI v_0.Truth.InStep, lst Node.cells v_0.Nodes,
              lst Row.cells v_0.Acked] 0 ∧ fr' 5 = .ref [.int .i64 x7.View.Epoch, .int .i64 x7.View.Leader, lst cI x7.View.InStep, lst Row.cells x7.Log, lst cI x7.Known,
              .int .i64 x7.Told] 0) (fun Q80 hN81 => ?_) ?_
          · simp only [List.take_succ_cons, List.take_zero]
            simp only [run_guard (g := 65), put_at, put_no, ev_t, ev_c, reduceIte, Nat.reduceEqDiff, List.map_cons, List.map_nil]
            refine guard_split (t := (v55 || (decide ((List.length x7.Known : Int) ≠ (List.length v_0.Nodes : Int))))) (fun hg82 => ?_) (fun hg82 => ?_)
            · simp only [hg82, run_guard (g := 65), guard_off', run_pick, put1_some, xpick_t, run_ops_nil, run_nil, put_at, put_no, ev_t, ev_c, reduceIte, Nat.reduceEqDiff,
                List.map_cons, List.map_nil]
              exact hN81 _ _ ⟨hS79, by rw [orT hg82]; simp only [put_at, put_no, ev_t, ev_c, reduceIte, Nat.reduceEqDiff, List.map_cons, List.map_nil], by simp only [f75, put_at,
                  put_no, ev_t, ev_c, reduceIte, Nat.reduceEqDiff, List.map_cons, List.map_nil], by simp only [f76, put_at, put_no, ev_t, ev_c, reduceIte, Nat.reduceEqDiff,
                  List.map_cons, List.map_nil], by simp only [f77, put_at, put_no, ev_t, ev_c, reduceIte, Nat.reduceEqDiff, List.map_cons, List.map_nil]⟩
            · simp only [hg82, run_guard (g := 65), guard_false, f77, run_fa, put1_some, Nat.reduceAdd, Nat.zero_add, Nat.add_zero, xfa_ref, run_ld, put_at, put_no, ev_t, ev_c,
                reduceIte, Nat.reduceEqDiff, List.map_cons, List.map_nil]
              refine put1_eq (v := .int .i64 x7.Told) rfl ?_
              simp only [hg82, run_guard (g := 65), guard_false, run_bin, put1_some, xlss, run_pick, xpick_f, run_ops_nil, run_nil, put_at, put_no, ev_t, ev_c, reduceIte,
                  Nat.reduceEqDiff, List.map_cons, List.map_nil]
              exact hN81 _ _ ⟨hS79, by rw [orF hg82]; simp only [put_at, put_no, ev_t, ev_c, reduceIte, Nat.reduceEqDiff, List.map_cons, List.map_nil], by simp only [f75, put_at,
                  put_no, ev_t, ev_c, reduceIte, Nat.reduceEqDiff, List.map_cons, List.map_nil], by simp only [f76, put_at, put_no, ev_t, ev_c, reduceIte, Nat.reduceEqDiff,
                  List.map_cons, List.map_nil], by simp only [f77, put_at, put_no, ev_t, ev_c, reduceIte, Nat.reduceEqDiff, List.map_cons, List.map_nil]⟩
          · rintro fr83 h88 ⟨hS89, f84, f85, f86, f87⟩
            simp only [List.drop_succ_cons, List.drop_zero]
            simp only [f84, run_mv, put_at, put_no, ev_t, ev_c, reduceIte, Nat.reduceEqDiff, List.map_cons, List.map_nil]
            refine ops_j 7 (fun fr' h' => Sep h' h.length ([]) ∧ fr' 77 = .bool (((v55 || (decide ((List.length x7.Known : Int) ≠ (List.length v_0.Nodes : Int)))) || (decide
                (x7.Told < 0))) || (decide ((List.length x7.Log : Int) < x7.Told))) ∧ fr' 1 = .int .i64 v_1 ∧ fr' 2 = .ref [.int .i64 v_0.Truth.Epoch, .int .i64 v_0.Truth.Leader,
                lst cI v_0.Truth.InStep, lst Node.cells v_0.Nodes, lst Row.cells v_0.Acked] 0 ∧ fr' 5 = .ref [.int .i64 x7.View.Epoch, .int .i64 x7.View.Leader,
                lst cI x7.View.InStep, lst Row.cells x7.Log, lst cI x7.Known, .int .i64 x7.Told] 0) (fun Q90 hN91 => ?_) ?_
            · simp only [List.take_succ_cons, List.take_zero]
              simp only [run_guard (g := 70), put_at, put_no, ev_t, ev_c, reduceIte, Nat.reduceEqDiff, List.map_cons, List.map_nil]
              refine guard_split (t := ((v55 || (decide ((List.length x7.Known : Int) ≠ (List.length v_0.Nodes : Int)))) || (decide (x7.Told < 0)))) (fun hg92 => ?_)
                  (fun hg92 => ?_)
              · simp only [hg92, run_guard (g := 70), guard_off', run_pick, put1_some, xpick_t, run_ops_nil, run_nil, put_at, put_no, ev_t, ev_c, reduceIte, Nat.reduceEqDiff,
                  List.map_cons, List.map_nil]
                exact hN91 _ _ ⟨hS89, by rw [orT hg92]; simp only [put_at, put_no, ev_t, ev_c, reduceIte, Nat.reduceEqDiff, List.map_cons, List.map_nil], by simp only [f85,
                    put_at, put_no, ev_t, ev_c, reduceIte, Nat.reduceEqDiff, List.map_cons, List.map_nil], by simp only [f86, put_at, put_no, ev_t, ev_c, reduceIte,
                    Nat.reduceEqDiff, List.map_cons, List.map_nil], by simp only [f87, put_at, put_no, ev_t, ev_c, reduceIte, Nat.reduceEqDiff, List.map_cons, List.map_nil]⟩
              · simp only [hg92, run_guard (g := 70), guard_false, f87, run_fa, put1_some, Nat.reduceAdd, Nat.zero_add, Nat.add_zero, xfa_ref, run_ld, put_at, put_no, ev_t, ev_c,
                  reduceIte, Nat.reduceEqDiff, List.map_cons, List.map_nil]
                refine put1_eq (v := .int .i64 x7.Told) rfl ?_
                simp only [hg92, run_guard (g := 70), guard_false, f87, run_fa, put1_some, Nat.reduceAdd, Nat.zero_add, Nat.add_zero, xfa_ref, run_ld, put_at, put_no, ev_t, ev_c,
                    reduceIte, Nat.reduceEqDiff, List.map_cons, List.map_nil]
                refine put1_eq (v := lst Row.cells x7.Log) rfl ?_
                simp only [hg92, run_guard (g := 70), guard_false, run_len, put1_some, xlen_lst, run_bin, xgtr, run_pick, xpick_f, run_ops_nil, run_nil, put_at, put_no, ev_t,
                    ev_c, reduceIte, Nat.reduceEqDiff, List.map_cons, List.map_nil]
                exact hN91 _ _ ⟨hS89, by rw [orF hg92]; simp only [put_at, put_no, ev_t, ev_c, reduceIte, Nat.reduceEqDiff, List.map_cons, List.map_nil], by simp only [f85,
                    put_at, put_no, ev_t, ev_c, reduceIte, Nat.reduceEqDiff, List.map_cons, List.map_nil], by simp only [f86, put_at, put_no, ev_t, ev_c, reduceIte,
                    Nat.reduceEqDiff, List.map_cons, List.map_nil], by simp only [f87, put_at, put_no, ev_t, ev_c, reduceIte, Nat.reduceEqDiff, List.map_cons, List.map_nil]⟩
            · rintro fr93 h98 ⟨hS99, f94, f95, f96, f97⟩
              simp only [List.drop_succ_cons, List.drop_zero]
              simp only [run_ops_nil, f94, run_cond, put_at, put_no, ev_t, ev_c, reduceIte, Nat.reduceEqDiff, List.map_cons, List.map_nil]
              refine cond_split (t := (((v55 || (decide ((List.length x7.Known : Int) ≠ (List.length v_0.Nodes : Int)))) || (decide (x7.Told < 0))) || (decide
                  ((List.length x7.Log : Int) < x7.Told)))) (fun hc100 => ?_) (fun hc100 => ?_)
              · rw [iteT hc100] at hF57
                simp only [run_seq, run_reg, run_mv, run_ops_nil, run_ret, put_at, put_no, ev_t, ev_c, reduceIte, Nat.reduceEqDiff, List.map_cons, List.map_nil]
                have he := some_inj hF57
                subst he
                simp only [end_ret1, put_at, put_no, ev_t, ev_c, reduceIte, Nat.reduceEqDiff, List.map_cons, List.map_nil]
                exact rfl
              · rw [iteF hc100] at hF57
                simp only [run_skip, x55_6, run_seq, run_reg, f97, run_fa, put1_some, Nat.reduceAdd, Nat.zero_add, Nat.add_zero, xfa_ref, run_ld, put_at, put_no, ev_t, ev_c,
                    reduceIte, Nat.reduceEqDiff, List.map_cons, List.map_nil]
                refine put1_eq (v := lst cI x7.Known) rfl ?_
                simp only [run_len, put1_some, xlen_lst, run_mv, run_ops_nil, put_at, put_no, ev_t, ev_c, reduceIte, Nat.reduceEqDiff, List.map_cons, List.map_nil]
                obtain ⟨oc103, hX105, hk106⟩ := jn_some hF57
                simp only [x55_4]
                refine rangeL_j (σ := Unit) x7.Known (fun i101 x102 _ => spec_l17Node_b1 v_0 v_1 x7 i101 x102 )
                    (fun s fr' h' => fr' 1 = .int .i64 v_1 ∧ fr' 2 = .ref [.int .i64 v_0.Truth.Epoch, .int .i64 v_0.Truth.Leader, lst cI v_0.Truth.InStep,
                    lst Node.cells v_0.Nodes, lst Row.cells v_0.Acked] 0 ∧ fr' 5 = .ref [.int .i64 x7.View.Epoch, .int .i64 x7.View.Leader, lst cI x7.View.InStep,
                    lst Row.cells x7.Log, lst cI x7.Known, .int .i64 x7.Told] 0 ∧ fr' 79 = lst cI x7.Known ∧ Sep h' h.length ([])) hX105 ⟨by simp only [f95, put_at, put_no, ev_t,
                    ev_c, reduceIte, Nat.reduceEqDiff, List.map_cons, List.map_nil], by simp only [f96, put_at, put_no, ev_t, ev_c, reduceIte, Nat.reduceEqDiff, List.map_cons,
                    List.map_nil], by simp only [f97, put_at, put_no, ev_t, ev_c, reduceIte, Nat.reduceEqDiff, List.map_cons, List.map_nil], by simp only [put_at, put_no, ev_t,
                    ev_c, reduceIte, Nat.reduceEqDiff, List.map_cons, List.map_nil], hS99⟩ (by simp only [put_at, put_no, ev_t, ev_c, reduceIte, Nat.reduceEqDiff, List.map_cons,
                    List.map_nil]) (by simp only [put_at, put_no, ev_t, ev_c, reduceIte, Nat.reduceEqDiff, List.map_cons,
                    List.map_nil]) (fun _ _ _ h => h) rfl rfl (fun _ _ _ _ h => h) (fun _ _ _ _ h => h) (fun _ _ _ _ h => h) (by decide) ?_ ?_
                · rintro i101 x102 _ fr115 h116 hx122 ⟨f118, f119, f120, f121, hS117⟩ f123 f124 oc104 hF107 hr108 Q109 hN110 hB114 hK111 hR112 hE113
                  unfold spec_l17Node_b1 at hF107
                  simp only [x55_2, run_seq, run_reg, f121, f123, run_ia, put_at, put_no, ev_t, ev_c, reduceIte, Nat.reduceEqDiff, List.map_cons, List.map_nil]
                  refine put1_eq (v := .ref (cI x102) 0) (xia_lstN hx122 rfl) ?_
                  simp only [run_ld, put_at, put_no, ev_t, ev_c, reduceIte, Nat.reduceEqDiff, List.map_cons, List.map_nil]
                  refine put1_eq (v := .int .i64 x102) rfl ?_
                  simp only [run_mv, run_ops_nil, x55_1, run_seq, run_reg, run_bin, put1_some, xlss, put_at, put_no, ev_t, ev_c, reduceIte, Nat.reduceEqDiff, List.map_cons,
                      List.map_nil]
                  refine ops_j 6 (fun fr' h' => Sep h' h.length ([]) ∧ fr' 93 = .bool ((decide (x102 < 0)) || (decide
                      ((List.length x7.Log : Int) < x102))) ∧ fr' 1 = .int .i64 v_1 ∧ fr' 2 = .ref [.int .i64 v_0.Truth.Epoch, .int .i64 v_0.Truth.Leader, lst cI v_0.Truth.InStep,
                      lst Node.cells v_0.Nodes, lst Row.cells v_0.Acked] 0 ∧ fr' 5 = .ref [.int .i64 x7.View.Epoch, .int .i64 x7.View.Leader, lst cI x7.View.InStep,
                      lst Row.cells x7.Log, lst cI x7.Known,
                      .int .i64 x7.Told] 0 ∧ fr' 7 = .int .i64 x102 ∧ fr' 79 = lst cI x7.Known ∧ fr' 80 = .int .i64 (List.length x7.Known : Int) ∧ fr' 81 = .int .i64
                      (i101 : Int)) (fun Q125 hN126 => ?_) ?_
                  · simp only [List.take_succ_cons, List.take_zero]
                    simp only [run_guard (g := 87), put_at, put_no, ev_t, ev_c, reduceIte, Nat.reduceEqDiff, List.map_cons, List.map_nil]
                    refine guard_split (t := (decide (x102 < 0))) (fun hg127 => ?_) (fun hg127 => ?_)
                    · simp only [hg127, run_guard (g := 87), guard_off', run_pick, put1_some, xpick_t, run_ops_nil, run_nil, put_at, put_no, ev_t, ev_c, reduceIte,
                        Nat.reduceEqDiff, List.map_cons, List.map_nil]
                      exact hN126 _ _ ⟨hS117, by rw [orT hg127]; simp only [put_at, put_no, ev_t, ev_c, reduceIte, Nat.reduceEqDiff, List.map_cons, List.map_nil],
                          by simp only [f118, put_at, put_no, ev_t, ev_c, reduceIte, Nat.reduceEqDiff, List.map_cons, List.map_nil], by simp only [f119, put_at, put_no, ev_t,
                          ev_c, reduceIte, Nat.reduceEqDiff, List.map_cons, List.map_nil], by simp only [f120, put_at, put_no, ev_t, ev_c, reduceIte, Nat.reduceEqDiff,
                          List.map_cons, List.map_nil], by simp only [put_at, put_no, ev_t, ev_c, reduceIte, Nat.reduceEqDiff, List.map_cons, List.map_nil], by simp only [f121,
                          put_at, put_no, ev_t, ev_c, reduceIte, Nat.reduceEqDiff, List.map_cons, List.map_nil], by simp only [f124, put_at, put_no, ev_t, ev_c, reduceIte,
                          Nat.reduceEqDiff, List.map_cons, List.map_nil], by simp only [f123, put_at, put_no, ev_t, ev_c, reduceIte, Nat.reduceEqDiff, List.map_cons, List.map_nil]⟩
                    · simp only [hg127, run_guard (g := 87), guard_false, run_mv, f120, run_fa, put1_some, Nat.reduceAdd, Nat.zero_add, Nat.add_zero, xfa_ref, run_ld, put_at,
                        put_no, ev_t, ev_c, reduceIte, Nat.reduceEqDiff, List.map_cons, List.map_nil]
                      refine put1_eq (v := lst Row.cells x7.Log) rfl ?_
                      simp only [hg127, run_guard (g := 87), guard_false, run_len, put1_some, xlen_lst, run_bin, xgtr, run_pick, xpick_f, run_ops_nil, run_nil, put_at, put_no,
                          ev_t, ev_c, reduceIte, Nat.reduceEqDiff, List.map_cons, List.map_nil]
                      exact hN126 _ _ ⟨hS117, by rw [orF hg127]; simp only [put_at, put_no, ev_t, ev_c, reduceIte, Nat.reduceEqDiff, List.map_cons, List.map_nil],
                          by simp only [f118, put_at, put_no, ev_t, ev_c, reduceIte, Nat.reduceEqDiff, List.map_cons, List.map_nil], by simp only [f119, put_at, put_no, ev_t,
                          ev_c, reduceIte, Nat.reduceEqDiff, List.map_cons, List.map_nil], by simp only [f120, put_at, put_no, ev_t, ev_c, reduceIte, Nat.reduceEqDiff,
                          List.map_cons, List.map_nil], by simp only [put_at, put_no, ev_t, ev_c, reduceIte, Nat.reduceEqDiff, List.map_cons, List.map_nil], by simp only [f121,
                          put_at, put_no, ev_t, ev_c, reduceIte, Nat.reduceEqDiff, List.map_cons, List.map_nil], by simp only [f124, put_at, put_no, ev_t, ev_c, reduceIte,
                          Nat.reduceEqDiff, List.map_cons, List.map_nil], by simp only [f123, put_at, put_no, ev_t, ev_c, reduceIte, Nat.reduceEqDiff, List.map_cons, List.map_nil]⟩
                  · rintro fr128 h137 ⟨hS138, f129, f130, f131, f132, f133, f134, f135, f136⟩
                    simp only [List.drop_succ_cons, List.drop_zero]
                    simp only [f129, run_mv, put_at, put_no, ev_t, ev_c, reduceIte, Nat.reduceEqDiff, List.map_cons, List.map_nil]
                    obtain ⟨v142, hx143, hF144⟩ := bind_some' hF107
                    refine ops_j 9 (fun fr' h' => Sep h' h.length ([]) ∧ fr' 103 = .bool v142 ∧ fr' 1 = .int .i64 v_1 ∧ fr' 2 = .ref [.int .i64 v_0.Truth.Epoch,
                        .int .i64 v_0.Truth.Leader, lst cI v_0.Truth.InStep, lst Node.cells v_0.Nodes, lst Row.cells v_0.Acked] 0 ∧ fr' 5 = .ref [.int .i64 x7.View.Epoch,
                        .int .i64 x7.View.Leader, lst cI x7.View.InStep, lst Row.cells x7.Log, lst cI x7.Known,
                        .int .i64 x7.Told] 0 ∧ fr' 79 = lst cI x7.Known ∧ fr' 80 = .int .i64 (List.length x7.Known : Int) ∧ fr' 81 = .int .i64 (i101 : Int))
                        (fun Q139 hN140 => ?_) ?_
                    · simp only [List.take_succ_cons, List.take_zero]
                      simp only [run_guard (g := 94), put_at, put_no, ev_t, ev_c, reduceIte, Nat.reduceEqDiff, List.map_cons, List.map_nil]
                      refine guard_split (t := ((decide (x102 < 0)) || (decide ((List.length x7.Log : Int) < x102)))) (fun hg141 => ?_) (fun hg141 => ?_)
                      · rw [iteT hg141] at hx143
                        simp only [hg141, run_guard (g := 94), guard_off', run_guard (g := 99), guard_tup, run_pick, put1_some, xpick_t, run_ops_nil, run_nil, put_at, put_no,
                            ev_t, ev_c, reduceIte, Nat.reduceEqDiff, List.map_cons, List.map_nil]
                        have e145 := some_inj hx143
                        exact hN140 _ _ ⟨hS138, by rw [← e145]; simp only [put_at, put_no, ev_t, ev_c, reduceIte, Nat.reduceEqDiff, List.map_cons, List.map_nil],
                            by simp only [f130, put_at, put_no, ev_t, ev_c, reduceIte, Nat.reduceEqDiff, List.map_cons, List.map_nil], by simp only [f131, put_at, put_no, ev_t,
                            ev_c, reduceIte, Nat.reduceEqDiff, List.map_cons, List.map_nil], by simp only [f132, put_at, put_no, ev_t, ev_c, reduceIte, Nat.reduceEqDiff,
                            List.map_cons, List.map_nil], by simp only [f134, put_at, put_no, ev_t, ev_c, reduceIte, Nat.reduceEqDiff, List.map_cons, List.map_nil],
                            by simp only [f135, put_at, put_no, ev_t, ev_c, reduceIte, Nat.reduceEqDiff, List.map_cons, List.map_nil], by simp only [f136, put_at, put_no, ev_t,
                            ev_c, reduceIte, Nat.reduceEqDiff, List.map_cons, List.map_nil]⟩
                      · rw [iteF hg141] at hx143
                        simp only [hg141, run_guard (g := 94), guard_false, f131, run_ld, put_at, put_no, ev_t, ev_c, reduceIte, Nat.reduceEqDiff, List.map_cons, List.map_nil]
                        refine put1_eq (v := .agg [.int .i64 v_0.Truth.Epoch, .int .i64 v_0.Truth.Leader, lst cI v_0.Truth.InStep, lst Node.cells v_0.Nodes,
                            lst Row.cells v_0.Acked]) rfl ?_
                        obtain ⟨v146, hx147, hF148⟩ := bind_some' hx143
                        simp only [hg141, run_guard (g := 94), guard_false, f130, run_mv, run_call, put_at, put_no, ev_t, ev_c, reduceIte, Nat.reduceEqDiff, List.map_cons,
                            List.map_nil]
                        refine call1 rfl (mapM1 (snap_agg (mapM1 snap_int (mapM1 snap_int (mapM1 snap_lst (mapM1 snap_lst (mapM1 snap_lst mapM0)))))) (mapM1 snap_int mapM0))
                            (spec_l17Thinks_x (fun b hb => decide_eq_true hb) v_0 v_1 v146 hx147) ?_
                        simp only [hg141, run_guard (g := 94), guard_false, run_un, put1_some, xnot, run_mv, put_at, put_no, ev_t, ev_c, reduceIte, Nat.reduceEqDiff,
                            List.map_cons, List.map_nil]
                        refine ops_j 3 (fun fr' h' => Sep h' h.length ([]) ∧ fr' 102 = .bool ((!v146) && (decide
                            (x102 ≠ 0))) ∧ fr' 1 = .int .i64 v_1 ∧ fr' 2 = .ref [.int .i64 v_0.Truth.Epoch, .int .i64 v_0.Truth.Leader, lst cI v_0.Truth.InStep,
                            lst Node.cells v_0.Nodes, lst Row.cells v_0.Acked] 0 ∧ fr' 5 = .ref [.int .i64 x7.View.Epoch, .int .i64 x7.View.Leader, lst cI x7.View.InStep,
                            lst Row.cells x7.Log, lst cI x7.Known,
                            .int .i64 x7.Told] 0 ∧ fr' 79 = lst cI x7.Known ∧ fr' 80 = .int .i64 (List.length x7.Known : Int) ∧ fr' 81 = .int .i64 (i101 : Int) ∧ fr' 94 = .bool
                            ((decide (x102 < 0)) || (decide ((List.length x7.Log : Int) < x102)))) (fun Q149 hN150 => ?_) ?_
                        · simp only [List.take_succ_cons, List.take_zero]
                          simp only [run_guard (g := 99), put_at, put_no, ev_t, ev_c, reduceIte, Nat.reduceEqDiff, List.map_cons, List.map_nil]
                          refine guard_split (t := (!v146)) (fun hg151 => ?_) (fun hg151 => ?_)
                          · simp only [hg151, run_guard (g := 99), guard_true, f133, run_mv, run_bin, put1_some, xneq, hg141, run_guard (g := 94), guard_false, run_pick, xpick_t,
                              run_ops_nil, run_nil, put_at, put_no, ev_t, ev_c, reduceIte, Nat.reduceEqDiff, List.map_cons, List.map_nil]
                            exact hN150 _ _ ⟨hS138, by rw [andT hg151]; simp only [put_at, put_no, ev_t, ev_c, reduceIte, Nat.reduceEqDiff, List.map_cons, List.map_nil],
                                by simp only [f130, put_at, put_no, ev_t, ev_c, reduceIte, Nat.reduceEqDiff, List.map_cons, List.map_nil], by simp only [f131, put_at, put_no,
                                ev_t, ev_c, reduceIte, Nat.reduceEqDiff, List.map_cons, List.map_nil], by simp only [f132, put_at, put_no, ev_t, ev_c, reduceIte, Nat.reduceEqDiff,
                                List.map_cons, List.map_nil], by simp only [f134, put_at, put_no, ev_t, ev_c, reduceIte, Nat.reduceEqDiff, List.map_cons, List.map_nil],
                                by simp only [f135, put_at, put_no, ev_t, ev_c, reduceIte, Nat.reduceEqDiff, List.map_cons, List.map_nil], by simp only [f136, put_at, put_no,
                                ev_t, ev_c, reduceIte, Nat.reduceEqDiff, List.map_cons, List.map_nil], by simp only [hg141, put_at, put_no, ev_t, ev_c, reduceIte,
                                Nat.reduceEqDiff, List.map_cons, List.map_nil]⟩
                          · simp only [hg151, run_guard (g := 99), guard_off, hg141, run_guard (g := 94), guard_false, run_pick, put1_some, xpick_f, run_ops_nil, run_nil, put_at,
                              put_no, ev_t, ev_c, reduceIte, Nat.reduceEqDiff, List.map_cons, List.map_nil]
                            exact hN150 _ _ ⟨hS138, by rw [andF hg151]; simp only [put_at, put_no, ev_t, ev_c, reduceIte, Nat.reduceEqDiff, List.map_cons, List.map_nil],
                                by simp only [f130, put_at, put_no, ev_t, ev_c, reduceIte, Nat.reduceEqDiff, List.map_cons, List.map_nil], by simp only [f131, put_at, put_no,
                                ev_t, ev_c, reduceIte, Nat.reduceEqDiff, List.map_cons, List.map_nil], by simp only [f132, put_at, put_no, ev_t, ev_c, reduceIte, Nat.reduceEqDiff,
                                List.map_cons, List.map_nil], by simp only [f134, put_at, put_no, ev_t, ev_c, reduceIte, Nat.reduceEqDiff, List.map_cons, List.map_nil],
                                by simp only [f135, put_at, put_no, ev_t, ev_c, reduceIte, Nat.reduceEqDiff, List.map_cons, List.map_nil], by simp only [f136, put_at, put_no,
                                ev_t, ev_c, reduceIte, Nat.reduceEqDiff, List.map_cons, List.map_nil], by simp only [hg141, put_at, put_no, ev_t, ev_c, reduceIte,
                                Nat.reduceEqDiff, List.map_cons, List.map_nil]⟩
                        · rintro fr152 h161 ⟨hS162, f153, f154, f155, f156, f157, f158, f159, f160⟩
                          simp only [List.drop_succ_cons, List.drop_zero]
                          simp only [f160, hg141, run_pick, put1_some, xpick_f, f153, run_ops_nil, run_nil, put_at, put_no, ev_t, ev_c, reduceIte, Nat.reduceEqDiff, List.map_cons,
                              List.map_nil]
                          have e163 := some_inj hF148
                          exact hN140 _ _ ⟨hS162, by rw [← e163]; simp only [put_at, put_no, ev_t, ev_c, reduceIte, Nat.reduceEqDiff, List.map_cons, List.map_nil],
                              by simp only [f154, put_at, put_no, ev_t, ev_c, reduceIte, Nat.reduceEqDiff, List.map_cons, List.map_nil], by simp only [f155, put_at, put_no, ev_t,
                              ev_c, reduceIte, Nat.reduceEqDiff, List.map_cons, List.map_nil], by simp only [f156, put_at, put_no, ev_t, ev_c, reduceIte, Nat.reduceEqDiff,
                              List.map_cons, List.map_nil], by simp only [f157, put_at, put_no, ev_t, ev_c, reduceIte, Nat.reduceEqDiff, List.map_cons, List.map_nil],
                              by simp only [f158, put_at, put_no, ev_t, ev_c, reduceIte, Nat.reduceEqDiff, List.map_cons, List.map_nil], by simp only [f159, put_at, put_no, ev_t,
                              ev_c, reduceIte, Nat.reduceEqDiff, List.map_cons, List.map_nil]⟩
                    · rintro fr164 h172 ⟨hS173, f165, f166, f167, f168, f169, f170, f171⟩
                      simp only [List.drop_succ_cons, List.drop_zero]
                      simp only [run_ops_nil, f165, run_cond, put_at, put_no, ev_t, ev_c, reduceIte, Nat.reduceEqDiff, List.map_cons, List.map_nil]
                      refine cond_split (t := v142) (fun hc174 => ?_) (fun hc174 => ?_)
                      · rw [iteT hc174] at hF144
                        simp only [run_seq, run_reg, run_mv, run_ops_nil, run_ret, put_at, put_no, ev_t, ev_c, reduceIte, Nat.reduceEqDiff, List.map_cons, List.map_nil]
                        have e175 := some_inj hF144
                        subst e175
                        have ho176 := hr108 _ rfl
                        have hk177 := hk106
                        rw [ho176] at hk177
                        dsimp only [jnO] at hk177
                        apply hR112
                        have he := some_inj hk177
                        subst he
                        simp only [end_ret1, put_at, put_no, ev_t, ev_c, reduceIte, Nat.reduceEqDiff, List.map_cons, List.map_nil]
                        exact rfl
                      · rw [iteF hc174] at hF144
                        simp only [run_skip, run_nil, put_at, put_no, ev_t, ev_c, reduceIte, Nat.reduceEqDiff, List.map_cons, List.map_nil]
                        have e178 := some_inj hF144
                        exact hN110 _ _ _ e178.symm ⟨by simp only [f166, put_at, put_no, ev_t, ev_c, reduceIte, Nat.reduceEqDiff, List.map_cons, List.map_nil], by simp only [f167,
                            put_at, put_no, ev_t, ev_c, reduceIte, Nat.reduceEqDiff, List.map_cons, List.map_nil], by simp only [f168, put_at, put_no, ev_t, ev_c, reduceIte,
                            Nat.reduceEqDiff, List.map_cons, List.map_nil], by simp only [f169, put_at, put_no, ev_t, ev_c, reduceIte, Nat.reduceEqDiff, List.map_cons,
                            List.map_nil], hS173⟩ (by simp only [f171, put_at, put_no, ev_t, ev_c, reduceIte, Nat.reduceEqDiff, List.map_cons, List.map_nil]) (by simp only [f170,
                            put_at, put_no, ev_t, ev_c, reduceIte, Nat.reduceEqDiff, List.map_cons, List.map_nil])
                · rintro _ fr180 h181 rfl ⟨f183, f184, f185, f186, hS182⟩
                  dsimp only [jnO] at hk106
                  unfold spec_l17Node_j1 at hk106
                  simp only [x55_5, run_seq, run_draw, f184, d4_fa, put1d_some, Nat.reduceAdd, Nat.zero_add, Nat.add_zero, xfa_ref, d4_ld, put_at, put_no, ev_t, ev_c, reduceIte,
                      Nat.reduceEqDiff, List.map_cons, List.map_nil]
                  refine put1d_eq (v := lst cI v_0.Truth.InStep) rfl ?_
                  obtain ⟨v187, hx188, hF189⟩ := bind_some' hk106
                  simp only [f183, d4_mv, put1d_some, run_d3_call, put_at, put_no, ev_t, ev_c, reduceIte, Nat.reduceEqDiff, List.map_cons, List.map_nil]
                  refine call1d rfl (mapM1 snap_lst (mapM1 snap_int mapM0)) (spec_l1Has_x (fun b hb => decide_eq_true hb) v_0.Truth.InStep v_1 v187 hx188) ?_
                  simp only [d4_un, put1d_some, xnot, d4_mv, put_at, put_no, ev_t, ev_c, reduceIte, Nat.reduceEqDiff, List.map_cons, List.map_nil]
                  simp only [run_guardd (g := 111), put_at, put_no, ev_t, ev_c, reduceIte, Nat.reduceEqDiff, List.map_cons, List.map_nil]
                  refine guardd_split (t := (!v187)) (fun hg190 => ?_) (fun hg190 => ?_)
                  · rw [iteT hg190] at hF189
                    simp only [hg190, run_guardd (g := 111), guardd_off', d4_pick, put1d_some, xpick_t, d4_mv, run_draw_nil, run_ret, put_at, put_no, ev_t, ev_c, reduceIte,
                        Nat.reduceEqDiff, List.map_cons, List.map_nil]
                    have he := some_inj hF189
                    subst he
                    simp only [end_ret1, put_at, put_no, ev_t, ev_c, reduceIte, Nat.reduceEqDiff, List.map_cons, List.map_nil]
                    exact rfl
                  · rw [iteF hg190] at hF189
                    simp only [hg190, run_guardd (g := 111), guardd_false, f184, d4_fa, put1d_some, Nat.reduceAdd, Nat.zero_add, Nat.add_zero, xfa_ref, d4_ld, put_at, put_no,
                        ev_t, ev_c, reduceIte, Nat.reduceEqDiff, List.map_cons, List.map_nil]
                    refine put1d_eq (v := lst Row.cells v_0.Acked) rfl ?_
                    simp only [hg190, run_guardd (g := 111), guardd_false, f185, d4_fa, put1d_some, Nat.reduceAdd, Nat.zero_add, Nat.add_zero, xfa_ref, d4_ld, put_at, put_no,
                        ev_t, ev_c, reduceIte, Nat.reduceEqDiff, List.map_cons, List.map_nil]
                    refine put1d_eq (v := lst Row.cells x7.Log) rfl ?_
                    obtain ⟨v191, hx192, hF193⟩ := bind_some' hF189
                    simp only [hg190, run_guardd (g := 111), guardd_false, run_d2_call, put_at, put_no, ev_t, ev_c, reduceIte, Nat.reduceEqDiff, List.map_cons, List.map_nil]
                    refine call1q rfl (mapM1 snap_lst (mapM1 snap_lst mapM0)) (spec_l11Same_x (fun b hb => decide_eq_true hb) k v_0.Acked x7.Log v191 hx192) ?_
                    simp only [hg190, run_guardd (g := 111), guardd_false, f184, d1_fa, put1d_some, Nat.reduceAdd, Nat.zero_add, Nat.add_zero, xfa_ref, d1_ld, ldd_ref, put_at,
                        put_no, ev_t, ev_c, reduceIte, Nat.reduceEqDiff, List.map_cons, List.map_nil]
                    refine put1d_eq (v := lst Row.cells v_0.Acked) rfl ?_
                    simp only [hg190, run_guardd (g := 111), guardd_false, d1_len, put1d_some, xlen_lst, d4_bin, xeql, d4_pick, xpick_f, d4_mv, run_draw_nil, run_ret, put_at,
                        put_no, ev_t, ev_c, reduceIte, Nat.reduceEqDiff, List.map_cons, List.map_nil]
                    have he := some_inj hF193
                    subst he
                    simp only [end_ret1, put_at, put_no, ev_t, ev_c, reduceIte, Nat.reduceEqDiff, List.map_cons, List.map_nil]
                    exact rfl
theorem spec_GoodCluster_x {W : Nat → Bool} {h : Heap} (hW : ∀ b,
    h.length ≤ b → W b = true) (k : Nat) (c_0 : Cluster) (r : Bool) (hF : spec_GoodCluster k c_0 = some r) : Ret E W 15 [.agg [.int .i64 c_0.Truth.Epoch,
    .int .i64 c_0.Truth.Leader, lst cI c_0.Truth.InStep, lst Node.cells c_0.Nodes, lst Row.cells c_0.Acked]] h (fun v h' => cut h.length h' E.sz false 9 v = some (.bool r)) := by
  refine Ret.of (fn := x15) rfl (Run.of ?_)
  unfold spec_GoodCluster at hF
  have zf0 : argFr [.agg [.int .i64 c_0.Truth.Epoch, .int .i64 c_0.Truth.Leader, lst cI c_0.Truth.InStep, lst Node.cells c_0.Nodes,
      lst Row.cells c_0.Acked]] 0 = .agg [.int .i64 c_0.Truth.Epoch, .int .i64 c_0.Truth.Leader, lst cI c_0.Truth.InStep, lst Node.cells c_0.Nodes, lst Row.cells c_0.Acked] := rfl
  generalize argFr [.agg [.int .i64 c_0.Truth.Epoch, .int .i64 c_0.Truth.Leader, lst cI c_0.Truth.InStep, lst Node.cells c_0.Nodes, lst Row.cells c_0.Acked]] = fr0 at zf0 ⊢
  have hS : Sep h h.length [] := Sep.nil h
  simp only [x15, run_seq, run_reg, run_box, zf0, put_at, put_no, ev_t, ev_c, reduceIte, Nat.reduceEqDiff, List.map_cons, List.map_nil]
  refine put2_boxC (cs := [.int .i64 c_0.Truth.Epoch, .int .i64 c_0.Truth.Leader, lst cI c_0.Truth.InStep, lst Node.cells c_0.Nodes,
      lst Row.cells c_0.Acked]) hS rfl rfl rfl (fun b1 h2 hS3 => ?_)
  simp only [run_mv, run_ops_nil, put_at, put_no, ev_t, ev_c, reduceIte, Nat.reduceEqDiff, List.map_cons, List.map_nil]
  refine frz_stepC hS3 hW (by simp only [put_at, put_no, ev_t, ev_c, reduceIte, Nat.reduceEqDiff, List.map_cons, List.map_nil]) (fun h5 hS6 => ?_)
  simp only [run_frz_nil, x15_7, run_seq, run_reg, run_fa, put1_some, Nat.reduceAdd, Nat.zero_add, Nat.add_zero, xfa_ref, run_ld, put_at, put_no, ev_t, ev_c, reduceIte,
      Nat.reduceEqDiff, List.map_cons, List.map_nil]
  refine put1_eq (v := lst Node.cells c_0.Nodes) rfl ?_
  simp only [run_len, put1_some, xlen_lst, run_mv, run_ops_nil, x15_6, run_seq, run_reg, run_call, put_at, put_no, ev_t, ev_c, reduceIte, Nat.reduceEqDiff, List.map_cons,
      List.map_nil]
  refine call1 rfl (mapM1 snap_int (mapM1 snap_int (mapM1 snap_int mapM0))) (spec_l1In_x (fun b hb => decide_eq_true hb) (List.length c_0.Nodes : Int) 2 4 _ rfl) ?_
  simp only [run_un, put1_some, xnot, run_mv, put_at, put_no, ev_t, ev_c, reduceIte, Nat.reduceEqDiff, List.map_cons, List.map_nil]
  obtain ⟨v10, hx11, hF12⟩ := bind_some' hF
  refine ops_j 6 (fun fr' h' => Sep h' h.length ([]) ∧ fr' 17 = .bool v10 ∧ fr' 1 = .ref [.int .i64 c_0.Truth.Epoch, .int .i64 c_0.Truth.Leader, lst cI c_0.Truth.InStep,
      lst Node.cells c_0.Nodes, lst Row.cells c_0.Acked] 0) (fun Q7 hN8 => ?_) ?_
  · simp only [List.take_succ_cons, List.take_zero]
    simp only [run_guard (g := 11), put_at, put_no, ev_t, ev_c, reduceIte, Nat.reduceEqDiff, List.map_cons, List.map_nil]
    refine guard_split (t := (!(spec_l1In (List.length c_0.Nodes : Int) 2 4))) (fun hg9 => ?_) (fun hg9 => ?_)
    · rw [iteT hg9] at hx11
      simp only [hg9, run_guard (g := 11), guard_off', run_pick, put1_some, xpick_t, run_ops_nil, run_nil, put_at, put_no, ev_t, ev_c, reduceIte, Nat.reduceEqDiff, List.map_cons,
          List.map_nil]
      have e13 := some_inj hx11
      exact hN8 _ _ ⟨hS6, by rw [← e13]; simp only [put_at, put_no, ev_t, ev_c, reduceIte, Nat.reduceEqDiff, List.map_cons, List.map_nil], by simp only [put_at, put_no, ev_t,
          ev_c, reduceIte, Nat.reduceEqDiff, List.map_cons, List.map_nil]⟩
    · rw [iteF hg9] at hx11
      simp only [hg9, run_guard (g := 11), guard_false, run_fa, put1_some, Nat.reduceAdd, Nat.zero_add, Nat.add_zero, xfa_ref, run_ld, put_at, put_no, ev_t, ev_c, reduceIte,
          Nat.reduceEqDiff, List.map_cons, List.map_nil]
      refine put1_eq (v := .agg [.int .i64 c_0.Truth.Epoch, .int .i64 c_0.Truth.Leader, lst cI c_0.Truth.InStep]) rfl ?_
      obtain ⟨v14, hx15, hF16⟩ := bind_some' hx11
      simp only [hg9, run_guard (g := 11), guard_false, run_mv, run_call, put_at, put_no, ev_t, ev_c, reduceIte, Nat.reduceEqDiff, List.map_cons, List.map_nil]
      refine call1 rfl (mapM1 (snap_agg (mapM1 snap_int (mapM1 snap_int (mapM1 snap_lst mapM0)))) (mapM1 snap_int mapM0)) (spec_l17View_x
          (fun b hb => decide_eq_true hb) c_0.Truth (List.length c_0.Nodes : Int) v14 hx15) ?_
      simp only [hg9, run_guard (g := 11), guard_false, run_un, put1_some, xnot, run_pick, xpick_f, run_ops_nil, run_nil, put_at, put_no, ev_t, ev_c, reduceIte, Nat.reduceEqDiff,
          List.map_cons, List.map_nil]
      have e17 := some_inj hF16
      exact hN8 _ _ ⟨hS6, by rw [← e17]; simp only [put_at, put_no, ev_t, ev_c, reduceIte, Nat.reduceEqDiff, List.map_cons, List.map_nil], by simp only [put_at, put_no, ev_t,
          ev_c, reduceIte, Nat.reduceEqDiff, List.map_cons, List.map_nil]⟩
  · rintro fr18 h21 ⟨hS22, f19, f20⟩
    simp only [List.drop_succ_cons, List.drop_zero]
    simp only [f19, run_mv, put_at, put_no, ev_t, ev_c, reduceIte, Nat.reduceEqDiff, List.map_cons, List.map_nil]
    obtain ⟨v26, hx27, hF28⟩ := bind_some' hF12
    refine ops_j 5 (fun fr' h' => Sep h' h.length ([]) ∧ fr' 23 = .bool v26 ∧ fr' 1 = .ref [.int .i64 c_0.Truth.Epoch, .int .i64 c_0.Truth.Leader, lst cI c_0.Truth.InStep,
        lst Node.cells c_0.Nodes, lst Row.cells c_0.Acked] 0) (fun Q23 hN24 => ?_) ?_
    · simp only [List.take_succ_cons, List.take_zero]
      simp only [run_guard (g := 18), put_at, put_no, ev_t, ev_c, reduceIte, Nat.reduceEqDiff, List.map_cons, List.map_nil]
      refine guard_split (t := v10) (fun hg25 => ?_) (fun hg25 => ?_)
      · rw [iteT hg25] at hx27
        simp only [hg25, run_guard (g := 18), guard_off', run_pick, put1_some, xpick_t, run_ops_nil, run_nil, put_at, put_no, ev_t, ev_c, reduceIte, Nat.reduceEqDiff,
            List.map_cons, List.map_nil]
        have e29 := some_inj hx27
        exact hN24 _ _ ⟨hS22, by rw [← e29]; simp only [put_at, put_no, ev_t, ev_c, reduceIte, Nat.reduceEqDiff, List.map_cons, List.map_nil], by simp only [f20, put_at, put_no,
            ev_t, ev_c, reduceIte, Nat.reduceEqDiff, List.map_cons, List.map_nil]⟩
      · rw [iteF hg25] at hx27
        simp only [hg25, run_guard (g := 18), guard_false, f20, run_fa, put1_some, Nat.reduceAdd, Nat.zero_add, Nat.add_zero, xfa_ref, run_ld, put_at, put_no, ev_t, ev_c,
            reduceIte, Nat.reduceEqDiff, List.map_cons, List.map_nil]
        refine put1_eq (v := lst Row.cells c_0.Acked) rfl ?_
        obtain ⟨v30, hx31, hF32⟩ := bind_some' hx27
        simp only [hg25, run_guard (g := 18), guard_false, run_call, put_at, put_no, ev_t, ev_c, reduceIte, Nat.reduceEqDiff, List.map_cons, List.map_nil]
        refine call1 rfl (mapM1 snap_lst (mapM1 snap_int mapM0)) (spec_l11Log_x (fun b hb => decide_eq_true hb) c_0.Acked 100 v30 hx31) ?_
        simp only [hg25, run_guard (g := 18), guard_false, run_un, put1_some, xnot, run_pick, xpick_f, run_ops_nil, run_nil, put_at, put_no, ev_t, ev_c, reduceIte,
            Nat.reduceEqDiff, List.map_cons, List.map_nil]
        have e33 := some_inj hF32
        exact hN24 _ _ ⟨hS22, by rw [← e33]; simp only [put_at, put_no, ev_t, ev_c, reduceIte, Nat.reduceEqDiff, List.map_cons, List.map_nil], by simp only [f20, put_at, put_no,
            ev_t, ev_c, reduceIte, Nat.reduceEqDiff, List.map_cons, List.map_nil]⟩
    · rintro fr34 h37 ⟨hS38, f35, f36⟩
      simp only [List.drop_succ_cons, List.drop_zero]
      simp only [run_ops_nil, f35, run_cond, put_at, put_no, ev_t, ev_c, reduceIte, Nat.reduceEqDiff, List.map_cons, List.map_nil]
      refine cond_split (t := v26) (fun hc39 => ?_) (fun hc39 => ?_)
      · rw [iteT hc39] at hF28
        simp only [run_seq, run_reg, run_mv, run_ops_nil, run_ret, put_at, put_no, ev_t, ev_c, reduceIte, Nat.reduceEqDiff, List.map_cons, List.map_nil]
        have he := some_inj hF28
        subst he
        simp only [end_ret1, put_at, put_no, ev_t, ev_c, reduceIte, Nat.reduceEqDiff, List.map_cons, List.map_nil]
        exact rfl
      · rw [iteF hc39] at hF28
        simp only [run_skip, x15_5, run_seq, run_reg, f36, run_fa, put1_some, Nat.reduceAdd, Nat.zero_add, Nat.add_zero, xfa_ref, run_ld, put_at, put_no, ev_t, ev_c, reduceIte,
            Nat.reduceEqDiff, List.map_cons, List.map_nil]
        refine put1_eq (v := lst Node.cells c_0.Nodes) rfl ?_
        simp only [run_len, put1_some, xlen_lst, run_mv, run_ops_nil, put_at, put_no, ev_t, ev_c, reduceIte, Nat.reduceEqDiff, List.map_cons, List.map_nil]
        obtain ⟨oc42, hX44, hk45⟩ := jn_some hF28
        simp only [x15_4]
        refine rangeN_j (σ := Unit) (fun i40 _ => spec_GoodCluster_b1 k c_0 i40 ) (fun s fr' h' => fr' 1 = .ref [.int .i64 c_0.Truth.Epoch, .int .i64 c_0.Truth.Leader,
            lst cI c_0.Truth.InStep, lst Node.cells c_0.Nodes, lst Row.cells c_0.Acked] 0 ∧ Sep h' h.length ([])) hX44 ⟨by simp only [f36, put_at, put_no, ev_t, ev_c, reduceIte,
            Nat.reduceEqDiff, List.map_cons, List.map_nil], hS38⟩ (by simp only [put_at, put_no, ev_t, ev_c, reduceIte, Nat.reduceEqDiff, List.map_cons,
            List.map_nil]) (by simp only [put_at, put_no, ev_t, ev_c, reduceIte, Nat.reduceEqDiff, List.map_cons,
            List.map_nil]) (fun _ _ _ h => h) rfl rfl (fun _ _ _ _ h => h) (fun _ _ _ _ h => h) (fun _ _ _ _ h => h) (by decide) ?_ ?_
        · rintro i40 _ fr54 h55 hx58 ⟨f57, hS56⟩ f59 f60 oc43 hF46 hr47 Q48 hN49 hB53 hK50 hR51 hE52
          unfold spec_GoodCluster_b1 at hF46
          simp only [x15_2, run_seq, run_reg, f59, run_mv, run_ops_nil, x15_1, f57, run_ld, put_at, put_no, ev_t, ev_c, reduceIte, Nat.reduceEqDiff, List.map_cons, List.map_nil]
          refine put1_eq (v := .agg [.int .i64 c_0.Truth.Epoch, .int .i64 c_0.Truth.Leader, lst cI c_0.Truth.InStep, lst Node.cells c_0.Nodes, lst Row.cells c_0.Acked]) rfl ?_
          obtain ⟨v61, hx62, hF63⟩ := bind_some' hF46
          simp only [run_mv, run_call, put_at, put_no, ev_t, ev_c, reduceIte, Nat.reduceEqDiff, List.map_cons, List.map_nil]
          refine call1 rfl (mapM1 (snap_agg (mapM1 snap_int (mapM1 snap_int (mapM1 snap_lst (mapM1 snap_lst (mapM1 snap_lst mapM0)))))) (mapM1 snap_int mapM0)) (spec_l17Node_x
              (fun b hb => decide_eq_true hb) k c_0 (i40 : Int) v61 hx62) ?_
          simp only [run_un, put1_some, xnot, run_ops_nil, run_cond, put_at, put_no, ev_t, ev_c, reduceIte, Nat.reduceEqDiff, List.map_cons, List.map_nil]
          refine cond_split (t := (!v61)) (fun hc64 => ?_) (fun hc64 => ?_)
          · rw [iteT hc64] at hF63
            simp only [run_seq, run_reg, run_mv, run_ops_nil, run_ret, put_at, put_no, ev_t, ev_c, reduceIte, Nat.reduceEqDiff, List.map_cons, List.map_nil]
            have e65 := some_inj hF63
            subst e65
            have ho66 := hr47 _ rfl
            have hk67 := hk45
            rw [ho66] at hk67
            dsimp only [jnO] at hk67
            apply hR51
            have he := some_inj hk67
            subst he
            simp only [end_ret1, put_at, put_no, ev_t, ev_c, reduceIte, Nat.reduceEqDiff, List.map_cons, List.map_nil]
            exact rfl
          · rw [iteF hc64] at hF63
            simp only [run_skip, run_nil, put_at, put_no, ev_t, ev_c, reduceIte, Nat.reduceEqDiff, List.map_cons, List.map_nil]
            have e68 := some_inj hF63
            exact hN49 _ _ _ e68.symm ⟨by simp only [f57, put_at, put_no, ev_t, ev_c, reduceIte, Nat.reduceEqDiff, List.map_cons, List.map_nil], hS56⟩ (by simp only [f59, put_at,
                put_no, ev_t, ev_c, reduceIte, Nat.reduceEqDiff, List.map_cons, List.map_nil]) (by simp only [f60, put_at, put_no, ev_t, ev_c, reduceIte, Nat.reduceEqDiff,
                List.map_cons, List.map_nil])
        · rintro _ fr70 h71 rfl ⟨f73, hS72⟩
          dsimp only [jnO] at hk45
          unfold spec_GoodCluster_j1 at hk45
          simp only [run_seq, run_reg, run_mv, run_ops_nil, run_ret, put_at, put_no, ev_t, ev_c, reduceIte, Nat.reduceEqDiff, List.map_cons, List.map_nil]
          have he := some_inj hk45
          subst he
          simp only [end_ret1, put_at, put_no, ev_t, ev_c, reduceIte, Nat.reduceEqDiff, List.map_cons, List.map_nil]
          exact rfl
end Go.Proofs.Ytohofoampalhoaa.X
namespace Go.Proofs.Ytohofoampalhoaa.X
open Go
theorem spec_ThinkLead_x {W : Nat → Bool} {h : Heap} (hW : ∀ b,
    h.length ≤ b → W b = true) (k : Nat) (c_0 : Cluster) (r : (List Int) × Bool) (hF : spec_ThinkLead k c_0 = some r) : Ret E W 18 [.agg [.int .i64 c_0.Truth.Epoch,
    .int .i64 c_0.Truth.Leader, lst cI c_0.Truth.InStep, lst Node.cells c_0.Nodes, lst Row.cells c_0.Acked]] h (fun v h' => ∃ rv0 rc0, v = .tup [rv0,
    .bool r.2] ∧ SlF cI 1 3 rv0 r.1 rc0 ∧ Sep h' h.length (rc0 ++ ([]))) := by
  refine Ret.of (fn := x18) rfl (Run.of ?_)
  unfold spec_ThinkLead at hF
  have zf0 : argFr [.agg [.int .i64 c_0.Truth.Epoch, .int .i64 c_0.Truth.Leader, lst cI c_0.Truth.InStep, lst Node.cells c_0.Nodes,
      lst Row.cells c_0.Acked]] 0 = .agg [.int .i64 c_0.Truth.Epoch, .int .i64 c_0.Truth.Leader, lst cI c_0.Truth.InStep, lst Node.cells c_0.Nodes, lst Row.cells c_0.Acked] := rfl
  generalize argFr [.agg [.int .i64 c_0.Truth.Epoch, .int .i64 c_0.Truth.Leader, lst cI c_0.Truth.InStep, lst Node.cells c_0.Nodes, lst Row.cells c_0.Acked]] = fr0 at zf0 ⊢
  have hS : Sep h h.length [] := Sep.nil h
  simp only [x18, run_seq, run_reg, run_box, zf0, put_at, put_no, ev_t, ev_c, reduceIte, Nat.reduceEqDiff, List.map_cons, List.map_nil]
  refine put2_boxC (cs := [.int .i64 c_0.Truth.Epoch, .int .i64 c_0.Truth.Leader, lst cI c_0.Truth.InStep, lst Node.cells c_0.Nodes,
      lst Row.cells c_0.Acked]) hS rfl rfl rfl (fun b1 h2 hS3 => ?_)
  simp only [run_mv, run_ops_nil, put_at, put_no, ev_t, ev_c, reduceIte, Nat.reduceEqDiff, List.map_cons, List.map_nil]
  refine frz_stepC hS3 hW (by simp only [put_at, put_no, ev_t, ev_c, reduceIte, Nat.reduceEqDiff, List.map_cons, List.map_nil]) (fun h5 hS6 => ?_)
  simp only [run_frz_nil, x18_10, run_seq, run_reg, run_ld, put_at, put_no, ev_t, ev_c, reduceIte, Nat.reduceEqDiff, List.map_cons, List.map_nil]
  refine put1_eq (v := .agg [.int .i64 c_0.Truth.Epoch, .int .i64 c_0.Truth.Leader, lst cI c_0.Truth.InStep, lst Node.cells c_0.Nodes, lst Row.cells c_0.Acked]) rfl ?_
  obtain ⟨v7, hx8, hF9⟩ := bind_some' hF
  simp only [run_call, put_at, put_no, ev_t, ev_c, reduceIte, Nat.reduceEqDiff, List.map_cons, List.map_nil]
  refine call1 rfl (mapM1 (snap_agg (mapM1 snap_int (mapM1 snap_int (mapM1 snap_lst (mapM1 snap_lst (mapM1 snap_lst mapM0)))))) mapM0) (spec_GoodCluster_x
      (fun b hb => decide_eq_true hb) k c_0 v7 hx8) ?_
  simp only [run_un, put1_some, xnot, run_ops_nil, x18_1, run_cond, put_at, put_no, ev_t, ev_c, reduceIte, Nat.reduceEqDiff, List.map_cons, List.map_nil]
  refine cond_split (t := (!v7)) (fun hc10 => ?_) (fun hc10 => ?_)
  · rw [iteT hc10] at hF9
    simp only [run_seq, run_reg, run_mv, run_ops_nil, run_ret, put_at, put_no, ev_t, ev_c, reduceIte, Nat.reduceEqDiff, List.map_cons, List.map_nil]
    have he := some_inj hF9
    subst he
    simp only [end_ret2, put_at, put_no, ev_t, ev_c, reduceIte, Nat.reduceEqDiff, List.map_cons, List.map_nil]
    exact ⟨.nil, [], by first | trivial | rfl, SlF.nil, hS6⟩
  · rw [iteF hc10] at hF9
    simp only [run_skip, x18_9, run_seq, run_reg, run_mv, run_ops_nil, x18_8, run_fa, put1_some, Nat.reduceAdd, Nat.zero_add, Nat.add_zero, xfa_ref, run_ld, put_at, put_no, ev_t,
        ev_c, reduceIte, Nat.reduceEqDiff, List.map_cons, List.map_nil]
    refine put1_eq (v := lst Node.cells c_0.Nodes) rfl ?_
    simp only [run_len, put1_some, xlen_lst, run_mv, run_ops_nil, put_at, put_no, ev_t, ev_c, reduceIte, Nat.reduceEqDiff, List.map_cons, List.map_nil]
    obtain ⟨oc23, hX25, hk26⟩ := jn_some hF9
    simp only [x18_7]
    refine rangeN_j (σ := (List Int)) (fun i21 s64 => spec_ThinkLead_b1 c_0 i21 s64) (fun s fr' h' => ∃ v18 c19, fr' 1 = .ref [.int .i64 c_0.Truth.Epoch,
        .int .i64 c_0.Truth.Leader, lst cI c_0.Truth.InStep, lst Node.cells c_0.Nodes,
        lst Row.cells c_0.Acked] 0 ∧ fr' 4 = v18 ∧ SlF cI 1 3 v18 s c19 ∧ Sep h' h.length (c19 ++ ([]))) hX25 ⟨.nil, [], by simp only [put_at, put_no, ev_t, ev_c, reduceIte,
        Nat.reduceEqDiff, List.map_cons, List.map_nil], by simp only [put_at, put_no, ev_t, ev_c, reduceIte, Nat.reduceEqDiff, List.map_cons, List.map_nil], SlF.nil,
        hS6⟩ (by simp only [put_at, put_no, ev_t, ev_c, reduceIte, Nat.reduceEqDiff, List.map_cons, List.map_nil]) (by simp only [put_at, put_no, ev_t, ev_c, reduceIte,
        Nat.reduceEqDiff, List.map_cons, List.map_nil]) (fun _ _ _ h => h) rfl rfl (fun _ _ _ _ h => h) (fun _ _ _ _ h => h) (fun _ _ _ _ h => h) (by decide) ?_ ?_
    · rintro i21 s16 fr35 h36 hx40 ⟨v18, c19, f38, f39, hv20, hS37⟩ f41 f42 oc24 hF27 hr28 Q29 hN30 hB34 hK31 hR32 hE33
      unfold spec_ThinkLead_b1 at hF27
      simp only [x18_5, run_seq, run_reg, f41, run_mv, run_ops_nil, x18_4, f38, run_ld, put_at, put_no, ev_t, ev_c, reduceIte, Nat.reduceEqDiff, List.map_cons, List.map_nil]
      refine put1_eq (v := .agg [.int .i64 c_0.Truth.Epoch, .int .i64 c_0.Truth.Leader, lst cI c_0.Truth.InStep, lst Node.cells c_0.Nodes, lst Row.cells c_0.Acked]) rfl ?_
      obtain ⟨v43, hx44, hF45⟩ := bind_some' hF27
      simp only [run_mv, run_call, put_at, put_no, ev_t, ev_c, reduceIte, Nat.reduceEqDiff, List.map_cons, List.map_nil]
      refine call1 rfl (mapM1 (snap_agg (mapM1 snap_int (mapM1 snap_int (mapM1 snap_lst (mapM1 snap_lst (mapM1 snap_lst mapM0)))))) (mapM1 snap_int mapM0)) (spec_l17Thinks_x
          (fun b hb => decide_eq_true hb) c_0 (i21 : Int) v43 hx44) ?_
      simp only [run_ops_nil, x18_3, run_cond, put_at, put_no, ev_t, ev_c, reduceIte, Nat.reduceEqDiff, List.map_cons, List.map_nil]
      refine cond_split (t := v43) (fun hc46 => ?_) (fun hc46 => ?_)
      · rw [iteT hc46] at hF45
        simp only [x18_2, run_reg, f39, run_mv, run_buildS, evp, put_at, put_no, ev_t, ev_c, reduceIte, Nat.reduceEqDiff, List.map_cons, List.map_nil]
        refine put2_buildSF (n := 1) (f := cI) [(i21 : Int)] hS37 rfl rfl (fun v47 c48 h49 hv50 hS51 => ?_)
        simp only [run_app, put_at, put_no, ev_t, ev_c, reduceIte, Nat.reduceEqDiff, List.map_cons, List.map_nil]
        obtain ⟨l53, hx54, hF55⟩ := bind_some' hF45
        refine put2_appF (f := cI) hv20 (Sep.m1 hS51) hW (fun _ => rfl) (fun _ => rfl) (SlF.first hv50 hS51 (fun _ => rfl)) hx54 (fun v56 c57 h58 hv59 hS60 => ?_)
        simp only [run_mv, run_ops_nil, run_nil, put_at, put_no, ev_t, ev_c, reduceIte, Nat.reduceEqDiff, List.map_cons, List.map_nil]
        have e62 := some_inj hF55
        exact hN30 _ _ _ e62.symm ⟨v56, c57, by simp only [f38, put_at, put_no, ev_t, ev_c, reduceIte, Nat.reduceEqDiff, List.map_cons, List.map_nil], by simp only [put_at,
            put_no, ev_t, ev_c, reduceIte, Nat.reduceEqDiff, List.map_cons, List.map_nil], hv59, (Sep.dc (Sep.m1 hS60))⟩ (by simp only [f41, put_at, put_no, ev_t, ev_c, reduceIte,
            Nat.reduceEqDiff, List.map_cons, List.map_nil]) (by simp only [f42, put_at, put_no, ev_t, ev_c, reduceIte, Nat.reduceEqDiff, List.map_cons, List.map_nil])
      · rw [iteF hc46] at hF45
        simp only [run_skip, run_nil, put_at, put_no, ev_t, ev_c, reduceIte, Nat.reduceEqDiff, List.map_cons, List.map_nil]
        have e63 := some_inj hF45
        exact hN30 _ _ _ e63.symm ⟨v18, c19, by simp only [f38, put_at, put_no, ev_t, ev_c, reduceIte, Nat.reduceEqDiff, List.map_cons, List.map_nil], by simp only [f39, put_at,
            put_no, ev_t, ev_c, reduceIte, Nat.reduceEqDiff, List.map_cons, List.map_nil], hv20, hS37⟩ (by simp only [f41, put_at, put_no, ev_t, ev_c, reduceIte, Nat.reduceEqDiff,
            List.map_cons, List.map_nil]) (by simp only [f42, put_at, put_no, ev_t, ev_c, reduceIte, Nat.reduceEqDiff, List.map_cons, List.map_nil])
    · rintro s65 fr70 h71 rfl ⟨v67, c68, f73, f74, hv69, hS72⟩
      dsimp only [jnO] at hk26
      unfold spec_ThinkLead_j1 at hk26
      simp only [run_seq, run_reg, f74, run_mv, run_ops_nil, run_ret, put_at, put_no, ev_t, ev_c, reduceIte, Nat.reduceEqDiff, List.map_cons, List.map_nil]
      have he := some_inj hk26
      subst he
      simp only [end_ret2, put_at, put_no, ev_t, ev_c, reduceIte, Nat.reduceEqDiff, List.map_cons, List.map_nil]
      exact ⟨v67, c68, by first | trivial | rfl, hv69, hS72⟩
theorem impl_in_x {W : Nat → Bool} {h : Heap} (hW : ∀ b,
    h.length ≤ b → W b = true) (n_0 : Int) (low_1 : Int) (high_2 : Int) (r : Bool) (hF : some (impl_in n_0 low_1 high_2) = some r) : Ret E W 39 [.int .i64 n_0, .int .i64 low_1,
    .int .i64 high_2] h (fun v h' => cut h.length h' E.sz false 9 v = some (.bool r)) := by
  refine Ret.of (fn := x39) rfl (Run.of ?_)
  unfold impl_in at hF
  have zf0 : argFr [.int .i64 n_0, .int .i64 low_1, .int .i64 high_2] 0 = .int .i64 n_0 := rfl
  have zf1 : argFr [.int .i64 n_0, .int .i64 low_1, .int .i64 high_2] 1 = .int .i64 low_1 := rfl
  have zf2 : argFr [.int .i64 n_0, .int .i64 low_1, .int .i64 high_2] 2 = .int .i64 high_2 := rfl
  generalize argFr [.int .i64 n_0, .int .i64 low_1, .int .i64 high_2] = fr0 at zf0 zf1 zf2 ⊢
  have hS : Sep h h.length [] := Sep.nil h
  simp only [x39, run_seq, run_reg, run_mv, run_ops_nil, x39_1, zf0, zf1, run_bin, put1_some, xgeq, put_at, put_no, ev_t, ev_c, reduceIte, Nat.reduceEqDiff, List.map_cons,
      List.map_nil]
  refine ops_j 4 (fun fr' h' => Sep h' h.length ([]) ∧ fr' 14 = .bool ((decide (low_1 ≤ n_0)) && (decide (n_0 ≤ high_2)))) (fun Q1 hN2 => ?_) ?_
  · simp only [List.take_succ_cons, List.take_zero]
    simp only [run_guard (g := 10), put_at, put_no, ev_t, ev_c, reduceIte, Nat.reduceEqDiff, List.map_cons, List.map_nil]
    refine guard_split (t := (decide (low_1 ≤ n_0))) (fun hg3 => ?_) (fun hg3 => ?_)
    · simp only [hg3, run_guard (g := 10), guard_true, zf0, run_mv, zf2, run_bin, put1_some, xleq, run_pick, xpick_t, run_ops_nil, run_nil, put_at, put_no, ev_t, ev_c, reduceIte,
        Nat.reduceEqDiff, List.map_cons, List.map_nil]
      exact hN2 _ _ ⟨hS, by rw [andT hg3]; simp only [put_at, put_no, ev_t, ev_c, reduceIte, Nat.reduceEqDiff, List.map_cons, List.map_nil]⟩
    · simp only [hg3, run_guard (g := 10), guard_off, run_pick, put1_some, xpick_f, run_ops_nil, run_nil, put_at, put_no, ev_t, ev_c, reduceIte, Nat.reduceEqDiff, List.map_cons,
        List.map_nil]
      exact hN2 _ _ ⟨hS, by rw [andF hg3]; simp only [put_at, put_no, ev_t, ev_c, reduceIte, Nat.reduceEqDiff, List.map_cons, List.map_nil]⟩
  · rintro fr4 h6 ⟨hS7, f5⟩
    simp only [List.drop_succ_cons, List.drop_zero]
    simp only [f5, run_mv, run_ops_nil, run_ret, put_at, put_no, ev_t, ev_c, reduceIte, Nat.reduceEqDiff, List.map_cons, List.map_nil]
    have he := some_inj hF
    subst he
    simp only [end_ret1, put_at, put_no, ev_t, ev_c, reduceIte, Nat.reduceEqDiff, List.map_cons, List.map_nil]
    exact rfl
theorem slices_Index_int_x {W : Nat → Bool} {h : Heap} (hW : ∀ b,
    h.length ≤ b → W b = true) (s_0 : List Int) (v_1 : Int) (r : Int) (hF : slices_Index_int s_0 v_1 = some r) : Ret E W 96 [lst cI s_0,
    .int .i64 v_1] h (fun v h' => cut h.length h' E.sz false 9 v = some (.int .i64 r)) := by
  refine Ret.of (fn := x96) rfl (Run.of ?_)
  unfold slices_Index_int at hF
  have zf0 : argFr [lst cI s_0, .int .i64 v_1] 0 = lst cI s_0 := rfl
  have zf1 : argFr [lst cI s_0, .int .i64 v_1] 1 = .int .i64 v_1 := rfl
  generalize argFr [lst cI s_0, .int .i64 v_1] = fr0 at zf0 zf1 ⊢
  have hS : Sep h h.length [] := Sep.nil h
  simp only [x96, run_seq, run_reg, run_mv, run_ops_nil, x96_6, zf0, run_len, put1_some, xlen_lst, put_at, put_no, ev_t, ev_c, reduceIte, Nat.reduceEqDiff, List.map_cons,
      List.map_nil]
  obtain ⟨oc3, hX5, hk6⟩ := jn_some hF
  simp only [x96_5]
  refine rangeL_j (σ := Unit) s_0 (fun i1 x2 _ => slices_Index_int_b1 v_1 i1 x2 ) (fun s fr' h' => fr' 0 = lst cI s_0 ∧ fr' 1 = .int .i64 v_1 ∧ Sep h' h.length
      ([])) hX5 ⟨by simp only [zf0, put_at, put_no, ev_t, ev_c, reduceIte, Nat.reduceEqDiff, List.map_cons, List.map_nil], by simp only [zf1, put_at, put_no, ev_t, ev_c,
      reduceIte, Nat.reduceEqDiff, List.map_cons, List.map_nil], hS⟩ (by simp only [put_at, put_no, ev_t, ev_c, reduceIte, Nat.reduceEqDiff, List.map_cons,
      List.map_nil]) (by simp only [put_at, put_no, ev_t, ev_c, reduceIte, Nat.reduceEqDiff, List.map_cons,
      List.map_nil]) (fun _ _ _ h => h) rfl rfl (fun _ _ _ _ h => h) (fun _ _ _ _ h => h) (fun _ _ _ _ h => h) (by decide) ?_ ?_
  · rintro i1 x2 _ fr15 h16 hx20 ⟨f18, f19, hS17⟩ f21 f22 oc4 hF7 hr8 Q9 hN10 hB14 hK11 hR12 hE13
    unfold slices_Index_int_b1 at hF7
    simp only [x96_3, run_seq, run_reg, f21, run_mv, run_ops_nil, x96_2, f19, f18, run_ia, put_at, put_no, ev_t, ev_c, reduceIte, Nat.reduceEqDiff, List.map_cons, List.map_nil]
    refine put1_eq (v := .ref (cI x2) 0) (xia_lstN hx20 rfl) ?_
    simp only [run_ld, put_at, put_no, ev_t, ev_c, reduceIte, Nat.reduceEqDiff, List.map_cons, List.map_nil]
    refine put1_eq (v := .int .i64 x2) rfl ?_
    simp only [run_bin, put1_some, xeql, run_ops_nil, x96_1, run_cond, put_at, put_no, ev_t, ev_c, reduceIte, Nat.reduceEqDiff, List.map_cons, List.map_nil]
    refine cond_split (t := (decide (v_1 = x2))) (fun hc23 => ?_) (fun hc23 => ?_)
    · rw [iteT hc23] at hF7
      simp only [run_seq, run_reg, run_mv, run_ops_nil, run_ret, put_at, put_no, ev_t, ev_c, reduceIte, Nat.reduceEqDiff, List.map_cons, List.map_nil]
      have e24 := some_inj hF7
      subst e24
      have ho25 := hr8 _ rfl
      have hk26 := hk6
      rw [ho25] at hk26
      dsimp only [jnO] at hk26
      apply hR12
      have he := some_inj hk26
      subst he
      simp only [end_ret1, put_at, put_no, ev_t, ev_c, reduceIte, Nat.reduceEqDiff, List.map_cons, List.map_nil]
      exact rfl
    · rw [iteF hc23] at hF7
      simp only [run_skip, run_nil, put_at, put_no, ev_t, ev_c, reduceIte, Nat.reduceEqDiff, List.map_cons, List.map_nil]
      have e27 := some_inj hF7
      exact hN10 _ _ _ e27.symm ⟨by simp only [f18, put_at, put_no, ev_t, ev_c, reduceIte, Nat.reduceEqDiff, List.map_cons, List.map_nil], by simp only [f19, put_at, put_no, ev_t,
          ev_c, reduceIte, Nat.reduceEqDiff, List.map_cons, List.map_nil], hS17⟩ (by simp only [f21, put_at, put_no, ev_t, ev_c, reduceIte, Nat.reduceEqDiff, List.map_cons,
          List.map_nil]) (by simp only [f22, put_at, put_no, ev_t, ev_c, reduceIte, Nat.reduceEqDiff, List.map_cons, List.map_nil])
  · rintro _ fr29 h30 rfl ⟨f32, f33, hS31⟩
    dsimp only [jnO] at hk6
    unfold slices_Index_int_j1 at hk6
    simp only [run_seq, run_reg, run_mv, run_ops_nil, run_ret, put_at, put_no, ev_t, ev_c, reduceIte, Nat.reduceEqDiff, List.map_cons, List.map_nil]
    have he := some_inj hk6
    subst he
    simp only [end_ret1, put_at, put_no, ev_t, ev_c, reduceIte, Nat.reduceEqDiff, List.map_cons, List.map_nil]
    exact rfl
theorem slices_Contains_int_x {W : Nat → Bool} {h : Heap} (hW : ∀ b,
    h.length ≤ b → W b = true) (s_0 : List Int) (v_1 : Int) (r : Bool) (hF : slices_Contains_int s_0 v_1 = some r) : Ret E W 80 [lst cI s_0,
    .int .i64 v_1] h (fun v h' => cut h.length h' E.sz false 9 v = some (.bool r)) := by
  refine Ret.of (fn := x80) rfl (Run.of ?_)
  unfold slices_Contains_int at hF
  have zf0 : argFr [lst cI s_0, .int .i64 v_1] 0 = lst cI s_0 := rfl
  have zf1 : argFr [lst cI s_0, .int .i64 v_1] 1 = .int .i64 v_1 := rfl
  generalize argFr [lst cI s_0, .int .i64 v_1] = fr0 at zf0 zf1 ⊢
  have hS : Sep h h.length [] := Sep.nil h
  obtain ⟨v1, hx2, hF3⟩ := bind_some' hF
  simp only [x80, run_seq, run_reg, run_mv, run_ops_nil, x80_1, zf0, zf1, run_call, put_at, put_no, ev_t, ev_c, reduceIte, Nat.reduceEqDiff, List.map_cons, List.map_nil]
  refine call1 rfl (mapM1 snap_lst (mapM1 snap_int mapM0)) (slices_Index_int_x (fun b hb => decide_eq_true hb) s_0 v_1 v1 hx2) ?_
  simp only [run_bin, put1_some, xgeq, run_mv, run_ops_nil, run_ret, put_at, put_no, ev_t, ev_c, reduceIte, Nat.reduceEqDiff, List.map_cons, List.map_nil]
  have he := some_inj hF3
  subst he
  simp only [end_ret1, put_at, put_no, ev_t, ev_c, reduceIte, Nat.reduceEqDiff, List.map_cons, List.map_nil]
  exact rfl
theorem impl_areMembers_x {W : Nat → Bool} {h : Heap} (hW : ∀ b,
    h.length ≤ b → W b = true) (list_0 : List Int) (many_1 : Int) (r : Bool) (hF : impl_areMembers list_0 many_1 = some r) : Ret E W 92 [lst cI list_0,
    .int .i64 many_1] h (fun v h' => cut h.length h' E.sz false 9 v = some (.bool r)) := by
  refine Ret.of (fn := x92) rfl (Run.of ?_)
  unfold impl_areMembers at hF
  have zf0 : argFr [lst cI list_0, .int .i64 many_1] 0 = lst cI list_0 := rfl
  have zf1 : argFr [lst cI list_0, .int .i64 many_1] 1 = .int .i64 many_1 := rfl
  generalize argFr [lst cI list_0, .int .i64 many_1] = fr0 at zf0 zf1 ⊢
  have hS : Sep h h.length [] := Sep.nil h
  simp only [x92, run_seq, run_reg, run_mv, run_ops_nil, x92_5, zf0, run_len, put1_some, xlen_lst, put_at, put_no, ev_t, ev_c, reduceIte, Nat.reduceEqDiff, List.map_cons,
      List.map_nil]
  obtain ⟨oc3, hX5, hk6⟩ := jn_some hF
  simp only [x92_4]
  refine rangeL_j (σ := Unit) list_0 (fun i1 x2 _ => impl_areMembers_b1 list_0 many_1 i1 x2 )
      (fun s fr' h' => fr' 0 = lst cI list_0 ∧ fr' 1 = .int .i64 many_1 ∧ fr' 7 = lst cI list_0 ∧ Sep h' h.length ([])) hX5 ⟨by simp only [zf0, put_at, put_no, ev_t, ev_c,
      reduceIte, Nat.reduceEqDiff, List.map_cons, List.map_nil], by simp only [zf1, put_at, put_no, ev_t, ev_c, reduceIte, Nat.reduceEqDiff, List.map_cons, List.map_nil],
      by simp only [put_at, put_no, ev_t, ev_c, reduceIte, Nat.reduceEqDiff, List.map_cons, List.map_nil], hS⟩ (by simp only [put_at, put_no, ev_t, ev_c, reduceIte,
      Nat.reduceEqDiff, List.map_cons, List.map_nil]) (by simp only [put_at, put_no, ev_t, ev_c, reduceIte, Nat.reduceEqDiff, List.map_cons,
      List.map_nil]) (fun _ _ _ h => h) rfl rfl (fun _ _ _ _ h => h) (fun _ _ _ _ h => h) (fun _ _ _ _ h => h) (by decide) ?_ ?_
  · rintro i1 x2 _ fr15 h16 hx21 ⟨f18, f19, f20, hS17⟩ f22 f23 oc4 hF7 hr8 Q9 hN10 hB14 hK11 hR12 hE13
    unfold impl_areMembers_b1 at hF7
    simp only [x92_2, run_seq, run_reg, f22, run_mv, f20, run_ia, put_at, put_no, ev_t, ev_c, reduceIte, Nat.reduceEqDiff, List.map_cons, List.map_nil]
    refine put1_eq (v := .ref (cI x2) 0) (xia_lstN hx21 rfl) ?_
    simp only [run_ld, put_at, put_no, ev_t, ev_c, reduceIte, Nat.reduceEqDiff, List.map_cons, List.map_nil]
    refine put1_eq (v := .int .i64 x2) rfl ?_
    simp only [run_mv, run_ops_nil, x92_1, run_seq, run_reg, f19, run_bin, put1_some, xsub, run_call, put_at, put_no, ev_t, ev_c, reduceIte, Nat.reduceEqDiff, List.map_cons,
        List.map_nil]
    refine call1 rfl (mapM1 snap_int (mapM1 snap_int (mapM1 snap_int mapM0))) (impl_in_x (fun b hb => decide_eq_true hb) x2 0 (IntKind.wrap .i64 (many_1 - 1)) _ rfl) ?_
    simp only [run_un, put1_some, xnot, run_mv, put_at, put_no, ev_t, ev_c, reduceIte, Nat.reduceEqDiff, List.map_cons, List.map_nil]
    obtain ⟨v27, hx28, hF29⟩ := bind_some' hF7
    refine ops_j 12 (fun fr' h' => Sep h' h.length ([]) ∧ fr' 31 = .bool v27 ∧ fr' 0 = lst cI list_0 ∧ fr' 1 = .int .i64 many_1 ∧ fr' 7 = lst cI list_0 ∧ fr' 8 = .int .i64
        (List.length list_0 : Int) ∧ fr' 9 = .int .i64 (i1 : Int)) (fun Q24 hN25 => ?_) ?_
    · simp only [List.take_succ_cons, List.take_zero]
      simp only [run_guard (g := 19), put_at, put_no, ev_t, ev_c, reduceIte, Nat.reduceEqDiff, List.map_cons, List.map_nil]
      refine guard_split (t := (!(impl_in x2 0 (IntKind.wrap .i64 (many_1 - 1))))) (fun hg26 => ?_) (fun hg26 => ?_)
      · rw [iteT hg26] at hx28
        simp only [hg26, run_guard (g := 19), guard_off', run_guard (g := 22), guard_tup, run_pick, put1_some, xpick_t, run_ops_nil, run_nil, put_at, put_no, ev_t, ev_c,
            reduceIte, Nat.reduceEqDiff, List.map_cons, List.map_nil]
        have e30 := some_inj hx28
        exact hN25 _ _ ⟨hS17, by rw [← e30]; simp only [put_at, put_no, ev_t, ev_c, reduceIte, Nat.reduceEqDiff, List.map_cons, List.map_nil], by simp only [f18, put_at, put_no,
            ev_t, ev_c, reduceIte, Nat.reduceEqDiff, List.map_cons, List.map_nil], by simp only [f19, put_at, put_no, ev_t, ev_c, reduceIte, Nat.reduceEqDiff, List.map_cons,
            List.map_nil], by simp only [f20, put_at, put_no, ev_t, ev_c, reduceIte, Nat.reduceEqDiff, List.map_cons, List.map_nil], by simp only [f23, put_at, put_no, ev_t, ev_c,
            reduceIte, Nat.reduceEqDiff, List.map_cons, List.map_nil], by simp only [f22, put_at, put_no, ev_t, ev_c, reduceIte, Nat.reduceEqDiff, List.map_cons, List.map_nil]⟩
      · rw [iteF hg26] at hx28
        simp only [hg26, run_guard (g := 19), guard_false, run_mv, run_bin, put1_some, xgtr, put_at, put_no, ev_t, ev_c, reduceIte, Nat.reduceEqDiff, List.map_cons, List.map_nil]
        obtain ⟨v34, hx35, hF36⟩ := bind_some' hx28
        refine ops_j 8 (fun fr' h' => Sep h' h.length ([]) ∧ fr' 30 = .bool v34 ∧ fr' 0 = lst cI list_0 ∧ fr' 1 = .int .i64 many_1 ∧ fr' 7 = lst cI list_0 ∧ fr' 8 = .int .i64
            (List.length list_0 : Int) ∧ fr' 9 = .int .i64 (i1 : Int) ∧ fr' 19 = .bool (!(impl_in x2 0 (IntKind.wrap .i64 (many_1 - 1))))) (fun Q31 hN32 => ?_) ?_
        · simp only [List.take_succ_cons, List.take_zero]
          simp only [run_guard (g := 22), put_at, put_no, ev_t, ev_c, reduceIte, Nat.reduceEqDiff, List.map_cons, List.map_nil]
          refine guard_split (t := (decide ((0 : Int) < (i1 : Int)))) (fun hg33 => ?_) (fun hg33 => ?_)
          · rw [iteT hg33] at hx35
            obtain ⟨x37, hx38, hF39⟩ := bind_some' hx35
            simp only [hg33, run_guard (g := 22), guard_true, f18, run_mv, run_bin, put1_some, xsub, run_ia, put_at, put_no, ev_t, ev_c, reduceIte, Nat.reduceEqDiff,
                List.map_cons, List.map_nil]
            refine put1_eq (v := .ref (cI x37) 0) (xia_lst hx38 rfl) ?_
            simp only [hg33, run_guard (g := 22), guard_true, run_ld, put_at, put_no, ev_t, ev_c, reduceIte, Nat.reduceEqDiff, List.map_cons, List.map_nil]
            refine put1_eq (v := .int .i64 x37) rfl ?_
            simp only [hg33, run_guard (g := 22), guard_true, run_mv, run_bin, put1_some, xgeq, hg26, run_guard (g := 19), guard_false, run_pick, xpick_t, run_ops_nil, run_nil,
                put_at, put_no, ev_t, ev_c, reduceIte, Nat.reduceEqDiff, List.map_cons, List.map_nil]
            have e40 := some_inj hF39
            exact hN32 _ _ ⟨hS17, by rw [← e40]; simp only [put_at, put_no, ev_t, ev_c, reduceIte, Nat.reduceEqDiff, List.map_cons, List.map_nil], by simp only [f18, put_at,
                put_no, ev_t, ev_c, reduceIte, Nat.reduceEqDiff, List.map_cons, List.map_nil], by simp only [f19, put_at, put_no, ev_t, ev_c, reduceIte, Nat.reduceEqDiff,
                List.map_cons, List.map_nil], by simp only [f20, put_at, put_no, ev_t, ev_c, reduceIte, Nat.reduceEqDiff, List.map_cons, List.map_nil], by simp only [f23, put_at,
                put_no, ev_t, ev_c, reduceIte, Nat.reduceEqDiff, List.map_cons, List.map_nil], by simp only [f22, put_at, put_no, ev_t, ev_c, reduceIte, Nat.reduceEqDiff,
                List.map_cons, List.map_nil], by simp only [hg26, put_at, put_no, ev_t, ev_c, reduceIte, Nat.reduceEqDiff, List.map_cons, List.map_nil]⟩
          · rw [iteF hg33] at hx35
            simp only [hg33, run_guard (g := 22), guard_off, hg26, run_guard (g := 19), guard_false, run_pick, put1_some, xpick_f, run_ops_nil, run_nil, put_at, put_no, ev_t,
                ev_c, reduceIte, Nat.reduceEqDiff, List.map_cons, List.map_nil]
            have e41 := some_inj hx35
            exact hN32 _ _ ⟨hS17, by rw [← e41]; simp only [put_at, put_no, ev_t, ev_c, reduceIte, Nat.reduceEqDiff, List.map_cons, List.map_nil], by simp only [f18, put_at,
                put_no, ev_t, ev_c, reduceIte, Nat.reduceEqDiff, List.map_cons, List.map_nil], by simp only [f19, put_at, put_no, ev_t, ev_c, reduceIte, Nat.reduceEqDiff,
                List.map_cons, List.map_nil], by simp only [f20, put_at, put_no, ev_t, ev_c, reduceIte, Nat.reduceEqDiff, List.map_cons, List.map_nil], by simp only [f23, put_at,
                put_no, ev_t, ev_c, reduceIte, Nat.reduceEqDiff, List.map_cons, List.map_nil], by simp only [f22, put_at, put_no, ev_t, ev_c, reduceIte, Nat.reduceEqDiff,
                List.map_cons, List.map_nil], by simp only [hg26, put_at, put_no, ev_t, ev_c, reduceIte, Nat.reduceEqDiff, List.map_cons, List.map_nil]⟩
        · rintro fr42 h50 ⟨hS51, f43, f44, f45, f46, f47, f48, f49⟩
          simp only [List.drop_succ_cons, List.drop_zero]
          simp only [f49, hg26, run_pick, put1_some, xpick_f, f43, run_ops_nil, run_nil, put_at, put_no, ev_t, ev_c, reduceIte, Nat.reduceEqDiff, List.map_cons, List.map_nil]
          have e52 := some_inj hF36
          exact hN25 _ _ ⟨hS51, by rw [← e52]; simp only [put_at, put_no, ev_t, ev_c, reduceIte, Nat.reduceEqDiff, List.map_cons, List.map_nil], by simp only [f44, put_at, put_no,
              ev_t, ev_c, reduceIte, Nat.reduceEqDiff, List.map_cons, List.map_nil], by simp only [f45, put_at, put_no, ev_t, ev_c, reduceIte, Nat.reduceEqDiff, List.map_cons,
              List.map_nil], by simp only [f46, put_at, put_no, ev_t, ev_c, reduceIte, Nat.reduceEqDiff, List.map_cons, List.map_nil], by simp only [f47, put_at, put_no, ev_t,
              ev_c, reduceIte, Nat.reduceEqDiff, List.map_cons, List.map_nil], by simp only [f48, put_at, put_no, ev_t, ev_c, reduceIte, Nat.reduceEqDiff, List.map_cons,
              List.map_nil]⟩
    · rintro fr53 h60 ⟨hS61, f54, f55, f56, f57, f58, f59⟩
      simp only [List.drop_succ_cons, List.drop_zero]
      simp only [run_ops_nil, f54, run_cond, put_at, put_no, ev_t, ev_c, reduceIte, Nat.reduceEqDiff, List.map_cons, List.map_nil]
      refine cond_split (t := v27) (fun hc62 => ?_) (fun hc62 => ?_)
      · rw [iteT hc62] at hF29
        simp only [run_seq, run_reg, run_mv, run_ops_nil, run_ret, put_at, put_no, ev_t, ev_c, reduceIte, Nat.reduceEqDiff, List.map_cons, List.map_nil]
        have e63 := some_inj hF29
        subst e63
        have ho64 := hr8 _ rfl
        have hk65 := hk6
        rw [ho64] at hk65
        dsimp only [jnO] at hk65
        apply hR12
        have he := some_inj hk65
        subst he
        simp only [end_ret1, put_at, put_no, ev_t, ev_c, reduceIte, Nat.reduceEqDiff, List.map_cons, List.map_nil]
        exact rfl
      · rw [iteF hc62] at hF29
        simp only [run_skip, run_nil, put_at, put_no, ev_t, ev_c, reduceIte, Nat.reduceEqDiff, List.map_cons, List.map_nil]
        have e66 := some_inj hF29
        exact hN10 _ _ _ e66.symm ⟨by simp only [f55, put_at, put_no, ev_t, ev_c, reduceIte, Nat.reduceEqDiff, List.map_cons, List.map_nil], by simp only [f56, put_at, put_no,
            ev_t, ev_c, reduceIte, Nat.reduceEqDiff, List.map_cons, List.map_nil], by simp only [f57, put_at, put_no, ev_t, ev_c, reduceIte, Nat.reduceEqDiff, List.map_cons,
            List.map_nil], hS61⟩ (by simp only [f59, put_at, put_no, ev_t, ev_c, reduceIte, Nat.reduceEqDiff, List.map_cons, List.map_nil]) (by simp only [f58, put_at, put_no,
            ev_t, ev_c, reduceIte, Nat.reduceEqDiff, List.map_cons, List.map_nil])
  · rintro _ fr68 h69 rfl ⟨f71, f72, f73, hS70⟩
    dsimp only [jnO] at hk6
    unfold impl_areMembers_j1 at hk6
    simp only [run_seq, run_reg, run_mv, run_ops_nil, run_ret, put_at, put_no, ev_t, ev_c, reduceIte, Nat.reduceEqDiff, List.map_cons, List.map_nil]
    have he := some_inj hk6
    subst he
    simp only [end_ret1, put_at, put_no, ev_t, ev_c, reduceIte, Nat.reduceEqDiff, List.map_cons, List.map_nil]
    exact rfl
theorem impl_isView_x {W : Nat → Bool} {h : Heap} (hW : ∀ b,
    h.length ≤ b → W b = true) (v_0 : View) (nodes_1 : Int) (r : Bool) (hF : impl_isView v_0 nodes_1 = some r) : Ret E W 78 [.agg [.int .i64 v_0.Epoch, .int .i64 v_0.Leader,
    lst cI v_0.InStep], .int .i64 nodes_1] h (fun v h' => cut h.length h' E.sz false 9 v = some (.bool r)) := by
  refine Ret.of (fn := x78) rfl (Run.of ?_)
  unfold impl_isView at hF
  have zf0 : argFr [.agg [.int .i64 v_0.Epoch, .int .i64 v_0.Leader, lst cI v_0.InStep], .int .i64 nodes_1] 0 = .agg [.int .i64 v_0.Epoch, .int .i64 v_0.Leader,
      lst cI v_0.InStep] := rfl
  have zf1 : argFr [.agg [.int .i64 v_0.Epoch, .int .i64 v_0.Leader, lst cI v_0.InStep], .int .i64 nodes_1] 1 = .int .i64 nodes_1 := rfl
  generalize argFr [.agg [.int .i64 v_0.Epoch, .int .i64 v_0.Leader, lst cI v_0.InStep], .int .i64 nodes_1] = fr0 at zf0 zf1 ⊢
  have hS : Sep h h.length [] := Sep.nil h
  simp only [x78, run_seq, run_reg, run_box, zf0, put_at, put_no, ev_t, ev_c, reduceIte, Nat.reduceEqDiff, List.map_cons, List.map_nil]
  refine put2_boxC (cs := [.int .i64 v_0.Epoch, .int .i64 v_0.Leader, lst cI v_0.InStep]) hS rfl rfl rfl (fun b1 h2 hS3 => ?_)
  simp only [run_mv, run_ops_nil, put_at, put_no, ev_t, ev_c, reduceIte, Nat.reduceEqDiff, List.map_cons, List.map_nil]
  refine frz_stepC hS3 hW (by simp only [put_at, put_no, ev_t, ev_c, reduceIte, Nat.reduceEqDiff, List.map_cons, List.map_nil]) (fun h5 hS6 => ?_)
  simp only [run_frz_nil, x78_1, run_seq, run_reg, run_fa, put1_some, Nat.reduceAdd, Nat.zero_add, Nat.add_zero, xfa_ref, run_ld, put_at, put_no, ev_t, ev_c, reduceIte,
      Nat.reduceEqDiff, List.map_cons, List.map_nil]
  refine put1_eq (v := .int .i64 v_0.Epoch) rfl ?_
  simp only [run_call, put_at, put_no, ev_t, ev_c, reduceIte, Nat.reduceEqDiff, List.map_cons, List.map_nil]
  refine call1 rfl (mapM1 snap_int (mapM1 snap_int (mapM1 snap_int mapM0))) (impl_in_x (fun b hb => decide_eq_true hb) v_0.Epoch 0 100 _ rfl) ?_
  simp only [run_mv, put_at, put_no, ev_t, ev_c, reduceIte, Nat.reduceEqDiff, List.map_cons, List.map_nil]
  obtain ⟨v10, hx11, hF12⟩ := bind_some' hF
  refine ops_j 5 (fun fr' h' => Sep h' h.length ([]) ∧ fr' 13 = .bool v10 ∧ fr' 2 = .ref [.int .i64 v_0.Epoch, .int .i64 v_0.Leader, lst cI v_0.InStep] 0) (fun Q7 hN8 => ?_) ?_
  · simp only [List.take_succ_cons, List.take_zero]
    simp only [run_guard (g := 8), put_at, put_no, ev_t, ev_c, reduceIte, Nat.reduceEqDiff, List.map_cons, List.map_nil]
    refine guard_split (t := (impl_in v_0.Epoch 0 100)) (fun hg9 => ?_) (fun hg9 => ?_)
    · rw [iteT hg9] at hx11
      simp only [hg9, run_guard (g := 8), guard_true, run_fa, put1_some, Nat.reduceAdd, Nat.zero_add, Nat.add_zero, xfa_ref, run_ld, put_at, put_no, ev_t, ev_c, reduceIte,
          Nat.reduceEqDiff, List.map_cons, List.map_nil]
      refine put1_eq (v := lst cI v_0.InStep) rfl ?_
      obtain ⟨v13, hx14, hF15⟩ := bind_some' hx11
      simp only [hg9, run_guard (g := 8), guard_true, zf1, run_mv, run_call, put_at, put_no, ev_t, ev_c, reduceIte, Nat.reduceEqDiff, List.map_cons, List.map_nil]
      refine call1 rfl (mapM1 snap_lst (mapM1 snap_int mapM0)) (impl_areMembers_x (fun b hb => decide_eq_true hb) v_0.InStep nodes_1 v13 hx14) ?_
      simp only [hg9, run_pick, put1_some, xpick_t, run_ops_nil, run_nil, put_at, put_no, ev_t, ev_c, reduceIte, Nat.reduceEqDiff, List.map_cons, List.map_nil]
      have e16 := some_inj hF15
      exact hN8 _ _ ⟨hS6, by rw [← e16]; simp only [put_at, put_no, ev_t, ev_c, reduceIte, Nat.reduceEqDiff, List.map_cons, List.map_nil], by simp only [put_at, put_no, ev_t,
          ev_c, reduceIte, Nat.reduceEqDiff, List.map_cons, List.map_nil]⟩
    · rw [iteF hg9] at hx11
      simp only [hg9, run_guard (g := 8), guard_off, run_pick, put1_some, xpick_f, run_ops_nil, run_nil, put_at, put_no, ev_t, ev_c, reduceIte, Nat.reduceEqDiff, List.map_cons,
          List.map_nil]
      have e17 := some_inj hx11
      exact hN8 _ _ ⟨hS6, by rw [← e17]; simp only [put_at, put_no, ev_t, ev_c, reduceIte, Nat.reduceEqDiff, List.map_cons, List.map_nil], by simp only [put_at, put_no, ev_t,
          ev_c, reduceIte, Nat.reduceEqDiff, List.map_cons, List.map_nil]⟩
  · rintro fr18 h21 ⟨hS22, f19, f20⟩
    simp only [List.drop_succ_cons, List.drop_zero]
    simp only [f19, run_mv, put_at, put_no, ev_t, ev_c, reduceIte, Nat.reduceEqDiff, List.map_cons, List.map_nil]
    obtain ⟨v26, hx27, hF28⟩ := bind_some' hF12
    refine ops_j 6 (fun fr' h' => Sep h' h.length ([]) ∧ fr' 20 = .bool v26) (fun Q23 hN24 => ?_) ?_
    · simp only [List.take_succ_cons, List.take_zero]
      simp only [run_guard (g := 14), put_at, put_no, ev_t, ev_c, reduceIte, Nat.reduceEqDiff, List.map_cons, List.map_nil]
      refine guard_split (t := v10) (fun hg25 => ?_) (fun hg25 => ?_)
      · rw [iteT hg25] at hx27
        simp only [hg25, run_guard (g := 14), guard_true, f20, run_fa, put1_some, Nat.reduceAdd, Nat.zero_add, Nat.add_zero, xfa_ref, run_ld, put_at, put_no, ev_t, ev_c,
            reduceIte, Nat.reduceEqDiff, List.map_cons, List.map_nil]
        refine put1_eq (v := lst cI v_0.InStep) rfl ?_
        simp only [hg25, run_guard (g := 14), guard_true, f20, run_fa, put1_some, Nat.reduceAdd, Nat.zero_add, Nat.add_zero, xfa_ref, run_ld, put_at, put_no, ev_t, ev_c,
            reduceIte, Nat.reduceEqDiff, List.map_cons, List.map_nil]
        refine put1_eq (v := .int .i64 v_0.Leader) rfl ?_
        obtain ⟨v29, hx30, hF31⟩ := bind_some' hx27
        simp only [hg25, run_guard (g := 14), guard_true, run_call, put_at, put_no, ev_t, ev_c, reduceIte, Nat.reduceEqDiff, List.map_cons, List.map_nil]
        refine call1 rfl (mapM1 snap_lst (mapM1 snap_int mapM0)) (slices_Contains_int_x (fun b hb => decide_eq_true hb) v_0.InStep v_0.Leader v29 hx30) ?_
        simp only [hg25, run_pick, put1_some, xpick_t, run_ops_nil, run_nil, put_at, put_no, ev_t, ev_c, reduceIte, Nat.reduceEqDiff, List.map_cons, List.map_nil]
        have e32 := some_inj hF31
        exact hN24 _ _ ⟨hS22, by rw [← e32]; simp only [put_at, put_no, ev_t, ev_c, reduceIte, Nat.reduceEqDiff, List.map_cons, List.map_nil]⟩
      · rw [iteF hg25] at hx27
        simp only [hg25, run_guard (g := 14), guard_off, run_pick, put1_some, xpick_f, run_ops_nil, run_nil, put_at, put_no, ev_t, ev_c, reduceIte, Nat.reduceEqDiff,
            List.map_cons, List.map_nil]
        have e33 := some_inj hx27
        exact hN24 _ _ ⟨hS22, by rw [← e33]; simp only [put_at, put_no, ev_t, ev_c, reduceIte, Nat.reduceEqDiff, List.map_cons, List.map_nil]⟩
    · rintro fr34 h36 ⟨hS37, f35⟩
      simp only [List.drop_succ_cons, List.drop_zero]
      simp only [f35, run_mv, run_ops_nil, run_ret, put_at, put_no, ev_t, ev_c, reduceIte, Nat.reduceEqDiff, List.map_cons, List.map_nil]
      have he := some_inj hF28
      subst he
      simp only [end_ret1, put_at, put_no, ev_t, ev_c, reduceIte, Nat.reduceEqDiff, List.map_cons, List.map_nil]
      exact rfl
theorem impl_isRows_x {W : Nat → Bool} {h : Heap} (hW : ∀ b,
    h.length ≤ b → W b = true) (l_0 : List Row) (most_1 : Int) (r : Bool) (hF : impl_isRows l_0 most_1 = some r) : Ret E W 93 [lst Row.cells l_0,
    .int .i64 most_1] h (fun v h' => cut h.length h' E.sz false 9 v = some (.bool r)) := by
  refine Ret.of (fn := x93) rfl (Run.of ?_)
  unfold impl_isRows at hF
  have zf0 : argFr [lst Row.cells l_0, .int .i64 most_1] 0 = lst Row.cells l_0 := rfl
  have zf1 : argFr [lst Row.cells l_0, .int .i64 most_1] 1 = .int .i64 most_1 := rfl
  generalize argFr [lst Row.cells l_0, .int .i64 most_1] = fr0 at zf0 zf1 ⊢
  have hS : Sep h h.length [] := Sep.nil h
  simp only [x93, run_seq, run_reg, run_mv, run_ops_nil, x93_7, x93_6, zf0, run_len, put1_some, xlen_lst, put_at, put_no, ev_t, ev_c, reduceIte, Nat.reduceEqDiff, List.map_cons,
      List.map_nil]
  obtain ⟨oc5, hX7, hk8⟩ := jn_some hF
  simp only [x93_4]
  refine rangeL_j (σ := Int) l_0 (fun i3 x4 s53 => impl_isRows_b1 most_1 i3 x4 s53)
      (fun s fr' h' => fr' 0 = lst Row.cells l_0 ∧ fr' 1 = .int .i64 most_1 ∧ fr' 5 = .int .i64 s ∧ fr' 8 = lst Row.cells l_0 ∧ Sep h' h.length ([])) hX7 ⟨by simp only [zf0,
      put_at, put_no, ev_t, ev_c, reduceIte, Nat.reduceEqDiff, List.map_cons, List.map_nil], by simp only [zf1, put_at, put_no, ev_t, ev_c, reduceIte, Nat.reduceEqDiff,
      List.map_cons, List.map_nil], by simp only [put_at, put_no, ev_t, ev_c, reduceIte, Nat.reduceEqDiff, List.map_cons, List.map_nil], by simp only [put_at, put_no, ev_t, ev_c,
      reduceIte, Nat.reduceEqDiff, List.map_cons, List.map_nil], hS⟩ (by simp only [put_at, put_no, ev_t, ev_c, reduceIte, Nat.reduceEqDiff, List.map_cons,
      List.map_nil]) (by simp only [put_at, put_no, ev_t, ev_c, reduceIte, Nat.reduceEqDiff, List.map_cons,
      List.map_nil]) (fun _ _ _ h => h) rfl rfl (fun _ _ _ _ h => h) (fun _ _ _ _ h => h) (fun _ _ _ _ h => h) (by decide) ?_ ?_
  · rintro i3 x4 s2 fr17 h18 hx24 ⟨f20, f21, f22, f23, hS19⟩ f25 f26 oc6 hF9 hr10 Q11 hN12 hB16 hK13 hR14 hE15
    unfold impl_isRows_b1 at hF9
    simp only [x93_2, run_seq, run_reg, f23, f25, run_ia, put_at, put_no, ev_t, ev_c, reduceIte, Nat.reduceEqDiff, List.map_cons, List.map_nil]
    refine put1_eq (v := .ref (Row.cells x4) 0) (xia_lstN hx24 rfl) ?_
    simp only [run_ld, put_at, put_no, ev_t, ev_c, reduceIte, Nat.reduceEqDiff, List.map_cons, List.map_nil]
    refine put1_eq (v := .agg [.int .i64 x4.Epoch, .int .i64 x4.Value]) rfl ?_
    simp only [run_new, put_at, put_no, ev_t, ev_c, reduceIte, Nat.reduceEqDiff, List.map_cons, List.map_nil]
    refine put2_newC hS19 (fun b27 h28 hS29 => ?_)
    simp only [run_st, put_at, put_no, ev_t, ev_c, reduceIte, Nat.reduceEqDiff, List.map_cons, List.map_nil]
    refine put2_stCx (us := [.int .i64 x4.Epoch, .int .i64 x4.Value]) rfl (cs' := [.int .i64 x4.Epoch,
        .int .i64 x4.Value]) hS29 hW rfl rfl (Nat.le_of_ble_eq_true rfl) rfl (fun h31 hS32 => ?_)
    simp only [put_no, run_ops_nil, put_at, ev_t, ev_c, reduceIte, Nat.reduceEqDiff, List.map_cons, List.map_nil]
    refine frz_stepC hS32 hW (by simp only [put_at, put_no, ev_t, ev_c, reduceIte, Nat.reduceEqDiff, List.map_cons, List.map_nil]) (fun h33 hS34 => ?_)
    simp only [run_frz_nil, x93_1, run_seq, run_reg, run_fa, put1_some, Nat.reduceAdd, Nat.zero_add, Nat.add_zero, xfa_ref, run_ld, put_at, put_no, ev_t, ev_c, reduceIte,
        Nat.reduceEqDiff, List.map_cons, List.map_nil]
    refine put1_eq (v := .int .i64 x4.Epoch) rfl ?_
    simp only [f22, run_mv, f21, run_call, put_at, put_no, ev_t, ev_c, reduceIte, Nat.reduceEqDiff, List.map_cons, List.map_nil]
    refine call1 rfl (mapM1 snap_int (mapM1 snap_int (mapM1 snap_int mapM0))) (impl_in_x (fun b hb => decide_eq_true hb) x4.Epoch s2 most_1 _ rfl) ?_
    simp only [run_un, put1_some, xnot, run_mv, put_at, put_no, ev_t, ev_c, reduceIte, Nat.reduceEqDiff, List.map_cons, List.map_nil]
    refine ops_j 5 (fun fr' h' => Sep h' h.length ([]) ∧ fr' 25 = .bool ((!(impl_in x4.Epoch s2 most_1)) ||
        (!(impl_in x4.Value 0 99))) ∧ fr' 0 = lst Row.cells l_0 ∧ fr' 1 = .int .i64 most_1 ∧ fr' 7 = .ref [.int .i64 x4.Epoch,
        .int .i64 x4.Value] 0 ∧ fr' 8 = lst Row.cells l_0 ∧ fr' 9 = .int .i64 (List.length l_0 : Int) ∧ fr' 10 = .int .i64 (i3 : Int)) (fun Q35 hN36 => ?_) ?_
    · simp only [List.take_succ_cons, List.take_zero]
      simp only [run_guard (g := 20), put_at, put_no, ev_t, ev_c, reduceIte, Nat.reduceEqDiff, List.map_cons, List.map_nil]
      refine guard_split (t := (!(impl_in x4.Epoch s2 most_1))) (fun hg37 => ?_) (fun hg37 => ?_)
      · simp only [hg37, run_guard (g := 20), guard_off', run_pick, put1_some, xpick_t, run_ops_nil, run_nil, put_at, put_no, ev_t, ev_c, reduceIte, Nat.reduceEqDiff,
          List.map_cons, List.map_nil]
        exact hN36 _ _ ⟨hS34, by rw [orT hg37]; simp only [put_at, put_no, ev_t, ev_c, reduceIte, Nat.reduceEqDiff, List.map_cons, List.map_nil], by simp only [f20, put_at,
            put_no, ev_t, ev_c, reduceIte, Nat.reduceEqDiff, List.map_cons, List.map_nil], by simp only [f21, put_at, put_no, ev_t, ev_c, reduceIte, Nat.reduceEqDiff,
            List.map_cons, List.map_nil], by simp only [put_at, put_no, ev_t, ev_c, reduceIte, Nat.reduceEqDiff, List.map_cons, List.map_nil], by simp only [f23, put_at, put_no,
            ev_t, ev_c, reduceIte, Nat.reduceEqDiff, List.map_cons, List.map_nil], by simp only [f26, put_at, put_no, ev_t, ev_c, reduceIte, Nat.reduceEqDiff, List.map_cons,
            List.map_nil], by simp only [f25, put_at, put_no, ev_t, ev_c, reduceIte, Nat.reduceEqDiff, List.map_cons, List.map_nil]⟩
      · simp only [hg37, run_guard (g := 20), guard_false, run_fa, put1_some, Nat.reduceAdd, Nat.zero_add, Nat.add_zero, xfa_ref, run_ld, put_at, put_no, ev_t, ev_c, reduceIte,
          Nat.reduceEqDiff, List.map_cons, List.map_nil]
        refine put1_eq (v := .int .i64 x4.Value) rfl ?_
        simp only [hg37, run_guard (g := 20), guard_false, run_call, put_at, put_no, ev_t, ev_c, reduceIte, Nat.reduceEqDiff, List.map_cons, List.map_nil]
        refine call1 rfl (mapM1 snap_int (mapM1 snap_int (mapM1 snap_int mapM0))) (impl_in_x (fun b hb => decide_eq_true hb) x4.Value 0 99 _ rfl) ?_
        simp only [hg37, run_guard (g := 20), guard_false, run_un, put1_some, xnot, run_pick, xpick_f, run_ops_nil, run_nil, put_at, put_no, ev_t, ev_c, reduceIte,
            Nat.reduceEqDiff, List.map_cons, List.map_nil]
        exact hN36 _ _ ⟨hS34, by rw [orF hg37]; simp only [put_at, put_no, ev_t, ev_c, reduceIte, Nat.reduceEqDiff, List.map_cons, List.map_nil], by simp only [f20, put_at,
            put_no, ev_t, ev_c, reduceIte, Nat.reduceEqDiff, List.map_cons, List.map_nil], by simp only [f21, put_at, put_no, ev_t, ev_c, reduceIte, Nat.reduceEqDiff,
            List.map_cons, List.map_nil], by simp only [put_at, put_no, ev_t, ev_c, reduceIte, Nat.reduceEqDiff, List.map_cons, List.map_nil], by simp only [f23, put_at, put_no,
            ev_t, ev_c, reduceIte, Nat.reduceEqDiff, List.map_cons, List.map_nil], by simp only [f26, put_at, put_no, ev_t, ev_c, reduceIte, Nat.reduceEqDiff, List.map_cons,
            List.map_nil], by simp only [f25, put_at, put_no, ev_t, ev_c, reduceIte, Nat.reduceEqDiff, List.map_cons, List.map_nil]⟩
    · rintro fr38 h46 ⟨hS47, f39, f40, f41, f42, f43, f44, f45⟩
      simp only [List.drop_succ_cons, List.drop_zero]
      simp only [run_ops_nil, f39, run_cond, put_at, put_no, ev_t, ev_c, reduceIte, Nat.reduceEqDiff, List.map_cons, List.map_nil]
      refine cond_split (t := ((!(impl_in x4.Epoch s2 most_1)) || (!(impl_in x4.Value 0 99)))) (fun hc48 => ?_) (fun hc48 => ?_)
      · rw [iteT hc48] at hF9
        simp only [run_seq, run_reg, run_mv, run_ops_nil, run_ret, put_at, put_no, ev_t, ev_c, reduceIte, Nat.reduceEqDiff, List.map_cons, List.map_nil]
        have e49 := some_inj hF9
        subst e49
        have ho50 := hr10 _ rfl
        have hk51 := hk8
        rw [ho50] at hk51
        dsimp only [jnO] at hk51
        apply hR14
        have he := some_inj hk51
        subst he
        simp only [end_ret1, put_at, put_no, ev_t, ev_c, reduceIte, Nat.reduceEqDiff, List.map_cons, List.map_nil]
        exact rfl
      · rw [iteF hc48] at hF9
        simp only [run_skip, run_reg, f42, run_fa, put1_some, Nat.reduceAdd, Nat.zero_add, Nat.add_zero, xfa_ref, run_ld, put_at, put_no, ev_t, ev_c, reduceIte, Nat.reduceEqDiff,
            List.map_cons, List.map_nil]
        refine put1_eq (v := .int .i64 x4.Epoch) rfl ?_
        simp only [run_mv, run_ops_nil, run_nil, put_at, put_no, ev_t, ev_c, reduceIte, Nat.reduceEqDiff, List.map_cons, List.map_nil]
        have e52 := some_inj hF9
        exact hN12 _ _ _ e52.symm ⟨by simp only [f40, put_at, put_no, ev_t, ev_c, reduceIte, Nat.reduceEqDiff, List.map_cons, List.map_nil], by simp only [f41, put_at, put_no,
            ev_t, ev_c, reduceIte, Nat.reduceEqDiff, List.map_cons, List.map_nil], by simp only [put_at, put_no, ev_t, ev_c, reduceIte, Nat.reduceEqDiff, List.map_cons,
            List.map_nil], by simp only [f43, put_at, put_no, ev_t, ev_c, reduceIte, Nat.reduceEqDiff, List.map_cons, List.map_nil], hS47⟩ (by simp only [f45, put_at, put_no,
            ev_t, ev_c, reduceIte, Nat.reduceEqDiff, List.map_cons, List.map_nil]) (by simp only [f44, put_at, put_no, ev_t, ev_c, reduceIte, Nat.reduceEqDiff, List.map_cons,
            List.map_nil])
  · rintro s54 fr55 h56 rfl ⟨f58, f59, f60, f61, hS57⟩
    dsimp only [jnO] at hk8
    unfold impl_isRows_j1 at hk8
    simp only [x93_5, run_seq, run_reg, f58, run_mv, run_len, put1_some, xlen_lst, run_bin, xleq, run_ops_nil, run_ret, put_at, put_no, ev_t, ev_c, reduceIte, Nat.reduceEqDiff,
        List.map_cons, List.map_nil]
    have he := some_inj hk8
    subst he
    simp only [end_ret1, put_at, put_no, ev_t, ev_c, reduceIte, Nat.reduceEqDiff, List.map_cons, List.map_nil]
    exact rfl
theorem slices_IndexFunc_int_x {W : Nat → Bool} {h : Heap} (hW : ∀ b,
    h.length ≤ b → W b = true) (s_0 : List Int) {g1 : Nat} {caps1 : List XV} (hm1 : E.mode g1 = 1) (f_1 : Int → Option Bool) (hf1 : ∀ (W : Nat → Bool) (h : Heap), (∀ b,
    h.length ≤ b → W b = true) → ∀ a0 r, f_1 a0 = some r → Ret E W g1 ([.int .i64 a0] ++ caps1) h (fun v h' => cut h.length h' E.sz false 9 v = some (.bool r))) (r : Int)
    (hF : slices_IndexFunc_int s_0 f_1 = some r) : Ret E W 101 [lst cI s_0, .fn g1 caps1] h (fun v h' => cut h.length h' E.sz false 9 v = some (.int .i64 r)) := by
  refine Ret.of (fn := x101) rfl (Run.of ?_)
  unfold slices_IndexFunc_int at hF
  have zf0 : argFr [lst cI s_0, .fn g1 caps1] 0 = lst cI s_0 := rfl
  have zf1 : argFr [lst cI s_0, .fn g1 caps1] 1 = .fn g1 caps1 := rfl
  generalize argFr [lst cI s_0, .fn g1 caps1] = fr0 at zf0 zf1 ⊢
  have hS : Sep h h.length [] := Sep.nil h
  simp only [x101, run_seq, run_reg, run_mv, run_ops_nil, x101_6, zf0, run_len, put1_some, xlen_lst, put_at, put_no, ev_t, ev_c, reduceIte, Nat.reduceEqDiff, List.map_cons,
      List.map_nil]
  obtain ⟨oc3, hX5, hk6⟩ := jn_some hF
  simp only [x101_5]
  refine rangeL_j (σ := Unit) s_0 (fun i1 x2 _ => slices_IndexFunc_int_b1 f_1 i1 x2 ) (fun s fr' h' => fr' 0 = lst cI s_0 ∧ fr' 1 = .fn g1 caps1 ∧ Sep h' h.length
      ([])) hX5 ⟨by simp only [zf0, put_at, put_no, ev_t, ev_c, reduceIte, Nat.reduceEqDiff, List.map_cons, List.map_nil], by simp only [zf1, put_at, put_no, ev_t, ev_c,
      reduceIte, Nat.reduceEqDiff, List.map_cons, List.map_nil], hS⟩ (by simp only [put_at, put_no, ev_t, ev_c, reduceIte, Nat.reduceEqDiff, List.map_cons,
      List.map_nil]) (by simp only [put_at, put_no, ev_t, ev_c, reduceIte, Nat.reduceEqDiff, List.map_cons,
      List.map_nil]) (fun _ _ _ h => h) rfl rfl (fun _ _ _ _ h => h) (fun _ _ _ _ h => h) (fun _ _ _ _ h => h) (by decide) ?_ ?_
  · rintro i1 x2 _ fr15 h16 hx20 ⟨f18, f19, hS17⟩ f21 f22 oc4 hF7 hr8 Q9 hN10 hB14 hK11 hR12 hE13
    unfold slices_IndexFunc_int_b1 at hF7
    simp only [x101_3, run_seq, run_reg, f21, run_mv, run_ops_nil, x101_2, f19, f18, run_ia, put_at, put_no, ev_t, ev_c, reduceIte, Nat.reduceEqDiff, List.map_cons, List.map_nil]
    refine put1_eq (v := .ref (cI x2) 0) (xia_lstN hx20 rfl) ?_
    simp only [run_ld, put_at, put_no, ev_t, ev_c, reduceIte, Nat.reduceEqDiff, List.map_cons, List.map_nil]
    refine put1_eq (v := .int .i64 x2) rfl ?_
    obtain ⟨v23, hx24, hF25⟩ := bind_some' hF7
    simp only [run_call, put_at, put_no, ev_t, ev_c, reduceIte, Nat.reduceEqDiff, List.map_cons, List.map_nil]
    refine call1 hm1 (mapM1 snap_int mapM0) (hf1 _ _ (fun b hb => decide_eq_true hb) x2 v23 hx24) ?_
    simp only [run_ops_nil, x101_1, run_cond, put_at, put_no, ev_t, ev_c, reduceIte, Nat.reduceEqDiff, List.map_cons, List.map_nil]
    refine cond_split (t := v23) (fun hc26 => ?_) (fun hc26 => ?_)
    · rw [iteT hc26] at hF25
      simp only [run_seq, run_reg, run_mv, run_ops_nil, run_ret, put_at, put_no, ev_t, ev_c, reduceIte, Nat.reduceEqDiff, List.map_cons, List.map_nil]
      have e27 := some_inj hF25
      subst e27
      have ho28 := hr8 _ rfl
      have hk29 := hk6
      rw [ho28] at hk29
      dsimp only [jnO] at hk29
      apply hR12
      have he := some_inj hk29
      subst he
      simp only [end_ret1, put_at, put_no, ev_t, ev_c, reduceIte, Nat.reduceEqDiff, List.map_cons, List.map_nil]
      exact rfl
    · rw [iteF hc26] at hF25
      simp only [run_skip, run_nil, put_at, put_no, ev_t, ev_c, reduceIte, Nat.reduceEqDiff, List.map_cons, List.map_nil]
      have e30 := some_inj hF25
      exact hN10 _ _ _ e30.symm ⟨by simp only [f18, put_at, put_no, ev_t, ev_c, reduceIte, Nat.reduceEqDiff, List.map_cons, List.map_nil], by simp only [f19, put_at, put_no, ev_t,
          ev_c, reduceIte, Nat.reduceEqDiff, List.map_cons, List.map_nil], hS17⟩ (by simp only [f21, put_at, put_no, ev_t, ev_c, reduceIte, Nat.reduceEqDiff, List.map_cons,
          List.map_nil]) (by simp only [f22, put_at, put_no, ev_t, ev_c, reduceIte, Nat.reduceEqDiff, List.map_cons, List.map_nil])
  · rintro _ fr32 h33 rfl ⟨f35, f36, hS34⟩
    dsimp only [jnO] at hk6
    unfold slices_IndexFunc_int_j1 at hk6
    simp only [run_seq, run_reg, run_mv, run_ops_nil, run_ret, put_at, put_no, ev_t, ev_c, reduceIte, Nat.reduceEqDiff, List.map_cons, List.map_nil]
    have he := some_inj hk6
    subst he
    simp only [end_ret1, put_at, put_no, ev_t, ev_c, reduceIte, Nat.reduceEqDiff, List.map_cons, List.map_nil]
    exact rfl
theorem slices_ContainsFunc_int_x {W : Nat → Bool} {h : Heap} (hW : ∀ b,
    h.length ≤ b → W b = true) (s_0 : List Int) {g1 : Nat} {caps1 : List XV} (hm1 : E.mode g1 = 1) (f_1 : Int → Option Bool) (hf1 : ∀ (W : Nat → Bool) (h : Heap), (∀ b,
    h.length ≤ b → W b = true) → ∀ a0 r, f_1 a0 = some r → Ret E W g1 ([.int .i64 a0] ++ caps1) h (fun v h' => cut h.length h' E.sz false 9 v = some (.bool r))) (r : Bool)
    (hF : slices_ContainsFunc_int s_0 f_1 = some r) : Ret E W 94 [lst cI s_0, .fn g1 caps1] h (fun v h' => cut h.length h' E.sz false 9 v = some (.bool r)) := by
  refine Ret.of (fn := x94) rfl (Run.of ?_)
  unfold slices_ContainsFunc_int at hF
  have zf0 : argFr [lst cI s_0, .fn g1 caps1] 0 = lst cI s_0 := rfl
  have zf1 : argFr [lst cI s_0, .fn g1 caps1] 1 = .fn g1 caps1 := rfl
  generalize argFr [lst cI s_0, .fn g1 caps1] = fr0 at zf0 zf1 ⊢
  have hS : Sep h h.length [] := Sep.nil h
  obtain ⟨v1, hx2, hF3⟩ := bind_some' hF
  simp only [x94, run_seq, run_reg, run_mv, run_ops_nil, x94_1, zf0, zf1, run_call, put_at, put_no, ev_t, ev_c, reduceIte, Nat.reduceEqDiff, List.map_cons, List.map_nil]
  refine call1 rfl (mapM1 snap_lst (mapM1 snap_fn mapM0)) (slices_IndexFunc_int_x (fun b hb => decide_eq_true hb) s_0 (g1 := g1) (caps1 := caps1) hm1 f_1 hf1 v1 hx2) ?_
  simp only [run_bin, put1_some, xgeq, run_mv, run_ops_nil, run_ret, put_at, put_no, ev_t, ev_c, reduceIte, Nat.reduceEqDiff, List.map_cons, List.map_nil]
  have he := some_inj hF3
  subst he
  simp only [end_ret1, put_at, put_no, ev_t, ev_c, reduceIte, Nat.reduceEqDiff, List.map_cons, List.map_nil]
  exact rfl
theorem impl_isClusterNode_1_x {W : Nat → Bool} {h : Heap} (hW : ∀ b,
    h.length ≤ b → W b = true) (k_0 : Int) (cap_0 : Node) (cap_1 : Int) (r : Bool) (hF : some (impl_isClusterNode_1 k_0 cap_0 cap_1) = some r) : Ret E W 95 [.int .i64 k_0,
    .ref (Node.cells cap_0) 0, .ref (cI cap_1) 0] h (fun v h' => cut h.length h' E.sz false 9 v = some (.bool r)) := by
  refine Ret.of (fn := x95) rfl (Run.of ?_)
  unfold impl_isClusterNode_1 at hF
  have zf0 : argFr [.int .i64 k_0, .ref (Node.cells cap_0) 0, .ref (cI cap_1) 0] 0 = .int .i64 k_0 := rfl
  have zf1 : argFr [.int .i64 k_0, .ref (Node.cells cap_0) 0, .ref (cI cap_1) 0] 1 = .ref (Node.cells cap_0) 0 := rfl
  have zf2 : argFr [.int .i64 k_0, .ref (Node.cells cap_0) 0, .ref (cI cap_1) 0] 2 = .ref (cI cap_1) 0 := rfl
  generalize argFr [.int .i64 k_0, .ref (Node.cells cap_0) 0, .ref (cI cap_1) 0] = fr0 at zf0 zf1 zf2 ⊢
  have hS : Sep h h.length [] := Sep.nil h
  simp only [x95, run_seq, run_reg, run_mv, run_ops_nil, x95_1, zf0, zf1, run_fa, put1_some, Nat.reduceAdd, Nat.zero_add, Nat.add_zero, xfa_ref, run_ld, put_at, put_no, ev_t,
      ev_c, reduceIte, Nat.reduceEqDiff, List.map_cons, List.map_nil]
  refine put1_eq (v := lst Row.cells cap_0.Log) rfl ?_
  simp only [run_len, put1_some, xlen_lst, run_call, put_at, put_no, ev_t, ev_c, reduceIte, Nat.reduceEqDiff, List.map_cons, List.map_nil]
  refine call1 rfl (mapM1 snap_int (mapM1 snap_int (mapM1 snap_int mapM0))) (impl_in_x (fun b hb => decide_eq_true hb) k_0 0 (List.length cap_0.Log : Int) _ rfl) ?_
  simp only [run_un, put1_some, xnot, run_mv, put_at, put_no, ev_t, ev_c, reduceIte, Nat.reduceEqDiff, List.map_cons, List.map_nil]
  refine ops_j 10 (fun fr' h' => Sep h' h.length ([]) ∧ fr' 21 = .bool ((!(impl_in k_0 0 (List.length cap_0.Log : Int))) || ((decide (cap_0.View.Leader ≠ cap_1)) && (decide
      (k_0 ≠ 0))))) (fun Q1 hN2 => ?_) ?_
  · simp only [List.take_succ_cons, List.take_zero]
    simp only [run_guard (g := 11), put_at, put_no, ev_t, ev_c, reduceIte, Nat.reduceEqDiff, List.map_cons, List.map_nil]
    refine guard_split (t := (!(impl_in k_0 0 (List.length cap_0.Log : Int)))) (fun hg3 => ?_) (fun hg3 => ?_)
    · simp only [hg3, run_guard (g := 11), guard_off', run_guard (g := 17), guard_tup, run_pick, put1_some, xpick_t, run_ops_nil, run_nil, put_at, put_no, ev_t, ev_c, reduceIte,
        Nat.reduceEqDiff, List.map_cons, List.map_nil]
      exact hN2 _ _ ⟨hS, by rw [orT hg3]; simp only [put_at, put_no, ev_t, ev_c, reduceIte, Nat.reduceEqDiff, List.map_cons, List.map_nil]⟩
    · simp only [hg3, run_guard (g := 11), guard_false, zf1, run_fa, put1_some, Nat.reduceAdd, Nat.zero_add, Nat.add_zero, xfa_ref, run_ld, put_at, put_no, ev_t, ev_c, reduceIte,
        Nat.reduceEqDiff, List.map_cons, List.map_nil]
      refine put1_eq (v := .int .i64 cap_0.View.Leader) rfl ?_
      simp only [hg3, run_guard (g := 11), guard_false, zf2, run_ld, put_at, put_no, ev_t, ev_c, reduceIte, Nat.reduceEqDiff, List.map_cons, List.map_nil]
      refine put1_eq (v := .int .i64 cap_1) rfl ?_
      simp only [hg3, run_guard (g := 11), guard_false, run_bin, put1_some, xneq, run_mv, put_at, put_no, ev_t, ev_c, reduceIte, Nat.reduceEqDiff, List.map_cons, List.map_nil]
      refine ops_j 3 (fun fr' h' => Sep h' h.length ([]) ∧ fr' 20 = .bool ((decide (cap_0.View.Leader ≠ cap_1)) && (decide (k_0 ≠ 0))) ∧ fr' 11 = .bool (!(impl_in k_0 0
          (List.length cap_0.Log : Int)))) (fun Q4 hN5 => ?_) ?_
      · simp only [List.take_succ_cons, List.take_zero]
        simp only [run_guard (g := 17), put_at, put_no, ev_t, ev_c, reduceIte, Nat.reduceEqDiff, List.map_cons, List.map_nil]
        refine guard_split (t := (decide (cap_0.View.Leader ≠ cap_1))) (fun hg6 => ?_) (fun hg6 => ?_)
        · simp only [hg6, run_guard (g := 17), guard_true, zf0, run_mv, run_bin, put1_some, xneq, hg3, run_guard (g := 11), guard_false, run_pick, xpick_t, run_ops_nil, run_nil,
            put_at, put_no, ev_t, ev_c, reduceIte, Nat.reduceEqDiff, List.map_cons, List.map_nil]
          exact hN5 _ _ ⟨hS, by rw [andT hg6]; simp only [put_at, put_no, ev_t, ev_c, reduceIte, Nat.reduceEqDiff, List.map_cons, List.map_nil], by simp only [hg3, put_at, put_no,
              ev_t, ev_c, reduceIte, Nat.reduceEqDiff, List.map_cons, List.map_nil]⟩
        · simp only [hg6, run_guard (g := 17), guard_off, hg3, run_guard (g := 11), guard_false, run_pick, put1_some, xpick_f, run_ops_nil, run_nil, put_at, put_no, ev_t, ev_c,
            reduceIte, Nat.reduceEqDiff, List.map_cons, List.map_nil]
          exact hN5 _ _ ⟨hS, by rw [andF hg6]; simp only [put_at, put_no, ev_t, ev_c, reduceIte, Nat.reduceEqDiff, List.map_cons, List.map_nil], by simp only [hg3, put_at, put_no,
              ev_t, ev_c, reduceIte, Nat.reduceEqDiff, List.map_cons, List.map_nil]⟩
      · rintro fr7 h10 ⟨hS11, f8, f9⟩
        simp only [List.drop_succ_cons, List.drop_zero]
        simp only [f9, hg3, run_pick, put1_some, xpick_f, f8, run_ops_nil, run_nil, put_at, put_no, ev_t, ev_c, reduceIte, Nat.reduceEqDiff, List.map_cons, List.map_nil]
        exact hN2 _ _ ⟨hS11, by rw [orF hg3]; simp only [put_at, put_no, ev_t, ev_c, reduceIte, Nat.reduceEqDiff, List.map_cons, List.map_nil]⟩
  · rintro fr12 h14 ⟨hS15, f13⟩
    simp only [List.drop_succ_cons, List.drop_zero]
    simp only [f13, run_mv, run_ops_nil, run_ret, put_at, put_no, ev_t, ev_c, reduceIte, Nat.reduceEqDiff, List.map_cons, List.map_nil]
    have he := some_inj hF
    subst he
    simp only [end_ret1, put_at, put_no, ev_t, ev_c, reduceIte, Nat.reduceEqDiff, List.map_cons, List.map_nil]
    exact rfl
end Go.Proofs.Ytohofoampalhoaa.X
