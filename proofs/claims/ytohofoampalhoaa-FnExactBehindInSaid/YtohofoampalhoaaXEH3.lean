/- The functions' code comes to what the plain functions say (3). -/
import Derived.Test.YtohofoampalhoaaXEH2
set_option linter.unusedVariables false
set_option linter.unusedSimpArgs false
set_option maxRecDepth 100000
namespace Go.Proofs.Ytohofoampalhoaa.X
open Go
theorem spec_l17Node_x {W : Nat → Bool} {h : Heap} (hW : ∀ b,
    h.length ≤ b → W b = true) (k : Nat) (v_0 : Cluster) (v_1 : Int) (r : Bool) (hF : spec_l17Node k v_0 v_1 = some r) : Ret E W 55 [.agg [.int .i64 v_0.Truth.Epoch,
    .int .i64 v_0.Truth.Leader, lst cI v_0.Truth.InStep, lst Node.cells v_0.Nodes, lst Row.cells v_0.Acked],
    .int .i64 v_1] h (fun v h' => cut h.length h' E.sz false 9 v = some (.bool r)) := by
  refine Ret.of (fn := x55) rfl (Run.of ?_)
  unfold spec_l17Node at hF
  have zf0 : argFr [.agg [.int .i64 v_0.Truth.Epoch, .int .i64 v_0.Truth.Leader, lst cI v_0.Truth.InStep, lst Node.cells v_0.Nodes, lst Row.cells v_0.Acked],
      .int .i64 v_1] 0 = .agg [.int .i64 v_0.Truth.Epoch, .int .i64 v_0.Truth.Leader, lst cI v_0.Truth.InStep, lst Node.cells v_0.Nodes, lst Row.cells v_0.Acked] := rfl
  have zf1 : argFr [.agg [.int .i64 v_0.Truth.Epoch, .int .i64 v_0.Truth.Leader, lst cI v_0.Truth.InStep, lst Node.cells v_0.Nodes, lst Row.cells v_0.Acked],
      .int .i64 v_1] 1 = .int .i64 v_1 := rfl
  generalize argFr [.agg [.int .i64 v_0.Truth.Epoch, .int .i64 v_0.Truth.Leader, lst cI v_0.Truth.InStep, lst Node.cells v_0.Nodes, lst Row.cells v_0.Acked],
      .int .i64 v_1] = fr0 at zf0 zf1 ⊢
  have hS : Sep h h.length [] := Sep.nil h
  simp only [x55, run_seq, run_reg, run_box, zf0, put_at, put_no, ev_t, ev_c, reduceIte, Nat.reduceEqDiff, List.map_cons, List.map_nil]
  refine put2_boxC (cs := [.int .i64 v_0.Truth.Epoch, .int .i64 v_0.Truth.Leader, lst cI v_0.Truth.InStep, lst Node.cells v_0.Nodes,
      lst Row.cells v_0.Acked]) hS rfl rfl rfl (fun b1 h2 hS3 => ?_)
  simp only [run_mv, run_ops_nil, put_at, put_no, ev_t, ev_c, reduceIte, Nat.reduceEqDiff, List.map_cons, List.map_nil]
  refine frz_stepC hS3 hW (by simp only [put_at, put_no, ev_t, ev_c, reduceIte, Nat.reduceEqDiff, List.map_cons, List.map_nil]) (fun h5 hS6 => ?_)
  simp only [run_frz_nil, x55_8, run_seq, run_reg, run_fa, put1_some, Nat.reduceAdd, Nat.zero_add, Nat.add_zero, xfa_ref, run_ld, put_at, put_no, ev_t, ev_c, reduceIte,
      Nat.reduceEqDiff, List.map_cons, List.map_nil]
  refine put1_eq (v := lst Node.cells v_0.Nodes) rfl ?_
  obtain ⟨x7, hx8, hF9⟩ := bind_some' hF
  simp only [zf1, run_mv, run_ia, put_at, put_no, ev_t, ev_c, reduceIte, Nat.reduceEqDiff, List.map_cons, List.map_nil]
  refine put1_eq (v := .ref (Node.cells x7) 0) (xia_lst hx8 rfl) ?_
  simp only [run_ld, put_at, put_no, ev_t, ev_c, reduceIte, Nat.reduceEqDiff, List.map_cons, List.map_nil]
  refine put1_eq (v := .agg [.int .i64 x7.View.Epoch, .int .i64 x7.View.Leader, lst cI x7.View.InStep, lst Row.cells x7.Log, lst cI x7.Known, .int .i64 x7.Told]) rfl ?_
  simp only [run_new, put_at, put_no, ev_t, ev_c, reduceIte, Nat.reduceEqDiff, List.map_cons, List.map_nil]
  refine put2_newC hS6 (fun b10 h11 hS12 => ?_)
  simp only [run_st, put_at, put_no, ev_t, ev_c, reduceIte, Nat.reduceEqDiff, List.map_cons, List.map_nil]
  refine put2_stCx (us := [.int .i64 x7.View.Epoch, .int .i64 x7.View.Leader, lst cI x7.View.InStep, lst Row.cells x7.Log, lst cI x7.Known,
      .int .i64 x7.Told]) rfl (cs' := [.int .i64 x7.View.Epoch, .int .i64 x7.View.Leader, lst cI x7.View.InStep, lst Row.cells x7.Log, lst cI x7.Known,
      .int .i64 x7.Told]) hS12 hW rfl rfl (Nat.le_of_ble_eq_true rfl) rfl (fun h14 hS15 => ?_)
  simp only [put_no, run_ops_nil, put_at, ev_t, ev_c, reduceIte, Nat.reduceEqDiff, List.map_cons, List.map_nil]
  refine frz_stepC hS15 hW (by simp only [put_at, put_no, ev_t, ev_c, reduceIte, Nat.reduceEqDiff, List.map_cons, List.map_nil]) (fun h16 hS17 => ?_)
  simp only [run_frz_nil, x55_7, run_seq, run_reg, run_fa, put1_some, Nat.reduceAdd, Nat.zero_add, Nat.add_zero, xfa_ref, run_ld, put_at, put_no, ev_t, ev_c, reduceIte,
      Nat.reduceEqDiff, List.map_cons, List.map_nil]
  refine put1_eq (v := .agg [.int .i64 x7.View.Epoch, .int .i64 x7.View.Leader, lst cI x7.View.InStep]) rfl ?_
  simp only [run_fa, put1_some, Nat.reduceAdd, Nat.zero_add, Nat.add_zero, xfa_ref, run_ld, put_at, put_no, ev_t, ev_c, reduceIte, Nat.reduceEqDiff, List.map_cons, List.map_nil]
  refine put1_eq (v := lst Node.cells v_0.Nodes) rfl ?_
  obtain ⟨v18, hx19, hF20⟩ := bind_some' hF9
  simp only [run_len, put1_some, xlen_lst, run_call, put_at, put_no, ev_t, ev_c, reduceIte, Nat.reduceEqDiff, List.map_cons, List.map_nil]
  refine call1 rfl (mapM1 (snap_agg (mapM1 snap_int (mapM1 snap_int (mapM1 snap_lst mapM0)))) (mapM1 snap_int mapM0)) (spec_l17View_x (fun b hb => decide_eq_true hb) x7.View
      (List.length v_0.Nodes : Int) v18 hx19) ?_
  simp only [run_un, put1_some, xnot, run_mv, put_at, put_no, ev_t, ev_c, reduceIte, Nat.reduceEqDiff, List.map_cons, List.map_nil]
  refine ops_j 8 (fun fr' h' => Sep h' h.length ([]) ∧ fr' 28 = .bool ((!v18) || (decide
      (v_0.Truth.Epoch < x7.View.Epoch))) ∧ fr' 1 = .int .i64 v_1 ∧ fr' 2 = .ref [.int .i64 v_0.Truth.Epoch, .int .i64 v_0.Truth.Leader, lst cI v_0.Truth.InStep,
      lst Node.cells v_0.Nodes, lst Row.cells v_0.Acked] 0 ∧ fr' 5 = .ref [.int .i64 x7.View.Epoch, .int .i64 x7.View.Leader, lst cI x7.View.InStep, lst Row.cells x7.Log,
      lst cI x7.Known, .int .i64 x7.Told] 0) (fun Q21 hN22 => ?_) ?_
  · simp only [List.take_succ_cons, List.take_zero]
    simp only [run_guard (g := 20), put_at, put_no, ev_t, ev_c, reduceIte, Nat.reduceEqDiff, List.map_cons, List.map_nil]
    refine guard_split (t := (!v18)) (fun hg23 => ?_) (fun hg23 => ?_)
    · simp only [hg23, run_guard (g := 20), guard_off', run_pick, put1_some, xpick_t, run_ops_nil, run_nil, put_at, put_no, ev_t, ev_c, reduceIte, Nat.reduceEqDiff, List.map_cons,
        List.map_nil]
      exact hN22 _ _ ⟨hS17, by rw [orT hg23]; simp only [put_at, put_no, ev_t, ev_c, reduceIte, Nat.reduceEqDiff, List.map_cons, List.map_nil], by simp only [zf1, put_at, put_no,
          ev_t, ev_c, reduceIte, Nat.reduceEqDiff, List.map_cons, List.map_nil], by simp only [put_at, put_no, ev_t, ev_c, reduceIte, Nat.reduceEqDiff, List.map_cons,
          List.map_nil], by simp only [put_at, put_no, ev_t, ev_c, reduceIte, Nat.reduceEqDiff, List.map_cons, List.map_nil]⟩
    · simp only [hg23, run_guard (g := 20), guard_false, run_fa, put1_some, Nat.reduceAdd, Nat.zero_add, Nat.add_zero, xfa_ref, run_ld, put_at, put_no, ev_t, ev_c, reduceIte,
        Nat.reduceEqDiff, List.map_cons, List.map_nil]
      refine put1_eq (v := .int .i64 x7.View.Epoch) rfl ?_
      simp only [hg23, run_guard (g := 20), guard_false, run_fa, put1_some, Nat.reduceAdd, Nat.zero_add, Nat.add_zero, xfa_ref, run_ld, put_at, put_no, ev_t, ev_c, reduceIte,
          Nat.reduceEqDiff, List.map_cons, List.map_nil]
      refine put1_eq (v := .int .i64 v_0.Truth.Epoch) rfl ?_
      simp only [hg23, run_guard (g := 20), guard_false, run_bin, put1_some, xgtr, run_pick, xpick_f, run_ops_nil, run_nil, put_at, put_no, ev_t, ev_c, reduceIte,
          Nat.reduceEqDiff, List.map_cons, List.map_nil]
      exact hN22 _ _ ⟨hS17, by rw [orF hg23]; simp only [put_at, put_no, ev_t, ev_c, reduceIte, Nat.reduceEqDiff, List.map_cons, List.map_nil], by simp only [zf1, put_at, put_no,
          ev_t, ev_c, reduceIte, Nat.reduceEqDiff, List.map_cons, List.map_nil], by simp only [put_at, put_no, ev_t, ev_c, reduceIte, Nat.reduceEqDiff, List.map_cons,
          List.map_nil], by simp only [put_at, put_no, ev_t, ev_c, reduceIte, Nat.reduceEqDiff, List.map_cons, List.map_nil]⟩
  · rintro fr24 h29 ⟨hS30, f25, f26, f27, f28⟩
    simp only [List.drop_succ_cons, List.drop_zero]
    simp only [f25, run_mv, put_at, put_no, ev_t, ev_c, reduceIte, Nat.reduceEqDiff, List.map_cons, List.map_nil]
    refine ops_j 17 (fun fr' h' => Sep h' h.length ([]) ∧ fr' 46 = .bool (((!v18) || (decide (v_0.Truth.Epoch < x7.View.Epoch))) || ((decide (x7.View.Epoch = v_0.Truth.Epoch)) &&
        (decide (x7.View.Leader ≠ v_0.Truth.Leader)))) ∧ fr' 1 = .int .i64 v_1 ∧ fr' 2 = .ref [.int .i64 v_0.Truth.Epoch, .int .i64 v_0.Truth.Leader, lst cI v_0.Truth.InStep,
        lst Node.cells v_0.Nodes, lst Row.cells v_0.Acked] 0 ∧ fr' 5 = .ref [.int .i64 x7.View.Epoch, .int .i64 x7.View.Leader, lst cI x7.View.InStep, lst Row.cells x7.Log,
        lst cI x7.Known, .int .i64 x7.Told] 0) (fun Q31 hN32 => ?_) ?_
    · simp only [List.take_succ_cons, List.take_zero]
      simp only [run_guard (g := 29), put_at, put_no, ev_t, ev_c, reduceIte, Nat.reduceEqDiff, List.map_cons, List.map_nil]
      refine guard_split (t := ((!v18) || (decide (v_0.Truth.Epoch < x7.View.Epoch)))) (fun hg33 => ?_) (fun hg33 => ?_)
      · simp only [hg33, run_guard (g := 29), guard_off', run_guard (g := 37), guard_tup, run_pick, put1_some, xpick_t, run_ops_nil, run_nil, put_at, put_no, ev_t, ev_c,
          reduceIte, Nat.reduceEqDiff, List.map_cons, List.map_nil]
        exact hN32 _ _ ⟨hS30, by rw [orT hg33]; simp only [put_at, put_no, ev_t, ev_c, reduceIte, Nat.reduceEqDiff, List.map_cons, List.map_nil], by simp only [f26, put_at,
            put_no, ev_t, ev_c, reduceIte, Nat.reduceEqDiff, List.map_cons, List.map_nil], by simp only [f27, put_at, put_no, ev_t, ev_c, reduceIte, Nat.reduceEqDiff,
            List.map_cons, List.map_nil], by simp only [f28, put_at, put_no, ev_t, ev_c, reduceIte, Nat.reduceEqDiff, List.map_cons, List.map_nil]⟩
      · simp only [hg33, run_guard (g := 29), guard_false, f28, run_fa, put1_some, Nat.reduceAdd, Nat.zero_add, Nat.add_zero, xfa_ref, run_ld, put_at, put_no, ev_t, ev_c,
          reduceIte, Nat.reduceEqDiff, List.map_cons, List.map_nil]
        refine put1_eq (v := .int .i64 x7.View.Epoch) rfl ?_
        simp only [hg33, run_guard (g := 29), guard_false, f27, run_fa, put1_some, Nat.reduceAdd, Nat.zero_add, Nat.add_zero, xfa_ref, run_ld, put_at, put_no, ev_t, ev_c,
            reduceIte, Nat.reduceEqDiff, List.map_cons, List.map_nil]
        refine put1_eq (v := .int .i64 v_0.Truth.Epoch) rfl ?_
        simp only [hg33, run_guard (g := 29), guard_false, run_bin, put1_some, xeql, run_mv, put_at, put_no, ev_t, ev_c, reduceIte, Nat.reduceEqDiff, List.map_cons, List.map_nil]
        refine ops_j 8 (fun fr' h' => Sep h' h.length ([]) ∧ fr' 45 = .bool ((decide (x7.View.Epoch = v_0.Truth.Epoch)) && (decide
            (x7.View.Leader ≠ v_0.Truth.Leader))) ∧ fr' 1 = .int .i64 v_1 ∧ fr' 2 = .ref [.int .i64 v_0.Truth.Epoch, .int .i64 v_0.Truth.Leader, lst cI v_0.Truth.InStep,
            lst Node.cells v_0.Nodes, lst Row.cells v_0.Acked] 0 ∧ fr' 5 = .ref [.int .i64 x7.View.Epoch, .int .i64 x7.View.Leader, lst cI x7.View.InStep, lst Row.cells x7.Log,
            lst cI x7.Known, .int .i64 x7.Told] 0 ∧ fr' 29 = .bool ((!v18) || (decide (v_0.Truth.Epoch < x7.View.Epoch)))) (fun Q34 hN35 => ?_) ?_
        · simp only [List.take_succ_cons, List.take_zero]
          simp only [run_guard (g := 37), put_at, put_no, ev_t, ev_c, reduceIte, Nat.reduceEqDiff, List.map_cons, List.map_nil]
          refine guard_split (t := (decide (x7.View.Epoch = v_0.Truth.Epoch))) (fun hg36 => ?_) (fun hg36 => ?_)
          · simp only [hg36, run_guard (g := 37), guard_true, f28, run_fa, put1_some, Nat.reduceAdd, Nat.zero_add, Nat.add_zero, xfa_ref, run_ld, put_at, put_no, ev_t, ev_c,
              reduceIte, Nat.reduceEqDiff, List.map_cons, List.map_nil]
            refine put1_eq (v := .int .i64 x7.View.Leader) rfl ?_
            simp only [hg36, run_guard (g := 37), guard_true, f27, run_fa, put1_some, Nat.reduceAdd, Nat.zero_add, Nat.add_zero, xfa_ref, run_ld, put_at, put_no, ev_t, ev_c,
                reduceIte, Nat.reduceEqDiff, List.map_cons, List.map_nil]
            refine put1_eq (v := .int .i64 v_0.Truth.Leader) rfl ?_
            simp only [hg36, run_guard (g := 37), guard_true, run_bin, put1_some, xneq, hg33, run_guard (g := 29), guard_false, run_pick, xpick_t, run_ops_nil, run_nil, put_at,
                put_no, ev_t, ev_c, reduceIte, Nat.reduceEqDiff, List.map_cons, List.map_nil]
            exact hN35 _ _ ⟨hS30, by rw [andT hg36]; simp only [put_at, put_no, ev_t, ev_c, reduceIte, Nat.reduceEqDiff, List.map_cons, List.map_nil], by simp only [f26, put_at,
                put_no, ev_t, ev_c, reduceIte, Nat.reduceEqDiff, List.map_cons, List.map_nil], by simp only [f27, put_at, put_no, ev_t, ev_c, reduceIte, Nat.reduceEqDiff,
                List.map_cons, List.map_nil], by simp only [f28, put_at, put_no, ev_t, ev_c, reduceIte, Nat.reduceEqDiff, List.map_cons, List.map_nil], by simp only [hg33, put_at,
                put_no, ev_t, ev_c, reduceIte, Nat.reduceEqDiff, List.map_cons, List.map_nil]⟩
          · simp only [hg36, run_guard (g := 37), guard_off, hg33, run_guard (g := 29), guard_false, run_pick, put1_some, xpick_f, run_ops_nil, run_nil, put_at, put_no, ev_t,
              ev_c, reduceIte, Nat.reduceEqDiff, List.map_cons, List.map_nil]
            exact hN35 _ _ ⟨hS30, by rw [andF hg36]; simp only [put_at, put_no, ev_t, ev_c, reduceIte, Nat.reduceEqDiff, List.map_cons, List.map_nil], by simp only [f26, put_at,
                put_no, ev_t, ev_c, reduceIte, Nat.reduceEqDiff, List.map_cons, List.map_nil], by simp only [f27, put_at, put_no, ev_t, ev_c, reduceIte, Nat.reduceEqDiff,
                List.map_cons, List.map_nil], by simp only [f28, put_at, put_no, ev_t, ev_c, reduceIte, Nat.reduceEqDiff, List.map_cons, List.map_nil], by simp only [hg33, put_at,
                put_no, ev_t, ev_c, reduceIte, Nat.reduceEqDiff, List.map_cons, List.map_nil]⟩
        · rintro fr37 h43 ⟨hS44, f38, f39, f40, f41, f42⟩
          simp only [List.drop_succ_cons, List.drop_zero]
          simp only [f42, hg33, run_pick, put1_some, xpick_f, f38, run_ops_nil, run_nil, put_at, put_no, ev_t, ev_c, reduceIte, Nat.reduceEqDiff, List.map_cons, List.map_nil]
          exact hN32 _ _ ⟨hS44, by rw [orF hg33]; simp only [put_at, put_no, ev_t, ev_c, reduceIte, Nat.reduceEqDiff, List.map_cons, List.map_nil], by simp only [f39, put_at,
              put_no, ev_t, ev_c, reduceIte, Nat.reduceEqDiff, List.map_cons, List.map_nil], by simp only [f40, put_at, put_no, ev_t, ev_c, reduceIte, Nat.reduceEqDiff,
              List.map_cons, List.map_nil], by simp only [f41, put_at, put_no, ev_t, ev_c, reduceIte, Nat.reduceEqDiff, List.map_cons, List.map_nil]⟩
    · rintro fr45 h50 ⟨hS51, f46, f47, f48, f49⟩
      simp only [List.drop_succ_cons, List.drop_zero]
      simp only [f46, run_mv, put_at, put_no, ev_t, ev_c, reduceIte, Nat.reduceEqDiff, List.map_cons, List.map_nil]
      obtain ⟨v55, hx56, hF57⟩ := bind_some' hF20
      refine ops_j 8 (fun fr' h' => Sep h' h.length ([]) ∧ fr' 55 = .bool v55 ∧ fr' 1 = .int .i64 v_1 ∧ fr' 2 = .ref [.int .i64 v_0.Truth.Epoch, .int .i64 v_0.Truth.Leader,
          lst cI v_0.Truth.InStep, lst Node.cells v_0.Nodes, lst Row.cells v_0.Acked] 0 ∧ fr' 5 = .ref [.int .i64 x7.View.Epoch, .int .i64 x7.View.Leader, lst cI x7.View.InStep,
          lst Row.cells x7.Log, lst cI x7.Known, .int .i64 x7.Told] 0) (fun Q52 hN53 => ?_) ?_
      · simp only [List.take_succ_cons, List.take_zero]
        simp only [run_guard (g := 47), put_at, put_no, ev_t, ev_c, reduceIte, Nat.reduceEqDiff, List.map_cons, List.map_nil]
        refine guard_split (t := (((!v18) || (decide (v_0.Truth.Epoch < x7.View.Epoch))) || ((decide (x7.View.Epoch = v_0.Truth.Epoch)) && (decide
            (x7.View.Leader ≠ v_0.Truth.Leader))))) (fun hg54 => ?_) (fun hg54 => ?_)
        · rw [iteT hg54] at hx56
          simp only [hg54, run_guard (g := 47), guard_off', run_pick, put1_some, xpick_t, run_ops_nil, run_nil, put_at, put_no, ev_t, ev_c, reduceIte, Nat.reduceEqDiff,
              List.map_cons, List.map_nil]
          have e58 := some_inj hx56
          exact hN53 _ _ ⟨hS51, by rw [← e58]; simp only [put_at, put_no, ev_t, ev_c, reduceIte, Nat.reduceEqDiff, List.map_cons, List.map_nil], by simp only [f47, put_at, put_no,
              ev_t, ev_c, reduceIte, Nat.reduceEqDiff, List.map_cons, List.map_nil], by simp only [f48, put_at, put_no, ev_t, ev_c, reduceIte, Nat.reduceEqDiff, List.map_cons,
              List.map_nil], by simp only [f49, put_at, put_no, ev_t, ev_c, reduceIte, Nat.reduceEqDiff, List.map_cons, List.map_nil]⟩
        · rw [iteF hg54] at hx56
          simp only [hg54, run_guard (g := 47), guard_false, f49, run_fa, put1_some, Nat.reduceAdd, Nat.zero_add, Nat.add_zero, xfa_ref, run_ld, put_at, put_no, ev_t, ev_c,
              reduceIte, Nat.reduceEqDiff, List.map_cons, List.map_nil]
          refine put1_eq (v := lst Row.cells x7.Log) rfl ?_
          simp only [hg54, run_guard (g := 47), guard_false, f49, run_fa, put1_some, Nat.reduceAdd, Nat.zero_add, Nat.add_zero, xfa_ref, run_ld, put_at, put_no, ev_t, ev_c,
              reduceIte, Nat.reduceEqDiff, List.map_cons, List.map_nil]
          refine put1_eq (v := .int .i64 x7.View.Epoch) rfl ?_
          obtain ⟨v59, hx60, hF61⟩ := bind_some' hx56
          simp only [hg54, run_guard (g := 47), guard_false, run_call, put_at, put_no, ev_t, ev_c, reduceIte, Nat.reduceEqDiff, List.map_cons, List.map_nil]
          refine call1 rfl (mapM1 snap_lst (mapM1 snap_int mapM0)) (spec_l11Log_x (fun b hb => decide_eq_true hb) x7.Log x7.View.Epoch v59 hx60) ?_
          simp only [hg54, run_guard (g := 47), guard_false, run_un, put1_some, xnot, run_pick, xpick_f, run_ops_nil, run_nil, put_at, put_no, ev_t, ev_c, reduceIte,
              Nat.reduceEqDiff, List.map_cons, List.map_nil]
          have e62 := some_inj hF61
          exact hN53 _ _ ⟨hS51, by rw [← e62]; simp only [put_at, put_no, ev_t, ev_c, reduceIte, Nat.reduceEqDiff, List.map_cons, List.map_nil], by simp only [f47, put_at, put_no,
              ev_t, ev_c, reduceIte, Nat.reduceEqDiff, List.map_cons, List.map_nil], by simp only [f48, put_at, put_no, ev_t, ev_c, reduceIte, Nat.reduceEqDiff, List.map_cons,
              List.map_nil], by simp only [f49, put_at, put_no, ev_t, ev_c, reduceIte, Nat.reduceEqDiff, List.map_cons, List.map_nil]⟩
      · rintro fr63 h68 ⟨hS69, f64, f65, f66, f67⟩
        simp only [List.drop_succ_cons, List.drop_zero]
        simp only [f64, run_mv, put_at, put_no, ev_t, ev_c, reduceIte, Nat.reduceEqDiff, List.map_cons, List.map_nil]
        refine ops_j 8 (fun fr' h' => Sep h' h.length ([]) ∧ fr' 64 = .bool (v55 || (decide ((List.length x7.Known : Int) ≠
            (List.length v_0.Nodes : Int)))) ∧ fr' 1 = .int .i64 v_1 ∧ fr' 2 = .ref [.int .i64 v_0.Truth.Epoch, .int .i64 v_0.Truth.Leader, lst cI v_0.Truth.InStep,
            lst Node.cells v_0.Nodes, lst Row.cells v_0.Acked] 0 ∧ fr' 5 = .ref [.int .i64 x7.View.Epoch, .int .i64 x7.View.Leader, lst cI x7.View.InStep, lst Row.cells x7.Log,
            lst cI x7.Known, .int .i64 x7.Told] 0) (fun Q70 hN71 => ?_) ?_
        · simp only [List.take_succ_cons, List.take_zero]
          simp only [run_guard (g := 56), put_at, put_no, ev_t, ev_c, reduceIte, Nat.reduceEqDiff, List.map_cons, List.map_nil]
          refine guard_split (t := v55) (fun hg72 => ?_) (fun hg72 => ?_)
          · simp only [hg72, run_guard (g := 56), guard_off', run_pick, put1_some, xpick_t, run_ops_nil, run_nil, put_at, put_no, ev_t, ev_c, reduceIte, Nat.reduceEqDiff,
              List.map_cons, List.map_nil]
            exact hN71 _ _ ⟨hS69, by rw [orT hg72]; simp only [put_at, put_no, ev_t, ev_c, reduceIte, Nat.reduceEqDiff, List.map_cons, List.map_nil], by simp only [f65, put_at,
                put_no, ev_t, ev_c, reduceIte, Nat.reduceEqDiff, List.map_cons, List.map_nil], by simp only [f66, put_at, put_no, ev_t, ev_c, reduceIte, Nat.reduceEqDiff,
                List.map_cons, List.map_nil], by simp only [f67, put_at, put_no, ev_t, ev_c, reduceIte, Nat.reduceEqDiff, List.map_cons, List.map_nil]⟩
          · simp only [hg72, run_guard (g := 56), guard_false, f67, run_fa, put1_some, Nat.reduceAdd, Nat.zero_add, Nat.add_zero, xfa_ref, run_ld, put_at, put_no, ev_t, ev_c,
              reduceIte, Nat.reduceEqDiff, List.map_cons, List.map_nil]
            refine put1_eq (v := lst cI x7.Known) rfl ?_
            simp only [hg72, run_guard (g := 56), guard_false, run_len, put1_some, xlen_lst, f66, run_fa, Nat.reduceAdd, Nat.zero_add, Nat.add_zero, xfa_ref, run_ld, put_at,
                put_no, ev_t, ev_c, reduceIte, Nat.reduceEqDiff, List.map_cons, List.map_nil]
            refine put1_eq (v := lst Node.cells v_0.Nodes) rfl ?_
            simp only [hg72, run_guard (g := 56), guard_false, run_len, put1_some, xlen_lst, run_bin, xneq, run_pick, xpick_f, run_ops_nil, run_nil, put_at, put_no, ev_t, ev_c,
                reduceIte, Nat.reduceEqDiff, List.map_cons, List.map_nil]
            exact hN71 _ _ ⟨hS69, by rw [orF hg72]; simp only [put_at, put_no, ev_t, ev_c, reduceIte, Nat.reduceEqDiff, List.map_cons, List.map_nil], by simp only [f65, put_at,
                put_no, ev_t, ev_c, reduceIte, Nat.reduceEqDiff, List.map_cons, List.map_nil], by simp only [f66, put_at, put_no, ev_t, ev_c, reduceIte, Nat.reduceEqDiff,
                List.map_cons, List.map_nil], by simp only [f67, put_at, put_no, ev_t, ev_c, reduceIte, Nat.reduceEqDiff, List.map_cons, List.map_nil]⟩
        · rintro fr73 h78 ⟨hS79, f74, f75, f76, f77⟩
          simp only [List.drop_succ_cons, List.drop_zero]
          simp only [f74, run_mv, put_at, put_no, ev_t, ev_c, reduceIte, Nat.reduceEqDiff, List.map_cons, List.map_nil]
          refine ops_j 4 (fun fr' h' => Sep h' h.length ([]) ∧ fr' 69 = .bool ((v55 || (decide ((List.length x7.Known : Int) ≠ (List.length v_0.Nodes : Int)))) || (decide
              (x7.Told < 0))) ∧ fr' 1 = .int .i64 v_1 ∧ fr' 2 = .ref [.int .i64 v_0.Truth.Epoch, .int .i64 v_0.Truth.Leader, lst cI v_0.Truth.InStep, lst Node.cells v_0.Nodes,
              lst Row.cells v_0.Acked] 0 ∧ fr' 5 = .ref [.int .i64 x7.View.Epoch, .int .i64 x7.View.Leader, lst cI x7.View.InStep, lst Row.cells x7.Log, lst cI x7.Known,
              .int .i64 x7.Told] 0) (fun Q80 hN81 => ?_) ?_
          · simp only [List.take_succ_cons, List.take_zero]
            simp only [run_guard (g := 65), put_at, put_no, ev_t, ev_c, reduceIte, Nat.reduceEqDiff, List.map_cons, List.map_nil]
            refine guard_split (t := (v55 || (decide ((List.length x7.Known : Int) ≠ (List.length v_0.Nodes : Int))))) (fun hg82 => ?_) (fun hg82 => ?_)
            · simp only [hg82, run_guard (g := 65), guard_off', run_pick, put1_some, xpick_t, run_ops_nil, run_nil, put_at, put_no, ev_t, ev_c, reduceIte, Nat.reduceEqDiff,
                List.map_cons, List.map_nil]
              exact hN81 _ _ ⟨hS79, by rw [orT hg82]; simp only [put_at, put_no, ev_t, ev_c, reduceIte, Nat.reduceEqDiff, List.map_cons, List.map_nil], by simp only [f75, put_at,
                  put_no, ev_t, ev_c, reduceIte, Nat.reduceEqDiff, List.map_cons, List.map_nil], by simp only [f76, put_at, put_no, ev_t, ev_c, reduceIte, Nat.reduceEqDiff,
                  List.map_cons, List.map_nil], by simp only [f77, put_at, put_no, ev_t, ev_c, reduceIte, Nat.reduceEqDiff, List.map_cons, List.map_nil]⟩
            · simp only [hg82, run_guard (g := 65), guard_false, f77, run_fa, put1_some, Nat.reduceAdd, Nat.zero_add, Nat.add_zero, xfa_ref, run_ld, put_at, put_no, ev_t, ev_c,
                reduceIte, Nat.reduceEqDiff, List.map_cons, List.map_nil]
              refine put1_eq (v := .int .i64 x7.Told) rfl ?_
              simp only [hg82, run_guard (g := 65), guard_false, run_bin, put1_some, xlss, run_pick, xpick_f, run_ops_nil, run_nil, put_at, put_no, ev_t, ev_c, reduceIte,
                  Nat.reduceEqDiff, List.map_cons, List.map_nil]
              exact hN81 _ _ ⟨hS79, by rw [orF hg82]; simp only [put_at, put_no, ev_t, ev_c, reduceIte, Nat.reduceEqDiff, List.map_cons, List.map_nil], by simp only [f75, put_at,
                  put_no, ev_t, ev_c, reduceIte, Nat.reduceEqDiff, List.map_cons, List.map_nil], by simp only [f76, put_at, put_no, ev_t, ev_c, reduceIte, Nat.reduceEqDiff,
                  List.map_cons, List.map_nil], by simp only [f77, put_at, put_no, ev_t, ev_c, reduceIte, Nat.reduceEqDiff, List.map_cons, List.map_nil]⟩
          · rintro fr83 h88 ⟨hS89, f84, f85, f86, f87⟩
            simp only [List.drop_succ_cons, List.drop_zero]
            simp only [f84, run_mv, put_at, put_no, ev_t, ev_c, reduceIte, Nat.reduceEqDiff, List.map_cons, List.map_nil]
            refine ops_j 7 (fun fr' h' => Sep h' h.length ([]) ∧ fr' 77 = .bool (((v55 || (decide ((List.length x7.Known : Int) ≠ (List.length v_0.Nodes : Int)))) || (decide
                (x7.Told < 0))) || (decide ((List.length x7.Log : Int) < x7.Told))) ∧ fr' 1 = .int .i64 v_1 ∧ fr' 2 = .ref [.int .i64 v_0.Truth.Epoch, .int .i64 v_0.Truth.Leader,
                lst cI v_0.Truth.InStep, lst Node.cells v_0.Nodes, lst Row.cells v_0.Acked] 0 ∧ fr' 5 = .ref [.int .i64 x7.View.Epoch, .int .i64 x7.View.Leader,
                lst cI x7.View.InStep, lst Row.cells x7.Log, lst cI x7.Known, .int .i64 x7.Told] 0) (fun Q90 hN91 => ?_) ?_
            · simp only [List.take_succ_cons, List.take_zero]
              simp only [run_guard (g := 70), put_at, put_no, ev_t, ev_c, reduceIte, Nat.reduceEqDiff, List.map_cons, List.map_nil]
              refine guard_split (t := ((v55 || (decide ((List.length x7.Known : Int) ≠ (List.length v_0.Nodes : Int)))) || (decide (x7.Told < 0)))) (fun hg92 => ?_)
                  (fun hg92 => ?_)
              · simp only [hg92, run_guard (g := 70), guard_off', run_pick, put1_some, xpick_t, run_ops_nil, run_nil, put_at, put_no, ev_t, ev_c, reduceIte, Nat.reduceEqDiff,
                  List.map_cons, List.map_nil]
                exact hN91 _ _ ⟨hS89, by rw [orT hg92]; simp only [put_at, put_no, ev_t, ev_c, reduceIte, Nat.reduceEqDiff, List.map_cons, List.map_nil], by simp only [f85,
                    put_at, put_no, ev_t, ev_c, reduceIte, Nat.reduceEqDiff, List.map_cons, List.map_nil], by simp only [f86, put_at, put_no, ev_t, ev_c, reduceIte,
                    Nat.reduceEqDiff, List.map_cons, List.map_nil], by simp only [f87, put_at, put_no, ev_t, ev_c, reduceIte, Nat.reduceEqDiff, List.map_cons, List.map_nil]⟩
              · simp only [hg92, run_guard (g := 70), guard_false, f87, run_fa, put1_some, Nat.reduceAdd, Nat.zero_add, Nat.add_zero, xfa_ref, run_ld, put_at, put_no, ev_t, ev_c,
                  reduceIte, Nat.reduceEqDiff, List.map_cons, List.map_nil]
                refine put1_eq (v := .int .i64 x7.Told) rfl ?_
                simp only [hg92, run_guard (g := 70), guard_false, f87, run_fa, put1_some, Nat.reduceAdd, Nat.zero_add, Nat.add_zero, xfa_ref, run_ld, put_at, put_no, ev_t, ev_c,
                    reduceIte, Nat.reduceEqDiff, List.map_cons, List.map_nil]
                refine put1_eq (v := lst Row.cells x7.Log) rfl ?_
                simp only [hg92, run_guard (g := 70), guard_false, run_len, put1_some, xlen_lst, run_bin, xgtr, run_pick, xpick_f, run_ops_nil, run_nil, put_at, put_no, ev_t,
                    ev_c, reduceIte, Nat.reduceEqDiff, List.map_cons, List.map_nil]
                exact hN91 _ _ ⟨hS89, by rw [orF hg92]; simp only [put_at, put_no, ev_t, ev_c, reduceIte, Nat.reduceEqDiff, List.map_cons, List.map_nil], by simp only [f85,
                    put_at, put_no, ev_t, ev_c, reduceIte, Nat.reduceEqDiff, List.map_cons, List.map_nil], by simp only [f86, put_at, put_no, ev_t, ev_c, reduceIte,
                    Nat.reduceEqDiff, List.map_cons, List.map_nil], by simp only [f87, put_at, put_no, ev_t, ev_c, reduceIte, Nat.reduceEqDiff, List.map_cons, List.map_nil]⟩
            · rintro fr93 h98 ⟨hS99, f94, f95, f96, f97⟩
              simp only [List.drop_succ_cons, List.drop_zero]
              simp only [run_ops_nil, f94, run_cond, put_at, put_no, ev_t, ev_c, reduceIte, Nat.reduceEqDiff, List.map_cons, List.map_nil]
              refine cond_split (t := (((v55 || (decide ((List.length x7.Known : Int) ≠ (List.length v_0.Nodes : Int)))) || (decide (x7.Told < 0))) || (decide
                  ((List.length x7.Log : Int) < x7.Told)))) (fun hc100 => ?_) (fun hc100 => ?_)
              · rw [iteT hc100] at hF57
                simp only [run_seq, run_reg, run_mv, run_ops_nil, run_ret, put_at, put_no, ev_t, ev_c, reduceIte, Nat.reduceEqDiff, List.map_cons, List.map_nil]
                have he := some_inj hF57
                subst he
                simp only [end_ret1, put_at, put_no, ev_t, ev_c, reduceIte, Nat.reduceEqDiff, List.map_cons, List.map_nil]
                exact rfl
              · rw [iteF hc100] at hF57
                simp only [run_skip, x55_6, run_seq, run_reg, f97, run_fa, put1_some, Nat.reduceAdd, Nat.zero_add, Nat.add_zero, xfa_ref, run_ld, put_at, put_no, ev_t, ev_c,
                    reduceIte, Nat.reduceEqDiff, List.map_cons, List.map_nil]
                refine put1_eq (v := lst cI x7.Known) rfl ?_
                simp only [run_len, put1_some, xlen_lst, run_mv, run_ops_nil, put_at, put_no, ev_t, ev_c, reduceIte, Nat.reduceEqDiff, List.map_cons, List.map_nil]
                obtain ⟨oc103, hX105, hk106⟩ := jn_some hF57
                simp only [x55_4]
                refine rangeL_j (σ := Unit) x7.Known (fun i101 x102 _ => spec_l17Node_b1 v_0 v_1 x7 i101 x102 )
                    (fun s fr' h' => fr' 1 = .int .i64 v_1 ∧ fr' 2 = .ref [.int .i64 v_0.Truth.Epoch, .int .i64 v_0.Truth.Leader, lst cI v_0.Truth.InStep,
                    lst Node.cells v_0.Nodes, lst Row.cells v_0.Acked] 0 ∧ fr' 5 = .ref [.int .i64 x7.View.Epoch, .int .i64 x7.View.Leader, lst cI x7.View.InStep,
                    lst Row.cells x7.Log, lst cI x7.Known, .int .i64 x7.Told] 0 ∧ fr' 79 = lst cI x7.Known ∧ Sep h' h.length ([])) hX105 ⟨by simp only [f95, put_at, put_no, ev_t,
                    ev_c, reduceIte, Nat.reduceEqDiff, List.map_cons, List.map_nil], by simp only [f96, put_at, put_no, ev_t, ev_c, reduceIte, Nat.reduceEqDiff, List.map_cons,
                    List.map_nil], by simp only [f97, put_at, put_no, ev_t, ev_c, reduceIte, Nat.reduceEqDiff, List.map_cons, List.map_nil], by simp only [put_at, put_no, ev_t,
                    ev_c, reduceIte, Nat.reduceEqDiff, List.map_cons, List.map_nil], hS99⟩ (by simp only [put_at, put_no, ev_t, ev_c, reduceIte, Nat.reduceEqDiff, List.map_cons,
                    List.map_nil]) (by simp only [put_at, put_no, ev_t, ev_c, reduceIte, Nat.reduceEqDiff, List.map_cons,
                    List.map_nil]) (fun _ _ _ h => h) rfl rfl (fun _ _ _ _ h => h) (fun _ _ _ _ h => h) (fun _ _ _ _ h => h) (by decide) ?_ ?_
                · rintro i101 x102 _ fr115 h116 hx122 ⟨f118, f119, f120, f121, hS117⟩ f123 f124 oc104 hF107 hr108 Q109 hN110 hB114 hK111 hR112 hE113
                  unfold spec_l17Node_b1 at hF107
                  simp only [x55_2, run_seq, run_reg, f121, f123, run_ia, put_at, put_no, ev_t, ev_c, reduceIte, Nat.reduceEqDiff, List.map_cons, List.map_nil]
                  refine put1_eq (v := .ref (cI x102) 0) (xia_lstN hx122 rfl) ?_
                  simp only [run_ld, put_at, put_no, ev_t, ev_c, reduceIte, Nat.reduceEqDiff, List.map_cons, List.map_nil]
                  refine put1_eq (v := .int .i64 x102) rfl ?_
                  simp only [run_mv, run_ops_nil, x55_1, run_seq, run_reg, run_bin, put1_some, xlss, put_at, put_no, ev_t, ev_c, reduceIte, Nat.reduceEqDiff, List.map_cons,
                      List.map_nil]
                  refine ops_j 6 (fun fr' h' => Sep h' h.length ([]) ∧ fr' 93 = .bool ((decide (x102 < 0)) || (decide
                      ((List.length x7.Log : Int) < x102))) ∧ fr' 1 = .int .i64 v_1 ∧ fr' 2 = .ref [.int .i64 v_0.Truth.Epoch, .int .i64 v_0.Truth.Leader, lst cI v_0.Truth.InStep,
                      lst Node.cells v_0.Nodes, lst Row.cells v_0.Acked] 0 ∧ fr' 5 = .ref [.int .i64 x7.View.Epoch, .int .i64 x7.View.Leader, lst cI x7.View.InStep,
                      lst Row.cells x7.Log, lst cI x7.Known,
                      .int .i64 x7.Told] 0 ∧ fr' 7 = .int .i64 x102 ∧ fr' 79 = lst cI x7.Known ∧ fr' 80 = .int .i64 (List.length x7.Known : Int) ∧ fr' 81 = .int .i64
                      (i101 : Int)) (fun Q125 hN126 => ?_) ?_
                  · simp only [List.take_succ_cons, List.take_zero]
                    simp only [run_guard (g := 87), put_at, put_no, ev_t, ev_c, reduceIte, Nat.reduceEqDiff, List.map_cons, List.map_nil]
                    refine guard_split (t := (decide (x102 < 0))) (fun hg127 => ?_) (fun hg127 => ?_)
                    · simp only [hg127, run_guard (g := 87), guard_off', run_pick, put1_some, xpick_t, run_ops_nil, run_nil, put_at, put_no, ev_t, ev_c, reduceIte,
                        Nat.reduceEqDiff, List.map_cons, List.map_nil]
                      exact hN126 _ _ ⟨hS117, by rw [orT hg127]; simp only [put_at, put_no, ev_t, ev_c, reduceIte, Nat.reduceEqDiff, List.map_cons, List.map_nil],
                          by simp only [f118, put_at, put_no, ev_t, ev_c, reduceIte, Nat.reduceEqDiff, List.map_cons, List.map_nil], by simp only [f119, put_at, put_no, ev_t,
                          ev_c, reduceIte, Nat.reduceEqDiff, List.map_cons, List.map_nil], by simp only [f120, put_at, put_no, ev_t, ev_c, reduceIte, Nat.reduceEqDiff,
                          List.map_cons, List.map_nil], by simp only [put_at, put_no, ev_t, ev_c, reduceIte, Nat.reduceEqDiff, List.map_cons, List.map_nil], by simp only [f121,
                          put_at, put_no, ev_t, ev_c, reduceIte, Nat.reduceEqDiff, List.map_cons, List.map_nil], by simp only [f124, put_at, put_no, ev_t, ev_c, reduceIte,
                          Nat.reduceEqDiff, List.map_cons, List.map_nil], by simp only [f123, put_at, put_no, ev_t, ev_c, reduceIte, Nat.reduceEqDiff, List.map_cons, List.map_nil]⟩
                    · simp only [hg127, run_guard (g := 87), guard_false, run_mv, f120, run_fa, put1_some, Nat.reduceAdd, Nat.zero_add, Nat.add_zero, xfa_ref, run_ld, put_at,
                        put_no, ev_t, ev_c, reduceIte, Nat.reduceEqDiff, List.map_cons, List.map_nil]
                      refine put1_eq (v := lst Row.cells x7.Log) rfl ?_
                      simp only [hg127, run_guard (g := 87), guard_false, run_len, put1_some, xlen_lst, run_bin, xgtr, run_pick, xpick_f, run_ops_nil, run_nil, put_at, put_no,
                          ev_t, ev_c, reduceIte, Nat.reduceEqDiff, List.map_cons, List.map_nil]
                      exact hN126 _ _ ⟨hS117, by rw [orF hg127]; simp only [put_at, put_no, ev_t, ev_c, reduceIte, Nat.reduceEqDiff, List.map_cons, List.map_nil],
                          by simp only [f118, put_at, put_no, ev_t, ev_c, reduceIte, Nat.reduceEqDiff, List.map_cons, List.map_nil], by simp only [f119, put_at, put_no, ev_t,
                          ev_c, reduceIte, Nat.reduceEqDiff, List.map_cons, List.map_nil], by simp only [f120, put_at, put_no, ev_t, ev_c, reduceIte, Nat.reduceEqDiff,
                          List.map_cons, List.map_nil], by simp only [put_at, put_no, ev_t, ev_c, reduceIte, Nat.reduceEqDiff, List.map_cons, List.map_nil], by simp only [f121,
                          put_at, put_no, ev_t, ev_c, reduceIte, Nat.reduceEqDiff, List.map_cons, List.map_nil], by simp only [f124, put_at, put_no, ev_t, ev_c, reduceIte,
                          Nat.reduceEqDiff, List.map_cons, List.map_nil], by simp only [f123, put_at, put_no, ev_t, ev_c, reduceIte, Nat.reduceEqDiff, List.map_cons, List.map_nil]⟩
                  · rintro fr128 h137 ⟨hS138, f129, f130, f131, f132, f133, f134, f135, f136⟩
                    simp only [List.drop_succ_cons, List.drop_zero]
                    simp only [f129, run_mv, put_at, put_no, ev_t, ev_c, reduceIte, Nat.reduceEqDiff, List.map_cons, List.map_nil]
                    obtain ⟨v142, hx143, hF144⟩ := bind_some' hF107
                    refine ops_j 9 (fun fr' h' => Sep h' h.length ([]) ∧ fr' 103 = .bool v142 ∧ fr' 1 = .int .i64 v_1 ∧ fr' 2 = .ref [.int .i64 v_0.Truth.Epoch,
                        .int .i64 v_0.Truth.Leader, lst cI v_0.Truth.InStep, lst Node.cells v_0.Nodes, lst Row.cells v_0.Acked] 0 ∧ fr' 5 = .ref [.int .i64 x7.View.Epoch,
                        .int .i64 x7.View.Leader, lst cI x7.View.InStep, lst Row.cells x7.Log, lst cI x7.Known,
                        .int .i64 x7.Told] 0 ∧ fr' 79 = lst cI x7.Known ∧ fr' 80 = .int .i64 (List.length x7.Known : Int) ∧ fr' 81 = .int .i64 (i101 : Int))
                        (fun Q139 hN140 => ?_) ?_
                    · simp only [List.take_succ_cons, List.take_zero]
                      simp only [run_guard (g := 94), put_at, put_no, ev_t, ev_c, reduceIte, Nat.reduceEqDiff, List.map_cons, List.map_nil]
                      refine guard_split (t := ((decide (x102 < 0)) || (decide ((List.length x7.Log : Int) < x102)))) (fun hg141 => ?_) (fun hg141 => ?_)
                      · rw [iteT hg141] at hx143
                        simp only [hg141, run_guard (g := 94), guard_off', run_guard (g := 99), guard_tup, run_pick, put1_some, xpick_t, run_ops_nil, run_nil, put_at, put_no,
                            ev_t, ev_c, reduceIte, Nat.reduceEqDiff, List.map_cons, List.map_nil]
                        have e145 := some_inj hx143
                        exact hN140 _ _ ⟨hS138, by rw [← e145]; simp only [put_at, put_no, ev_t, ev_c, reduceIte, Nat.reduceEqDiff, List.map_cons, List.map_nil],
                            by simp only [f130, put_at, put_no, ev_t, ev_c, reduceIte, Nat.reduceEqDiff, List.map_cons, List.map_nil], by simp only [f131, put_at, put_no, ev_t,
                            ev_c, reduceIte, Nat.reduceEqDiff, List.map_cons, List.map_nil], by simp only [f132, put_at, put_no, ev_t, ev_c, reduceIte, Nat.reduceEqDiff,
                            List.map_cons, List.map_nil], by simp only [f134, put_at, put_no, ev_t, ev_c, reduceIte, Nat.reduceEqDiff, List.map_cons, List.map_nil],
                            by simp only [f135, put_at, put_no, ev_t, ev_c, reduceIte, Nat.reduceEqDiff, List.map_cons, List.map_nil], by simp only [f136, put_at, put_no, ev_t,
                            ev_c, reduceIte, Nat.reduceEqDiff, List.map_cons, List.map_nil]⟩
                      · rw [iteF hg141] at hx143
                        simp only [hg141, run_guard (g := 94), guard_false, f131, run_ld, put_at, put_no, ev_t, ev_c, reduceIte, Nat.reduceEqDiff, List.map_cons, List.map_nil]
                        refine put1_eq (v := .agg [.int .i64 v_0.Truth.Epoch, .int .i64 v_0.Truth.Leader, lst cI v_0.Truth.InStep, lst Node.cells v_0.Nodes,
                            lst Row.cells v_0.Acked]) rfl ?_
                        obtain ⟨v146, hx147, hF148⟩ := bind_some' hx143
                        simp only [hg141, run_guard (g := 94), guard_false, f130, run_mv, run_call, put_at, put_no, ev_t, ev_c, reduceIte, Nat.reduceEqDiff, List.map_cons,
                            List.map_nil]
                        refine call1 rfl (mapM1 (snap_agg (mapM1 snap_int (mapM1 snap_int (mapM1 snap_lst (mapM1 snap_lst (mapM1 snap_lst mapM0)))))) (mapM1 snap_int mapM0))
                            (spec_l17Thinks_x (fun b hb => decide_eq_true hb) v_0 v_1 v146 hx147) ?_
                        simp only [hg141, run_guard (g := 94), guard_false, run_un, put1_some, xnot, run_mv, put_at, put_no, ev_t, ev_c, reduceIte, Nat.reduceEqDiff,
                            List.map_cons, List.map_nil]
                        refine ops_j 3 (fun fr' h' => Sep h' h.length ([]) ∧ fr' 102 = .bool ((!v146) && (decide
                            (x102 ≠ 0))) ∧ fr' 1 = .int .i64 v_1 ∧ fr' 2 = .ref [.int .i64 v_0.Truth.Epoch, .int .i64 v_0.Truth.Leader, lst cI v_0.Truth.InStep,
                            lst Node.cells v_0.Nodes, lst Row.cells v_0.Acked] 0 ∧ fr' 5 = .ref [.int .i64 x7.View.Epoch, .int .i64 x7.View.Leader, lst cI x7.View.InStep,
                            lst Row.cells x7.Log, lst cI x7.Known,
                            .int .i64 x7.Told] 0 ∧ fr' 79 = lst cI x7.Known ∧ fr' 80 = .int .i64 (List.length x7.Known : Int) ∧ fr' 81 = .int .i64 (i101 : Int) ∧ fr' 94 = .bool
                            ((decide (x102 < 0)) || (decide ((List.length x7.Log : Int) < x102)))) (fun Q149 hN150 => ?_) ?_
                        · simp only [List.take_succ_cons, List.take_zero]
                          simp only [run_guard (g := 99), put_at, put_no, ev_t, ev_c, reduceIte, Nat.reduceEqDiff, List.map_cons, List.map_nil]
                          refine guard_split (t := (!v146)) (fun hg151 => ?_) (fun hg151 => ?_)
                          · simp only [hg151, run_guard (g := 99), guard_true, f133, run_mv, run_bin, put1_some, xneq, hg141, run_guard (g := 94), guard_false, run_pick, xpick_t,
                              run_ops_nil, run_nil, put_at, put_no, ev_t, ev_c, reduceIte, Nat.reduceEqDiff, List.map_cons, List.map_nil]
                            exact hN150 _ _ ⟨hS138, by rw [andT hg151]; simp only [put_at, put_no, ev_t, ev_c, reduceIte, Nat.reduceEqDiff, List.map_cons, List.map_nil],
                                by simp only [f130, put_at, put_no, ev_t, ev_c, reduceIte, Nat.reduceEqDiff, List.map_cons, List.map_nil], by simp only [f131, put_at, put_no,
                                ev_t, ev_c, reduceIte, Nat.reduceEqDiff, List.map_cons, List.map_nil], by simp only [f132, put_at, put_no, ev_t, ev_c, reduceIte, Nat.reduceEqDiff,
                                List.map_cons, List.map_nil], by simp only [f134, put_at, put_no, ev_t, ev_c, reduceIte, Nat.reduceEqDiff, List.map_cons, List.map_nil],
                                by simp only [f135, put_at, put_no, ev_t, ev_c, reduceIte, Nat.reduceEqDiff, List.map_cons, List.map_nil], by simp only [f136, put_at, put_no,
                                ev_t, ev_c, reduceIte, Nat.reduceEqDiff, List.map_cons, List.map_nil], by simp only [hg141, put_at, put_no, ev_t, ev_c, reduceIte,
                                Nat.reduceEqDiff, List.map_cons, List.map_nil]⟩
                          · simp only [hg151, run_guard (g := 99), guard_off, hg141, run_guard (g := 94), guard_false, run_pick, put1_some, xpick_f, run_ops_nil, run_nil, put_at,
                              put_no, ev_t, ev_c, reduceIte, Nat.reduceEqDiff, List.map_cons, List.map_nil]
                            exact hN150 _ _ ⟨hS138, by rw [andF hg151]; simp only [put_at, put_no, ev_t, ev_c, reduceIte, Nat.reduceEqDiff, List.map_cons, List.map_nil],
                                by simp only [f130, put_at, put_no, ev_t, ev_c, reduceIte, Nat.reduceEqDiff, List.map_cons, List.map_nil], by simp only [f131, put_at, put_no,
                                ev_t, ev_c, reduceIte, Nat.reduceEqDiff, List.map_cons, List.map_nil], by simp only [f132, put_at, put_no, ev_t, ev_c, reduceIte, Nat.reduceEqDiff,
                                List.map_cons, List.map_nil], by simp only [f134, put_at, put_no, ev_t, ev_c, reduceIte, Nat.reduceEqDiff, List.map_cons, List.map_nil],
                                by simp only [f135, put_at, put_no, ev_t, ev_c, reduceIte, Nat.reduceEqDiff, List.map_cons, List.map_nil], by simp only [f136, put_at, put_no,
                                ev_t, ev_c, reduceIte, Nat.reduceEqDiff, List.map_cons, List.map_nil], by simp only [hg141, put_at, put_no, ev_t, ev_c, reduceIte,
                                Nat.reduceEqDiff, List.map_cons, List.map_nil]⟩
                        · rintro fr152 h161 ⟨hS162, f153, f154, f155, f156, f157, f158, f159, f160⟩
                          simp only [List.drop_succ_cons, List.drop_zero]
                          simp only [f160, hg141, run_pick, put1_some, xpick_f, f153, run_ops_nil, run_nil, put_at, put_no, ev_t, ev_c, reduceIte, Nat.reduceEqDiff, List.map_cons,
                              List.map_nil]
                          have e163 := some_inj hF148
                          exact hN140 _ _ ⟨hS162, by rw [← e163]; simp only [put_at, put_no, ev_t, ev_c, reduceIte, Nat.reduceEqDiff, List.map_cons, List.map_nil],
                              by simp only [f154, put_at, put_no, ev_t, ev_c, reduceIte, Nat.reduceEqDiff, List.map_cons, List.map_nil], by simp only [f155, put_at, put_no, ev_t,
                              ev_c, reduceIte, Nat.reduceEqDiff, List.map_cons, List.map_nil], by simp only [f156, put_at, put_no, ev_t, ev_c, reduceIte, Nat.reduceEqDiff,
                              List.map_cons, List.map_nil], by simp only [f157, put_at, put_no, ev_t, ev_c, reduceIte, Nat.reduceEqDiff, List.map_cons, List.map_nil],
                              by simp only [f158, put_at, put_no, ev_t, ev_c, reduceIte, Nat.reduceEqDiff, List.map_cons, List.map_nil], by simp only [f159, put_at, put_no, ev_t,
                              ev_c, reduceIte, Nat.reduceEqDiff, List.map_cons, List.map_nil]⟩
                    · rintro fr164 h172 ⟨hS173, f165, f166, f167, f168, f169, f170, f171⟩
                      simp only [List.drop_succ_cons, List.drop_zero]
                      simp only [run_ops_nil, f165, run_cond, put_at, put_no, ev_t, ev_c, reduceIte, Nat.reduceEqDiff, List.map_cons, List.map_nil]
                      refine cond_split (t := v142) (fun hc174 => ?_) (fun hc174 => ?_)
                      · rw [iteT hc174] at hF144
                        simp only [run_seq, run_reg, run_mv, run_ops_nil, run_ret, put_at, put_no, ev_t, ev_c, reduceIte, Nat.reduceEqDiff, List.map_cons, List.map_nil]
                        have e175 := some_inj hF144
                        subst e175
                        have ho176 := hr108 _ rfl
                        have hk177 := hk106
                        rw [ho176] at hk177
                        dsimp only [jnO] at hk177
                        apply hR112
                        have he := some_inj hk177
                        subst he
                        simp only [end_ret1, put_at, put_no, ev_t, ev_c, reduceIte, Nat.reduceEqDiff, List.map_cons, List.map_nil]
                        exact rfl
                      · rw [iteF hc174] at hF144
                        simp only [run_skip, run_nil, put_at, put_no, ev_t, ev_c, reduceIte, Nat.reduceEqDiff, List.map_cons, List.map_nil]
                        have e178 := some_inj hF144
                        exact hN110 _ _ _ e178.symm ⟨by simp only [f166, put_at, put_no, ev_t, ev_c, reduceIte, Nat.reduceEqDiff, List.map_cons, List.map_nil], by simp only [f167,
                            put_at, put_no, ev_t, ev_c, reduceIte, Nat.reduceEqDiff, List.map_cons, List.map_nil], by simp only [f168, put_at, put_no, ev_t, ev_c, reduceIte,
                            Nat.reduceEqDiff, List.map_cons, List.map_nil], by simp only [f169, put_at, put_no, ev_t, ev_c, reduceIte, Nat.reduceEqDiff, List.map_cons,
                            List.map_nil], hS173⟩ (by simp only [f171, put_at, put_no, ev_t, ev_c, reduceIte, Nat.reduceEqDiff, List.map_cons, List.map_nil]) (by simp only [f170,
                            put_at, put_no, ev_t, ev_c, reduceIte, Nat.reduceEqDiff, List.map_cons, List.map_nil])
                · rintro _ fr180 h181 rfl ⟨f183, f184, f185, f186, hS182⟩
                  dsimp only [jnO] at hk106
                  unfold spec_l17Node_j1 at hk106
                  simp only [x55_5, run_seq, run_draw, f184, d4_fa, put1d_some, Nat.reduceAdd, Nat.zero_add, Nat.add_zero, xfa_ref, d4_ld, put_at, put_no, ev_t, ev_c, reduceIte,
                      Nat.reduceEqDiff, List.map_cons, List.map_nil]
                  refine put1d_eq (v := lst cI v_0.Truth.InStep) rfl ?_
                  obtain ⟨v187, hx188, hF189⟩ := bind_some' hk106
                  simp only [f183, d4_mv, put1d_some, run_d3_call, put_at, put_no, ev_t, ev_c, reduceIte, Nat.reduceEqDiff, List.map_cons, List.map_nil]
                  refine call1d rfl (mapM1 snap_lst (mapM1 snap_int mapM0)) (spec_l1Has_x (fun b hb => decide_eq_true hb) v_0.Truth.InStep v_1 v187 hx188) ?_
                  simp only [d4_un, put1d_some, xnot, d4_mv, put_at, put_no, ev_t, ev_c, reduceIte, Nat.reduceEqDiff, List.map_cons, List.map_nil]
                  simp only [run_guardd (g := 111), put_at, put_no, ev_t, ev_c, reduceIte, Nat.reduceEqDiff, List.map_cons, List.map_nil]
                  refine guardd_split (t := (!v187)) (fun hg190 => ?_) (fun hg190 => ?_)
                  · rw [iteT hg190] at hF189
                    simp only [hg190, run_guardd (g := 111), guardd_off', d4_pick, put1d_some, xpick_t, d4_mv, run_draw_nil, run_ret, put_at, put_no, ev_t, ev_c, reduceIte,
                        Nat.reduceEqDiff, List.map_cons, List.map_nil]
                    have he := some_inj hF189
                    subst he
                    simp only [end_ret1, put_at, put_no, ev_t, ev_c, reduceIte, Nat.reduceEqDiff, List.map_cons, List.map_nil]
                    exact rfl
                  · rw [iteF hg190] at hF189
                    simp only [hg190, run_guardd (g := 111), guardd_false, f184, d4_fa, put1d_some, Nat.reduceAdd, Nat.zero_add, Nat.add_zero, xfa_ref, d4_ld, put_at, put_no,
                        ev_t, ev_c, reduceIte, Nat.reduceEqDiff, List.map_cons, List.map_nil]
                    refine put1d_eq (v := lst Row.cells v_0.Acked) rfl ?_
                    simp only [hg190, run_guardd (g := 111), guardd_false, f185, d4_fa, put1d_some, Nat.reduceAdd, Nat.zero_add, Nat.add_zero, xfa_ref, d4_ld, put_at, put_no,
                        ev_t, ev_c, reduceIte, Nat.reduceEqDiff, List.map_cons, List.map_nil]
                    refine put1d_eq (v := lst Row.cells x7.Log) rfl ?_
                    obtain ⟨v191, hx192, hF193⟩ := bind_some' hF189
                    simp only [hg190, run_guardd (g := 111), guardd_false, run_d2_call, put_at, put_no, ev_t, ev_c, reduceIte, Nat.reduceEqDiff, List.map_cons, List.map_nil]
                    refine call1q rfl (mapM1 snap_lst (mapM1 snap_lst mapM0)) (spec_l11Same_x (fun b hb => decide_eq_true hb) k v_0.Acked x7.Log v191 hx192) ?_
                    simp only [hg190, run_guardd (g := 111), guardd_false, f184, d1_fa, put1d_some, Nat.reduceAdd, Nat.zero_add, Nat.add_zero, xfa_ref, d1_ld, ldd_ref, put_at,
                        put_no, ev_t, ev_c, reduceIte, Nat.reduceEqDiff, List.map_cons, List.map_nil]
                    refine put1d_eq (v := lst Row.cells v_0.Acked) rfl ?_
                    simp only [hg190, run_guardd (g := 111), guardd_false, d1_len, put1d_some, xlen_lst, d4_bin, xeql, d4_pick, xpick_f, d4_mv, run_draw_nil, run_ret, put_at,
                        put_no, ev_t, ev_c, reduceIte, Nat.reduceEqDiff, List.map_cons, List.map_nil]
                    have he := some_inj hF193
                    subst he
                    simp only [end_ret1, put_at, put_no, ev_t, ev_c, reduceIte, Nat.reduceEqDiff, List.map_cons, List.map_nil]
                    exact rfl
theorem spec_GoodCluster_x {W : Nat → Bool} {h : Heap} (hW : ∀ b,
    h.length ≤ b → W b = true) (k : Nat) (c_0 : Cluster) (r : Bool) (hF : spec_GoodCluster k c_0 = some r) : Ret E W 15 [.agg [.int .i64 c_0.Truth.Epoch,
    .int .i64 c_0.Truth.Leader, lst cI c_0.Truth.InStep, lst Node.cells c_0.Nodes, lst Row.cells c_0.Acked]] h (fun v h' => cut h.length h' E.sz false 9 v = some (.bool r)) := by
  refine Ret.of (fn := x15) rfl (Run.of ?_)
  unfold spec_GoodCluster at hF
  have zf0 : argFr [.agg [.int .i64 c_0.Truth.Epoch, .int .i64 c_0.Truth.Leader, lst cI c_0.Truth.InStep, lst Node.cells c_0.Nodes,
      lst Row.cells c_0.Acked]] 0 = .agg [.int .i64 c_0.Truth.Epoch, .int .i64 c_0.Truth.Leader, lst cI c_0.Truth.InStep, lst Node.cells c_0.Nodes, lst Row.cells c_0.Acked] := rfl
  generalize argFr [.agg [.int .i64 c_0.Truth.Epoch, .int .i64 c_0.Truth.Leader, lst cI c_0.Truth.InStep, lst Node.cells c_0.Nodes, lst Row.cells c_0.Acked]] = fr0 at zf0 ⊢
  have hS : Sep h h.length [] := Sep.nil h
  simp only [x15, run_seq, run_reg, run_box, zf0, put_at, put_no, ev_t, ev_c, reduceIte, Nat.reduceEqDiff, List.map_cons, List.map_nil]
  refine put2_boxC (cs := [.int .i64 c_0.Truth.Epoch, .int .i64 c_0.Truth.Leader, lst cI c_0.Truth.InStep, lst Node.cells c_0.Nodes,
      lst Row.cells c_0.Acked]) hS rfl rfl rfl (fun b1 h2 hS3 => ?_)
  simp only [run_mv, run_ops_nil, put_at, put_no, ev_t, ev_c, reduceIte, Nat.reduceEqDiff, List.map_cons, List.map_nil]
  refine frz_stepC hS3 hW (by simp only [put_at, put_no, ev_t, ev_c, reduceIte, Nat.reduceEqDiff, List.map_cons, List.map_nil]) (fun h5 hS6 => ?_)
  simp only [run_frz_nil, x15_7, run_seq, run_reg, run_fa, put1_some, Nat.reduceAdd, Nat.zero_add, Nat.add_zero, xfa_ref, run_ld, put_at, put_no, ev_t, ev_c, reduceIte,
      Nat.reduceEqDiff, List.map_cons, List.map_nil]
  refine put1_eq (v := lst Node.cells c_0.Nodes) rfl ?_
  simp only [run_len, put1_some, xlen_lst, run_mv, run_ops_nil, x15_6, run_seq, run_reg, run_call, put_at, put_no, ev_t, ev_c, reduceIte, Nat.reduceEqDiff, List.map_cons,
      List.map_nil]
  refine call1 rfl (mapM1 snap_int (mapM1 snap_int (mapM1 snap_int mapM0))) (spec_l1In_x (fun b hb => decide_eq_true hb) (List.length c_0.Nodes : Int) 2 4 _ rfl) ?_
  simp only [run_un, put1_some, xnot, run_mv, put_at, put_no, ev_t, ev_c, reduceIte, Nat.reduceEqDiff, List.map_cons, List.map_nil]
  obtain ⟨v10, hx11, hF12⟩ := bind_some' hF
  refine ops_j 6 (fun fr' h' => Sep h' h.length ([]) ∧ fr' 17 = .bool v10 ∧ fr' 1 = .ref [.int .i64 c_0.Truth.Epoch, .int .i64 c_0.Truth.Leader, lst cI c_0.Truth.InStep,
      lst Node.cells c_0.Nodes, lst Row.cells c_0.Acked] 0) (fun Q7 hN8 => ?_) ?_
  · simp only [List.take_succ_cons, List.take_zero]
    simp only [run_guard (g := 11), put_at, put_no, ev_t, ev_c, reduceIte, Nat.reduceEqDiff, List.map_cons, List.map_nil]
    refine guard_split (t := (!(spec_l1In (List.length c_0.Nodes : Int) 2 4))) (fun hg9 => ?_) (fun hg9 => ?_)
    · rw [iteT hg9] at hx11
      simp only [hg9, run_guard (g := 11), guard_off', run_pick, put1_some, xpick_t, run_ops_nil, run_nil, put_at, put_no, ev_t, ev_c, reduceIte, Nat.reduceEqDiff, List.map_cons,
          List.map_nil]
      have e13 := some_inj hx11
      exact hN8 _ _ ⟨hS6, by rw [← e13]; simp only [put_at, put_no, ev_t, ev_c, reduceIte, Nat.reduceEqDiff, List.map_cons, List.map_nil], by simp only [put_at, put_no, ev_t,
          ev_c, reduceIte, Nat.reduceEqDiff, List.map_cons, List.map_nil]⟩
    · rw [iteF hg9] at hx11
      simp only [hg9, run_guard (g := 11), guard_false, run_fa, put1_some, Nat.reduceAdd, Nat.zero_add, Nat.add_zero, xfa_ref, run_ld, put_at, put_no, ev_t, ev_c, reduceIte,
          Nat.reduceEqDiff, List.map_cons, List.map_nil]
      refine put1_eq (v := .agg [.int .i64 c_0.Truth.Epoch, .int .i64 c_0.Truth.Leader, lst cI c_0.Truth.InStep]) rfl ?_
      obtain ⟨v14, hx15, hF16⟩ := bind_some' hx11
      simp only [hg9, run_guard (g := 11), guard_false, run_mv, run_call, put_at, put_no, ev_t, ev_c, reduceIte, Nat.reduceEqDiff, List.map_cons, List.map_nil]
      refine call1 rfl (mapM1 (snap_agg (mapM1 snap_int (mapM1 snap_int (mapM1 snap_lst mapM0)))) (mapM1 snap_int mapM0)) (spec_l17View_x
          (fun b hb => decide_eq_true hb) c_0.Truth (List.length c_0.Nodes : Int) v14 hx15) ?_
      simp only [hg9, run_guard (g := 11), guard_false, run_un, put1_some, xnot, run_pick, xpick_f, run_ops_nil, run_nil, put_at, put_no, ev_t, ev_c, reduceIte, Nat.reduceEqDiff,
          List.map_cons, List.map_nil]
      have e17 := some_inj hF16
      exact hN8 _ _ ⟨hS6, by rw [← e17]; simp only [put_at, put_no, ev_t, ev_c, reduceIte, Nat.reduceEqDiff, List.map_cons, List.map_nil], by simp only [put_at, put_no, ev_t,
          ev_c, reduceIte, Nat.reduceEqDiff, List.map_cons, List.map_nil]⟩
  · rintro fr18 h21 ⟨hS22, f19, f20⟩
    simp only [List.drop_succ_cons, List.drop_zero]
    simp only [f19, run_mv, put_at, put_no, ev_t, ev_c, reduceIte, Nat.reduceEqDiff, List.map_cons, List.map_nil]
    obtain ⟨v26, hx27, hF28⟩ := bind_some' hF12
    refine ops_j 5 (fun fr' h' => Sep h' h.length ([]) ∧ fr' 23 = .bool v26 ∧ fr' 1 = .ref [.int .i64 c_0.Truth.Epoch, .int .i64 c_0.Truth.Leader, lst cI c_0.Truth.InStep,
        lst Node.cells c_0.Nodes, lst Row.cells c_0.Acked] 0) (fun Q23 hN24 => ?_) ?_
    · simp only [List.take_succ_cons, List.take_zero]
      simp only [run_guard (g := 18), put_at, put_no, ev_t, ev_c, reduceIte, Nat.reduceEqDiff, List.map_cons, List.map_nil]
      refine guard_split (t := v10) (fun hg25 => ?_) (fun hg25 => ?_)
      · rw [iteT hg25] at hx27
        simp only [hg25, run_guard (g := 18), guard_off', run_pick, put1_some, xpick_t, run_ops_nil, run_nil, put_at, put_no, ev_t, ev_c, reduceIte, Nat.reduceEqDiff,
            List.map_cons, List.map_nil]
        have e29 := some_inj hx27
        exact hN24 _ _ ⟨hS22, by rw [← e29]; simp only [put_at, put_no, ev_t, ev_c, reduceIte, Nat.reduceEqDiff, List.map_cons, List.map_nil], by simp only [f20, put_at, put_no,
            ev_t, ev_c, reduceIte, Nat.reduceEqDiff, List.map_cons, List.map_nil]⟩
      · rw [iteF hg25] at hx27
        simp only [hg25, run_guard (g := 18), guard_false, f20, run_fa, put1_some, Nat.reduceAdd, Nat.zero_add, Nat.add_zero, xfa_ref, run_ld, put_at, put_no, ev_t, ev_c,
            reduceIte, Nat.reduceEqDiff, List.map_cons, List.map_nil]
        refine put1_eq (v := lst Row.cells c_0.Acked) rfl ?_
        obtain ⟨v30, hx31, hF32⟩ := bind_some' hx27
        simp only [hg25, run_guard (g := 18), guard_false, run_call, put_at, put_no, ev_t, ev_c, reduceIte, Nat.reduceEqDiff, List.map_cons, List.map_nil]
        refine call1 rfl (mapM1 snap_lst (mapM1 snap_int mapM0)) (spec_l11Log_x (fun b hb => decide_eq_true hb) c_0.Acked 100 v30 hx31) ?_
        simp only [hg25, run_guard (g := 18), guard_false, run_un, put1_some, xnot, run_pick, xpick_f, run_ops_nil, run_nil, put_at, put_no, ev_t, ev_c, reduceIte,
            Nat.reduceEqDiff, List.map_cons, List.map_nil]
        have e33 := some_inj hF32
        exact hN24 _ _ ⟨hS22, by rw [← e33]; simp only [put_at, put_no, ev_t, ev_c, reduceIte, Nat.reduceEqDiff, List.map_cons, List.map_nil], by simp only [f20, put_at, put_no,
            ev_t, ev_c, reduceIte, Nat.reduceEqDiff, List.map_cons, List.map_nil]⟩
    · rintro fr34 h37 ⟨hS38, f35, f36⟩
      simp only [List.drop_succ_cons, List.drop_zero]
      simp only [run_ops_nil, f35, run_cond, put_at, put_no, ev_t, ev_c, reduceIte, Nat.reduceEqDiff, List.map_cons, List.map_nil]
      refine cond_split (t := v26) (fun hc39 => ?_) (fun hc39 => ?_)
      · rw [iteT hc39] at hF28
        simp only [run_seq, run_reg, run_mv, run_ops_nil, run_ret, put_at, put_no, ev_t, ev_c, reduceIte, Nat.reduceEqDiff, List.map_cons, List.map_nil]
        have he := some_inj hF28
        subst he
        simp only [end_ret1, put_at, put_no, ev_t, ev_c, reduceIte, Nat.reduceEqDiff, List.map_cons, List.map_nil]
        exact rfl
      · rw [iteF hc39] at hF28
        simp only [run_skip, x15_5, run_seq, run_reg, f36, run_fa, put1_some, Nat.reduceAdd, Nat.zero_add, Nat.add_zero, xfa_ref, run_ld, put_at, put_no, ev_t, ev_c, reduceIte,
            Nat.reduceEqDiff, List.map_cons, List.map_nil]
        refine put1_eq (v := lst Node.cells c_0.Nodes) rfl ?_
        simp only [run_len, put1_some, xlen_lst, run_mv, run_ops_nil, put_at, put_no, ev_t, ev_c, reduceIte, Nat.reduceEqDiff, List.map_cons, List.map_nil]
        obtain ⟨oc42, hX44, hk45⟩ := jn_some hF28
        simp only [x15_4]
        refine rangeN_j (σ := Unit) (fun i40 _ => spec_GoodCluster_b1 k c_0 i40 ) (fun s fr' h' => fr' 1 = .ref [.int .i64 c_0.Truth.Epoch, .int .i64 c_0.Truth.Leader,
            lst cI c_0.Truth.InStep, lst Node.cells c_0.Nodes, lst Row.cells c_0.Acked] 0 ∧ Sep h' h.length ([])) hX44 ⟨by simp only [f36, put_at, put_no, ev_t, ev_c, reduceIte,
            Nat.reduceEqDiff, List.map_cons, List.map_nil], hS38⟩ (by simp only [put_at, put_no, ev_t, ev_c, reduceIte, Nat.reduceEqDiff, List.map_cons,
            List.map_nil]) (by simp only [put_at, put_no, ev_t, ev_c, reduceIte, Nat.reduceEqDiff, List.map_cons,
            List.map_nil]) (fun _ _ _ h => h) rfl rfl (fun _ _ _ _ h => h) (fun _ _ _ _ h => h) (fun _ _ _ _ h => h) (by decide) ?_ ?_
        · rintro i40 _ fr54 h55 hx58 ⟨f57, hS56⟩ f59 f60 oc43 hF46 hr47 Q48 hN49 hB53 hK50 hR51 hE52
          unfold spec_GoodCluster_b1 at hF46
          simp only [x15_2, run_seq, run_reg, f59, run_mv, run_ops_nil, x15_1, f57, run_ld, put_at, put_no, ev_t, ev_c, reduceIte, Nat.reduceEqDiff, List.map_cons, List.map_nil]
          refine put1_eq (v := .agg [.int .i64 c_0.Truth.Epoch, .int .i64 c_0.Truth.Leader, lst cI c_0.Truth.InStep, lst Node.cells c_0.Nodes, lst Row.cells c_0.Acked]) rfl ?_
          obtain ⟨v61, hx62, hF63⟩ := bind_some' hF46
          simp only [run_mv, run_call, put_at, put_no, ev_t, ev_c, reduceIte, Nat.reduceEqDiff, List.map_cons, List.map_nil]
          refine call1 rfl (mapM1 (snap_agg (mapM1 snap_int (mapM1 snap_int (mapM1 snap_lst (mapM1 snap_lst (mapM1 snap_lst mapM0)))))) (mapM1 snap_int mapM0)) (spec_l17Node_x
              (fun b hb => decide_eq_true hb) k c_0 (i40 : Int) v61 hx62) ?_
          simp only [run_un, put1_some, xnot, run_ops_nil, run_cond, put_at, put_no, ev_t, ev_c, reduceIte, Nat.reduceEqDiff, List.map_cons, List.map_nil]
          refine cond_split (t := (!v61)) (fun hc64 => ?_) (fun hc64 => ?_)
          · rw [iteT hc64] at hF63
            simp only [run_seq, run_reg, run_mv, run_ops_nil, run_ret, put_at, put_no, ev_t, ev_c, reduceIte, Nat.reduceEqDiff, List.map_cons, List.map_nil]
            have e65 := some_inj hF63
            subst e65
            have ho66 := hr47 _ rfl
            have hk67 := hk45
            rw [ho66] at hk67
            dsimp only [jnO] at hk67
            apply hR51
            have he := some_inj hk67
            subst he
            simp only [end_ret1, put_at, put_no, ev_t, ev_c, reduceIte, Nat.reduceEqDiff, List.map_cons, List.map_nil]
            exact rfl
          · rw [iteF hc64] at hF63
            simp only [run_skip, run_nil, put_at, put_no, ev_t, ev_c, reduceIte, Nat.reduceEqDiff, List.map_cons, List.map_nil]
            have e68 := some_inj hF63
            exact hN49 _ _ _ e68.symm ⟨by simp only [f57, put_at, put_no, ev_t, ev_c, reduceIte, Nat.reduceEqDiff, List.map_cons, List.map_nil], hS56⟩ (by simp only [f59, put_at,
                put_no, ev_t, ev_c, reduceIte, Nat.reduceEqDiff, List.map_cons, List.map_nil]) (by simp only [f60, put_at, put_no, ev_t, ev_c, reduceIte, Nat.reduceEqDiff,
                List.map_cons, List.map_nil])
        · rintro _ fr70 h71 rfl ⟨f73, hS72⟩
          dsimp only [jnO] at hk45
          unfold spec_GoodCluster_j1 at hk45
          simp only [run_seq, run_reg, run_mv, run_ops_nil, run_ret, put_at, put_no, ev_t, ev_c, reduceIte, Nat.reduceEqDiff, List.map_cons, List.map_nil]
          have he := some_inj hk45
          subst he
          simp only [end_ret1, put_at, put_no, ev_t, ev_c, reduceIte, Nat.reduceEqDiff, List.map_cons, List.map_nil]
          exact rfl
end Go.Proofs.Ytohofoampalhoaa.X
