/- The functions' code comes to what the plain functions say (2). -/
import Derived.Test.YtohofoampalhoaaXBH1
set_option linter.unusedVariables false
set_option linter.unusedSimpArgs false
set_option maxRecDepth 100000
namespace Go.Proofs.Ytohofoampalhoaa.X
open Go
theorem spec_l17Thinks_x {W : Nat → Bool} {h : Heap} (hW : ∀ b,
    h.length ≤ b → W b = true) (c_0 : Cluster) (k_1 : Int) (r : Bool) (hF : spec_l17Thinks c_0 k_1 = some r) : Ret E W 60 [.agg [.int .i64 c_0.Truth.Epoch,
    .int .i64 c_0.Truth.Leader, lst cI c_0.Truth.InStep, lst Node.cells c_0.Nodes, lst Row.cells c_0.Acked],
    .int .i64 k_1] h (fun v h' => cut h.length h' E.sz false 9 v = some (.bool r)) := by
  refine Ret.of (fn := x60) rfl (Run.of ?_)
  unfold spec_l17Thinks at hF
  have zf0 : argFr [.agg [.int .i64 c_0.Truth.Epoch, .int .i64 c_0.Truth.Leader, lst cI c_0.Truth.InStep, lst Node.cells c_0.Nodes, lst Row.cells c_0.Acked],
      .int .i64 k_1] 0 = .agg [.int .i64 c_0.Truth.Epoch, .int .i64 c_0.Truth.Leader, lst cI c_0.Truth.InStep, lst Node.cells c_0.Nodes, lst Row.cells c_0.Acked] := rfl
  have zf1 : argFr [.agg [.int .i64 c_0.Truth.Epoch, .int .i64 c_0.Truth.Leader, lst cI c_0.Truth.InStep, lst Node.cells c_0.Nodes, lst Row.cells c_0.Acked],
      .int .i64 k_1] 1 = .int .i64 k_1 := rfl
  generalize argFr [.agg [.int .i64 c_0.Truth.Epoch, .int .i64 c_0.Truth.Leader, lst cI c_0.Truth.InStep, lst Node.cells c_0.Nodes, lst Row.cells c_0.Acked],
      .int .i64 k_1] = fr0 at zf0 zf1 ⊢
  have hS : Sep h h.length [] := Sep.nil h
  simp only [x60, run_seq, run_reg, run_box, zf0, put_at, put_no, ev_t, ev_c, reduceIte, Nat.reduceEqDiff, List.map_cons, List.map_nil]
  refine put2_boxC (cs := [.int .i64 c_0.Truth.Epoch, .int .i64 c_0.Truth.Leader, lst cI c_0.Truth.InStep, lst Node.cells c_0.Nodes,
      lst Row.cells c_0.Acked]) hS rfl rfl rfl (fun b1 h2 hS3 => ?_)
  simp only [run_mv, run_ops_nil, put_at, put_no, ev_t, ev_c, reduceIte, Nat.reduceEqDiff, List.map_cons, List.map_nil]
  refine frz_stepC hS3 hW (by simp only [put_at, put_no, ev_t, ev_c, reduceIte, Nat.reduceEqDiff, List.map_cons, List.map_nil]) (fun h5 hS6 => ?_)
  simp only [run_frz_nil, x60_1, run_seq, run_reg, run_fa, put1_some, Nat.reduceAdd, Nat.zero_add, Nat.add_zero, xfa_ref, run_ld, put_at, put_no, ev_t, ev_c, reduceIte,
      Nat.reduceEqDiff, List.map_cons, List.map_nil]
  refine put1_eq (v := lst Node.cells c_0.Nodes) rfl ?_
  obtain ⟨x7, hx8, hF9⟩ := bind_some' hF
  simp only [zf1, run_mv, run_ia, put_at, put_no, ev_t, ev_c, reduceIte, Nat.reduceEqDiff, List.map_cons, List.map_nil]
  refine put1_eq (v := .ref (Node.cells x7) 0) (xia_lst hx8 rfl) ?_
  simp only [run_fa, put1_some, Nat.reduceAdd, Nat.zero_add, Nat.add_zero, xfa_ref, run_ld, put_at, put_no, ev_t, ev_c, reduceIte, Nat.reduceEqDiff, List.map_cons, List.map_nil]
  refine put1_eq (v := .int .i64 x7.View.Leader) rfl ?_
  simp only [zf1, run_mv, run_bin, put1_some, xeql, run_ops_nil, run_ret, put_at, put_no, ev_t, ev_c, reduceIte, Nat.reduceEqDiff, List.map_cons, List.map_nil]
  have he := some_inj hF9
  subst he
  simp only [end_ret1, put_at, put_no, ev_t, ev_c, reduceIte, Nat.reduceEqDiff, List.map_cons, List.map_nil]
  exact rfl
theorem spec_l11Same_x {W : Nat → Bool} {h : Heap} (hW : ∀ b,
    h.length ≤ b → W b = true) (k : Nat) (a_0 : List Row) (b_1 : List Row) (r : Int) (hF : spec_l11Same k a_0 b_1 = some r) : Ret E W 74 [lst Row.cells a_0,
    lst Row.cells b_1] h (fun v h' => cut h.length h' E.sz false 9 v = some (.int .i64 r)) := by
  refine Ret.of (fn := x74) rfl (Run.of ?_)
  unfold spec_l11Same at hF
  have zf0 : argFr [lst Row.cells a_0, lst Row.cells b_1] 0 = lst Row.cells a_0 := rfl
  have zf1 : argFr [lst Row.cells a_0, lst Row.cells b_1] 1 = lst Row.cells b_1 := rfl
  generalize argFr [lst Row.cells a_0, lst Row.cells b_1] = fr0 at zf0 zf1 ⊢
  have hS : Sep h h.length [] := Sep.nil h
  simp only [x74, run_seq, run_reg, run_mv, run_ops_nil, x74_4, x74_3, put_at, put_no, ev_t, ev_c, reduceIte, Nat.reduceEqDiff, List.map_cons, List.map_nil]
  obtain ⟨oc5, hX7, hk8⟩ := jn_some hF
  simp only [x74_2]
  refine loopF_j (σ := Int) (fun s58 => spec_l11Same_b1 a_0 b_1 s58)
      (fun s fr' h' => fr' 0 = lst Row.cells a_0 ∧ fr' 1 = lst Row.cells b_1 ∧ fr' 5 = .int .i64 s ∧ Sep h' h.length ([])) hX7 ⟨by simp only [zf0, put_at, put_no, ev_t, ev_c,
      reduceIte, Nat.reduceEqDiff, List.map_cons, List.map_nil], by simp only [zf1, put_at, put_no, ev_t, ev_c, reduceIte, Nat.reduceEqDiff, List.map_cons, List.map_nil],
      by simp only [put_at, put_no, ev_t, ev_c, reduceIte, Nat.reduceEqDiff, List.map_cons, List.map_nil], hS⟩ (fun _ _ _ h => h) ?_ ?_
  · rintro s2 fr17 h18 ⟨f20, f21, f22, hS19⟩ oc6 hF9 hr10 Q11 hN12 hK13 hR14 hE15
    unfold spec_l11Same_b1 at hF9
    simp only [x74_1, run_seq, run_draw, f22, d4_mv, put1d_some, f20, d4_len, xlen_lst, d4_bin, xlss, put_at, put_no, ev_t, ev_c, reduceIte, Nat.reduceEqDiff, List.map_cons,
        List.map_nil]
    refine draw_j 5 (fun fr' h' => Sep h' h.length ([]) ∧ fr' 15 = .bool ((decide (s2 < (List.length a_0 : Int))) && (decide (s2 <
        (List.length b_1 : Int)))) ∧ fr' 0 = lst Row.cells a_0 ∧ fr' 1 = lst Row.cells b_1 ∧ fr' 5 = .int .i64 s2) rfl (fun Q24 hN25 => ?_) ?_
    · simp only [List.take_succ_cons, List.take_zero]
      simp only [run_guardd (g := 10), put_at, put_no, ev_t, ev_c, reduceIte, Nat.reduceEqDiff, List.map_cons, List.map_nil]
      refine guardd_split (t := (decide (s2 < (List.length a_0 : Int)))) (fun hg26 => ?_) (fun hg26 => ?_)
      · simp only [hg26, run_guardd (g := 10), guardd_true, f22, d4_mv, put1d_some, f21, d4_len, xlen_lst, d4_bin, xlss, d4_pick, xpick_t, run_draw_nil, run_nil, put_at, put_no,
          ev_t, ev_c, reduceIte, Nat.reduceEqDiff, List.map_cons, List.map_nil]
        exact hN25 _ _ ⟨hS19, by rw [andT hg26]; simp only [put_at, put_no, ev_t, ev_c, reduceIte, Nat.reduceEqDiff, List.map_cons, List.map_nil], by simp only [f20, put_at,
            put_no, ev_t, ev_c, reduceIte, Nat.reduceEqDiff, List.map_cons, List.map_nil], by simp only [f21, put_at, put_no, ev_t, ev_c, reduceIte, Nat.reduceEqDiff,
            List.map_cons, List.map_nil], by simp only [f22, put_at, put_no, ev_t, ev_c, reduceIte, Nat.reduceEqDiff, List.map_cons, List.map_nil]⟩
      · simp only [hg26, run_guardd (g := 10), guardd_off, d4_pick, put1d_some, xpick_f, run_draw_nil, run_nil, put_at, put_no, ev_t, ev_c, reduceIte, Nat.reduceEqDiff,
          List.map_cons, List.map_nil]
        exact hN25 _ _ ⟨hS19, by rw [andF hg26]; simp only [put_at, put_no, ev_t, ev_c, reduceIte, Nat.reduceEqDiff, List.map_cons, List.map_nil], by simp only [f20, put_at,
            put_no, ev_t, ev_c, reduceIte, Nat.reduceEqDiff, List.map_cons, List.map_nil], by simp only [f21, put_at, put_no, ev_t, ev_c, reduceIte, Nat.reduceEqDiff,
            List.map_cons, List.map_nil], by simp only [f22, put_at, put_no, ev_t, ev_c, reduceIte, Nat.reduceEqDiff, List.map_cons, List.map_nil]⟩
    · rintro fr27 h32 ⟨hS33, f28, f29, f30, f31⟩
      simp only [List.drop_succ_cons, List.drop_zero]
      simp only [f28, d4_mv, put1d_some, put_at, put_no, ev_t, ev_c, reduceIte, Nat.reduceEqDiff, List.map_cons, List.map_nil]
      obtain ⟨v37, hx38, hF39⟩ := bind_some' hF9
      refine draw_j 10 (fun fr' h' => Sep h' h.length ([]) ∧ fr' 26 = .bool v37 ∧ fr' 0 = lst Row.cells a_0 ∧ fr' 1 = lst Row.cells b_1 ∧ fr' 5 = .int .i64 s2) rfl
          (fun Q34 hN35 => ?_) ?_
      · simp only [List.take_succ_cons, List.take_zero]
        simp only [run_guardd (g := 16), put_at, put_no, ev_t, ev_c, reduceIte, Nat.reduceEqDiff, List.map_cons, List.map_nil]
        refine guardd_split (t := ((decide (s2 < (List.length a_0 : Int))) && (decide (s2 < (List.length b_1 : Int))))) (fun hg36 => ?_) (fun hg36 => ?_)
        · rw [iteT hg36] at hx38
          obtain ⟨x40, hx41, hF42⟩ := bind_some' hx38
          simp only [hg36, run_guardd (g := 16), guardd_true, f29, d4_mv, put1d_some, f31, d4_ia, put_at, put_no, ev_t, ev_c, reduceIte, Nat.reduceEqDiff, List.map_cons,
              List.map_nil]
          refine put1d_eq (v := .ref (Row.cells x40) 0) (xia_lst hx41 rfl) ?_
          simp only [hg36, run_guardd (g := 16), guardd_true, d4_ld, put_at, put_no, ev_t, ev_c, reduceIte, Nat.reduceEqDiff, List.map_cons, List.map_nil]
          refine put1d_eq (v := .agg [.int .i64 x40.Epoch, .int .i64 x40.Value]) rfl ?_
          obtain ⟨x43, hx44, hF45⟩ := bind_some' hF42
          simp only [hg36, run_guardd (g := 16), guardd_true, f30, d4_mv, put1d_some, f31, d4_ia, put_at, put_no, ev_t, ev_c, reduceIte, Nat.reduceEqDiff, List.map_cons,
              List.map_nil]
          refine put1d_eq (v := .ref (Row.cells x43) 0) (xia_lst hx44 rfl) ?_
          simp only [hg36, run_guardd (g := 16), guardd_true, d4_ld, put_at, put_no, ev_t, ev_c, reduceIte, Nat.reduceEqDiff, List.map_cons, List.map_nil]
          refine put1d_eq (v := .agg [.int .i64 x43.Epoch, .int .i64 x43.Value]) rfl ?_
          simp only [hg36, run_guardd (g := 16), guardd_true, d4_eqs, put_at, put_no, ev_t, ev_c, reduceIte, Nat.reduceEqDiff, List.map_cons, List.map_nil]
          refine put1d_eq (v := .bool ((x40.Epoch == x43.Epoch) && ((x40.Value == x43.Value) && true))) rfl ?_
          simp only [hg36, d4_pick, put1d_some, xpick_t, run_draw_nil, run_nil, put_at, put_no, ev_t, ev_c, reduceIte, Nat.reduceEqDiff, List.map_cons, List.map_nil]
          have e46 := some_inj hF45
          exact hN35 _ _ ⟨hS33, by rw [← e46]; simp only [put_at, put_no, ev_t, ev_c, reduceIte, Nat.reduceEqDiff, List.map_cons, List.map_nil], by simp only [f29, put_at, put_no,
              ev_t, ev_c, reduceIte, Nat.reduceEqDiff, List.map_cons, List.map_nil], by simp only [f30, put_at, put_no, ev_t, ev_c, reduceIte, Nat.reduceEqDiff, List.map_cons,
              List.map_nil], by simp only [f31, put_at, put_no, ev_t, ev_c, reduceIte, Nat.reduceEqDiff, List.map_cons, List.map_nil]⟩
        · rw [iteF hg36] at hx38
          simp only [hg36, run_guardd (g := 16), guardd_off, d4_pick, put1d_some, xpick_f, run_draw_nil, run_nil, put_at, put_no, ev_t, ev_c, reduceIte, Nat.reduceEqDiff,
              List.map_cons, List.map_nil]
          have e47 := some_inj hx38
          exact hN35 _ _ ⟨hS33, by rw [← e47]; simp only [put_at, put_no, ev_t, ev_c, reduceIte, Nat.reduceEqDiff, List.map_cons, List.map_nil], by simp only [f29, put_at, put_no,
              ev_t, ev_c, reduceIte, Nat.reduceEqDiff, List.map_cons, List.map_nil], by simp only [f30, put_at, put_no, ev_t, ev_c, reduceIte, Nat.reduceEqDiff, List.map_cons,
              List.map_nil], by simp only [f31, put_at, put_no, ev_t, ev_c, reduceIte, Nat.reduceEqDiff, List.map_cons, List.map_nil]⟩
      · rintro fr48 h53 ⟨hS54, f49, f50, f51, f52⟩
        simp only [List.drop_succ_cons, List.drop_zero]
        simp only [run_draw_nil, f49, run_cond, put_at, put_no, ev_t, ev_c, reduceIte, Nat.reduceEqDiff, List.map_cons, List.map_nil]
        refine cond_split (t := v37) (fun hc55 => ?_) (fun hc55 => ?_)
        · rw [iteT hc55] at hF39
          simp only [run_skip, run_block, run_reg, f52, run_mv, run_bin, put1_some, xadd, run_ops_nil, run_blk, run_nil, put_at, put_no, ev_t, ev_c, reduceIte, Nat.reduceEqDiff,
              List.map_cons, List.map_nil]
          have e56 := some_inj hF39
          exact hN12 _ _ _ e56.symm ⟨by simp only [f50, put_at, put_no, ev_t, ev_c, reduceIte, Nat.reduceEqDiff, List.map_cons, List.map_nil], by simp only [f51, put_at, put_no,
              ev_t, ev_c, reduceIte, Nat.reduceEqDiff, List.map_cons, List.map_nil], by simp only [put_at, put_no, ev_t, ev_c, reduceIte, Nat.reduceEqDiff, List.map_cons,
              List.map_nil], hS54⟩
        · rw [iteF hc55] at hF39
          simp only [run_exit, out_code, out_nil, put_at, put_no, ev_t, ev_c, reduceIte, Nat.reduceEqDiff, List.map_cons, List.map_nil]
          have e57 := some_inj hF39
          exact hK13 _ _ _ e57.symm ⟨by simp only [f50, put_at, put_no, ev_t, ev_c, reduceIte, Nat.reduceEqDiff, List.map_cons, List.map_nil], by simp only [f51, put_at, put_no,
              ev_t, ev_c, reduceIte, Nat.reduceEqDiff, List.map_cons, List.map_nil], by simp only [f52, put_at, put_no, ev_t, ev_c, reduceIte, Nat.reduceEqDiff, List.map_cons,
              List.map_nil], hS54⟩
  · rintro s59 fr60 h61 rfl ⟨f63, f64, f65, hS62⟩
    dsimp only [jnO] at hk8
    unfold spec_l11Same_j1 at hk8
    simp only [run_seq, run_reg, f65, run_mv, run_ops_nil, run_ret, put_at, put_no, ev_t, ev_c, reduceIte, Nat.reduceEqDiff, List.map_cons, List.map_nil]
    have he := some_inj hk8
    subst he
    simp only [end_ret1, put_at, put_no, ev_t, ev_c, reduceIte, Nat.reduceEqDiff, List.map_cons, List.map_nil]
    exact rfl
theorem spec_l17Node_x {W : Nat → Bool} {h : Heap} (hW : ∀ b,
    h.length ≤ b → W b = true) (k : Nat) (v_0 : Cluster) (v_1 : Int) (r : Bool) (hF : spec_l17Node k v_0 v_1 = some r) : Ret E W 55 [.agg [.int .i64 v_0.Truth.Epoch,
    .int .i64 v_0.Truth.Leader, lst cI v_0.Truth.InStep, lst Node.cells v_0.Nodes, lst Row.cells v_0.Acked],
    .int .i64 v_1] h (fun v h' => cut h.length h' E.sz false 9 v = some (.bool r)) := by
  refine Ret.of (fn := x55) rfl (Run.of ?_)
  unfold spec_l17Node at hF
  have zf0 : argFr [.agg [.int .i64 v_0.Truth.Epoch, .int .i64 v_0.Truth.Leader, lst cI v_0.Truth.InStep, lst Node.cells v_0.Nodes, lst Row.cells v_0.Acked],
      .int .i64 v_1] 0 = .agg [.int .i64 v_0.Truth.Epoch, .int .i64 v_0.Truth.Leader, lst cI v_0.Truth.InStep, lst Node.cells v_0.Nodes, lst Row.cells v_0.Acked] := rfl
  have zf1 : argFr [.agg [.int .i64 v_0.Truth.Epoch, .int .i64 v_0.Truth.Leader, lst cI v_0.Truth.InStep, lst Node.cells v_0.Nodes, lst Row.cells v_0.Acked],
      .int .i64 v_1] 1 = .int .i64 v_1 := rfl
  generalize argFr [.agg [.int .i64 v_0.Truth.Epoch, .int .i64 v_0.Truth.Leader, lst cI v_0.Truth.InStep, lst Node.cells v_0.Nodes, lst Row.cells v_0.Acked],
      .int .i64 v_1] = fr0 at zf0 zf1 ⊢
  have hS : Sep h h.length [] := Sep.nil h
  simp only [x55, run_seq, run_reg, run_box, zf0, put_at, put_no, ev_t, ev_c, reduceIte, Nat.reduceEqDiff, List.map_cons, List.map_nil]
  refine put2_boxC (cs := [.int .i64 v_0.Truth.Epoch, .int .i64 v_0.Truth.Leader, lst cI v_0.Truth.InStep, lst Node.cells v_0.Nodes,
      lst Row.cells v_0.Acked]) hS rfl rfl rfl (fun b1 h2 hS3 => ?_)
  simp only [run_mv, run_ops_nil, put_at, put_no, ev_t, ev_c, reduceIte, Nat.reduceEqDiff, List.map_cons, List.map_nil]
  refine frz_stepC hS3 hW (by simp only [put_at, put_no, ev_t, ev_c, reduceIte, Nat.reduceEqDiff, List.map_cons, List.map_nil]) (fun h5 hS6 => ?_)
  simp only [run_frz_nil, x55_8, run_seq, run_reg, run_fa, put1_some, Nat.reduceAdd, Nat.zero_add, Nat.add_zero, xfa_ref, run_ld, put_at, put_no, ev_t, ev_c, reduceIte,
      Nat.reduceEqDiff, List.map_cons, List.map_nil]
  refine put1_eq (v := lst Node.cells v_0.Nodes) rfl ?_
  obtain ⟨x7, hx8, hF9⟩ := bind_some' hF
  simp only [zf1, run_mv, run_ia, put_at, put_no, ev_t, ev_c, reduceIte, Nat.reduceEqDiff, List.map_cons, List.map_nil]
  refine put1_eq (v := .ref (Node.cells x7) 0) (xia_lst hx8 rfl) ?_
  simp only [run_ld, put_at, put_no, ev_t, ev_c, reduceIte, Nat.reduceEqDiff, List.map_cons, List.map_nil]
  refine put1_eq (v := .agg [.int .i64 x7.View.Epoch, .int .i64 x7.View.Leader, lst cI x7.View.InStep, lst Row.cells x7.Log, lst cI x7.Known, .int .i64 x7.Told]) rfl ?_
  simp only [run_new, put_at, put_no, ev_t, ev_c, reduceIte, Nat.reduceEqDiff, List.map_cons, List.map_nil]
  refine put2_newC hS6 (fun b10 h11 hS12 => ?_)
  simp only [run_st, put_at, put_no, ev_t, ev_c, reduceIte, Nat.reduceEqDiff, List.map_cons, List.map_nil]
  refine put2_stCx (us := [.int .i64 x7.View.Epoch, .int .i64 x7.View.Leader, lst cI x7.View.InStep, lst Row.cells x7.Log, lst cI x7.Known,
      .int .i64 x7.Told]) rfl (cs' := [.int .i64 x7.View.Epoch, .int .i64 x7.View.Leader, lst cI x7.View.InStep, lst Row.cells x7.Log, lst cI x7.Known,
      .int .i64 x7.Told]) hS12 hW rfl rfl (Nat.le_of_ble_eq_true rfl) rfl (fun h14 hS15 => ?_)
  simp only [put_no, run_ops_nil, put_at, ev_t, ev_c, reduceIte, Nat.reduceEqDiff, List.map_cons, List.map_nil]
  refine frz_stepC hS15 hW (by simp only [put_at, put_no, ev_t, ev_c, reduceIte, Nat.reduceEqDiff, List.map_cons, List.map_nil]) (fun h16 hS17 => ?_)
  simp only [run_frz_nil, x55_7, run_seq, run_reg, run_fa, put1_some, Nat.reduceAdd, Nat.zero_add, Nat.add_zero, xfa_ref, run_ld, put_at, put_no, ev_t, ev_c, reduceIte,
      Nat.reduceEqDiff, List.map_cons, List.map_nil]
  refine put1_eq (v := .agg [.int .i64 x7.View.Epoch, .int .i64 x7.View.Leader, lst cI x7.View.InStep]) rfl ?_
  simp only [run_fa, put1_some, Nat.reduceAdd, Nat.zero_add, Nat.add_zero, xfa_ref, run_ld, put_at, put_no, ev_t, ev_c, reduceIte, Nat.reduceEqDiff, List.map_cons, List.map_nil]
  refine put1_eq (v := lst Node.cells v_0.Nodes) rfl ?_
  obtain ⟨v18, hx19, hF20⟩ := bind_some' hF9
  simp only [run_len, put1_some, xlen_lst, run_call, put_at, put_no, ev_t, ev_c, reduceIte, Nat.reduceEqDiff, List.map_cons, List.map_nil]
  refine call1 rfl (mapM1 (snap_agg (mapM1 snap_int (mapM1 snap_int (mapM1 snap_lst mapM0)))) (mapM1 snap_int mapM0)) (spec_l17View_x (fun b hb => decide_eq_true hb) x7.View
      (List.length v_0.Nodes : Int) v18 hx19) ?_
  simp only [run_un, put1_some, xnot, run_mv, put_at, put_no, ev_t, ev_c, reduceIte, Nat.reduceEqDiff, List.map_cons, List.map_nil]
  refine ops_j 8 (fun fr' h' => Sep h' h.length ([]) ∧ fr' 28 = .bool ((!v18) || (decide
      (v_0.Truth.Epoch < x7.View.Epoch))) ∧ fr' 1 = .int .i64 v_1 ∧ fr' 2 = .ref [.int .i64 v_0.Truth.Epoch, .int .i64 v_0.Truth.Leader, lst cI v_0.Truth.InStep,
      lst Node.cells v_0.Nodes, lst Row.cells v_0.Acked] 0 ∧ fr' 5 = .ref [.int .i64 x7.View.Epoch, .int .i64 x7.View.Leader, lst cI x7.View.InStep, lst Row.cells x7.Log,
      lst cI x7.Known, .int .i64 x7.Told] 0) (fun Q21 hN22 => ?_) ?_
  · simp only [List.take_succ_cons, List.take_zero]
    simp only [run_guard (g := 20), put_at, put_no, ev_t, ev_c, reduceIte, Nat.reduceEqDiff, List.map_cons, List.map_nil]
    refine guard_split (t := (!v18)) (fun hg23 => ?_) (fun hg23 => ?_)
    · simp only [hg23, run_guard (g := 20), guard_off', run_pick, put1_some, xpick_t, run_ops_nil, run_nil, put_at, put_no, ev_t, ev_c, reduceIte, Nat.reduceEqDiff, List.map_cons,
        List.map_nil]
      exact hN22 _ _ ⟨hS17, by rw [orT hg23]; simp only [put_at, put_no, ev_t, ev_c, reduceIte, Nat.reduceEqDiff, List.map_cons, List.map_nil], by simp only [zf1, put_at, put_no,
          ev_t, ev_c, reduceIte, Nat.reduceEqDiff, List.map_cons, List.map_nil], by simp only [put_at, put_no, ev_t, ev_c, reduceIte, Nat.reduceEqDiff, List.map_cons,
          List.map_nil], by simp only [put_at, put_no, ev_t, ev_c, reduceIte, Nat.reduceEqDiff, List.map_cons, List.map_nil]⟩
    · simp only [hg23, run_guard (g := 20), guard_false, run_fa, put1_some, Nat.reduceAdd, Nat.zero_add, Nat.add_zero, xfa_ref, run_ld, put_at, put_no, ev_t, ev_c, reduceIte,
        Nat.reduceEqDiff, List.map_cons, List.map_nil]
      refine put1_eq (v := .int .i64 x7.View.Epoch) rfl ?_
      simp only [hg23, run_guard (g := 20), guard_false, run_fa, put1_some, Nat.reduceAdd, Nat.zero_add, Nat.add_zero, xfa_ref, run_ld, put_at, put_no, ev_t, ev_c, reduceIte,
          Nat.reduceEqDiff, List.map_cons, List.map_nil]
      refine put1_eq (v := .int .i64 v_0.Truth.Epoch) rfl ?_
      simp only [hg23, run_guard (g := 20), guard_false, run_bin, put1_some, xgtr, run_pick, xpick_f, run_ops_nil, run_nil, put_at, put_no, ev_t, ev_c, reduceIte,
          Nat.reduceEqDiff, List.map_cons, List.map_nil]
      exact hN22 _ _ ⟨hS17, by rw [orF hg23]; simp only [put_at, put_no, ev_t, ev_c, reduceIte, Nat.reduceEqDiff, List.map_cons, List.map_nil], by simp only [zf1, put_at, put_no,
          ev_t, ev_c, reduceIte, Nat.reduceEqDiff, List.map_cons, List.map_nil], by simp only [put_at, put_no, ev_t, ev_c, reduceIte, Nat.reduceEqDiff, List.map_cons,
          List.map_nil], by simp only [put_at, put_no, ev_t, ev_c, reduceIte, Nat.reduceEqDiff, List.map_cons, List.map_nil]⟩
  · rintro fr24 h29 ⟨hS30, f25, f26, f27, f28⟩
    simp only [List.drop_succ_cons, List.drop_zero]
    simp only [f25, run_mv, put_at, put_no, ev_t, ev_c, reduceIte, Nat.reduceEqDiff, List.map_cons, List.map_nil]
    refine ops_j 17 (fun fr' h' => Sep h' h.length ([]) ∧ fr' 46 = .bool (((!v18) || (decide (v_0.Truth.Epoch < x7.View.Epoch))) || ((decide (x7.View.Epoch = v_0.Truth.Epoch)) &&
        (decide (x7.View.Leader ≠ v_0.Truth.Leader)))) ∧ fr' 1 = .int .i64 v_1 ∧ fr' 2 = .ref [.int .i64 v_0.Truth.Epoch, .int .i64 v_0.Truth.Leader, lst cI v_0.Truth.InStep,
        lst Node.cells v_0.Nodes, lst Row.cells v_0.Acked] 0 ∧ fr' 5 = .ref [.int .i64 x7.View.Epoch, .int .i64 x7.View.Leader, lst cI x7.View.InStep, lst Row.cells x7.Log,
        lst cI x7.Known, .int .i64 x7.Told] 0) (fun Q31 hN32 => ?_) ?_
    · simp only [List.take_succ_cons, List.take_zero]
      simp only [run_guard (g := 29), put_at, put_no, ev_t, ev_c, reduceIte, Nat.reduceEqDiff, List.map_cons, List.map_nil]
      refine guard_split (t := ((!v18) || (decide (v_0.Truth.Epoch < x7.View.Epoch)))) (fun hg33 => ?_) (fun hg33 => ?_)
      · simp only [hg33, run_guard (g := 29), guard_off', run_guard (g := 37), guard_tup, run_pick, put1_some, xpick_t, run_ops_nil, run_nil, put_at, put_no, ev_t, ev_c,
          reduceIte, Nat.reduceEqDiff, List.map_cons, List.map_nil]
        exact hN32 _ _ ⟨hS30, by rw [orT hg33]; simp only [put_at, put_no, ev_t, ev_c, reduceIte, Nat.reduceEqDiff, List.map_cons, List.map_nil], by simp only [f26, put_at,
            put_no, ev_t, ev_c, reduceIte, Nat.reduceEqDiff, List.map_cons, List.map_nil], by simp only [f27, put_at, put_no, ev_t, ev_c, reduceIte, Nat.reduceEqDiff,
            List.map_cons, List.map_nil], by simp only [f28, put_at, put_no, ev_t, ev_c, reduceIte, Nat.reduceEqDiff, List.map_cons, List.map_nil]⟩
      · simp only [hg33, run_guard (g := 29), guard_false, f28, run_fa, put1_some, Nat.reduceAdd, Nat.zero_add, Nat.add_zero, xfa_ref, run_ld, put_at, put_no, ev_t, ev_c,
          reduceIte, Nat.reduceEqDiff, List.map_cons, List.map_nil]
        refine put1_eq (v := .int .i64 x7.View.Epoch) rfl ?_
        simp only [hg33, run_guard (g := 29), guard_false, f27, run_fa, put1_some, Nat.reduceAdd, Nat.zero_add, Nat.add_zero, xfa_ref, run_ld, put_at, put_no, ev_t, ev_c,
            reduceIte, Nat.reduceEqDiff, List.map_cons, List.map_nil]
        refine put1_eq (v := .int .i64 v_0.Truth.Epoch) rfl ?_
        simp only [hg33, run_guard (g := 29), guard_false, run_bin, put1_some, xeql, run_mv, put_at, put_no, ev_t, ev_c, reduceIte, Nat.reduceEqDiff, List.map_cons, List.map_nil]
        refine ops_j 8 (fun fr' h' => Sep h' h.length ([]) ∧ fr' 45 = .bool ((decide (x7.View.Epoch = v_0.Truth.Epoch)) && (decide
            (x7.View.Leader ≠ v_0.Truth.Leader))) ∧ fr' 1 = .int .i64 v_1 ∧ fr' 2 = .ref [.int .i64 v_0.Truth.Epoch, .int .i64 v_0.Truth.Leader, lst cI v_0.Truth.InStep,
            lst Node.cells v_0.Nodes, lst Row.cells v_0.Acked] 0 ∧ fr' 5 = .ref [.int .i64 x7.View.Epoch, .int .i64 x7.View.Leader, lst cI x7.View.InStep, lst Row.cells x7.Log,
            lst cI x7.Known, .int .i64 x7.Told] 0 ∧ fr' 29 = .bool ((!v18) || (decide (v_0.Truth.Epoch < x7.View.Epoch)))) (fun Q34 hN35 => ?_) ?_
        · simp only [List.take_succ_cons, List.take_zero]
          simp only [run_guard (g := 37), put_at, put_no, ev_t, ev_c, reduceIte, Nat.reduceEqDiff, List.map_cons, List.map_nil]
          refine guard_split (t := (decide (x7.View.Epoch = v_0.Truth.Epoch))) (fun hg36 => ?_) (fun hg36 => ?_)
          · simp only [hg36, run_guard (g := 37), guard_true, f28, run_fa, put1_some, Nat.reduceAdd, Nat.zero_add, Nat.add_zero, xfa_ref, run_ld, put_at, put_no, ev_t, ev_c,
              reduceIte, Nat.reduceEqDiff, List.map_cons, List.map_nil]
            refine put1_eq (v := .int .i64 x7.View.Leader) rfl ?_
            simp only [hg36, run_guard (g := 37), guard_true, f27, run_fa, put1_some, Nat.reduceAdd, Nat.zero_add, Nat.add_zero, xfa_ref, run_ld, put_at, put_no, ev_t, ev_c,
                reduceIte, Nat.reduceEqDiff, List.map_cons, List.map_nil]
            refine put1_eq (v := .int .i64 v_0.Truth.Leader) rfl ?_
            simp only [hg36, run_guard (g := 37), guard_true, run_bin, put1_some, xneq, hg33, run_guard (g := 29), guard_false, run_pick, xpick_t, run_ops_nil, run_nil, put_at,
                put_no, ev_t, ev_c, reduceIte, Nat.reduceEqDiff, List.map_cons, List.map_nil]
            exact hN35 _ _ ⟨hS30, by rw [andT hg36]; simp only [put_at, put_no, ev_t, ev_c, reduceIte, Nat.reduceEqDiff, List.map_cons, List.map_nil], by simp only [f26, put_at,
                put_no, ev_t, ev_c, reduceIte, Nat.reduceEqDiff, List.map_cons, List.map_nil], by simp only [f27, put_at, put_no, ev_t, ev_c, reduceIte, Nat.reduceEqDiff,
                List.map_cons, List.map_nil], by simp only [f28, put_at, put_no, ev_t, ev_c, reduceIte, Nat.reduceEqDiff, List.map_cons, List.map_nil], by simp only [hg33, put_at,
                put_no, ev_t, ev_c, reduceIte, Nat.reduceEqDiff, List.map_cons, List.map_nil]⟩
          · simp only [hg36, run_guard (g := 37), guard_off, hg33, run_guard (g := 29), guard_false, run_pick, put1_some, xpick_f, run_ops_nil, run_nil, put_at, put_no, ev_t,
              ev_c, reduceIte, Nat.reduceEqDiff, List.map_cons, List.map_nil]
            exact hN35 _ _ ⟨hS30, by rw [andF hg36]; simp only [put_at, put_no, ev_t, ev_c, reduceIte, Nat.reduceEqDiff, List.map_cons, List.map_nil], by simp only [f26, put_at,
                put_no, ev_t, ev_c, reduceIte, Nat.reduceEqDiff, List.map_cons, List.map_nil], by simp only [f27, put_at, put_no, ev_t, ev_c, reduceIte, Nat.reduceEqDiff,
                List.map_cons, List.map_nil], by simp only [f28, put_at, put_no, ev_t, ev_c, reduceIte, Nat.reduceEqDiff, List.map_cons, List.map_nil], by simp only [hg33, put_at,
                put_no, ev_t, ev_c, reduceIte, Nat.reduceEqDiff, List.map_cons, List.map_nil]⟩
        · rintro fr37 h43 ⟨hS44, f38, f39, f40, f41, f42⟩
          simp only [List.drop_succ_cons, List.drop_zero]
          simp only [f42, hg33, run_pick, put1_some, xpick_f, f38, run_ops_nil, run_nil, put_at, put_no, ev_t, ev_c, reduceIte, Nat.reduceEqDiff, List.map_cons, List.map_nil]
          exact hN32 _ _ ⟨hS44, by rw [orF hg33]; simp only [put_at, put_no, ev_t, ev_c, reduceIte, Nat.reduceEqDiff, List.map_cons, List.map_nil], by simp only [f39, put_at,
              put_no, ev_t, ev_c, reduceIte, Nat.reduceEqDiff, List.map_cons, List.map_nil], by simp only [f40, put_at, put_no, ev_t, ev_c, reduceIte, Nat.reduceEqDiff,
              List.map_cons, List.map_nil], by simp only [f41, put_at, put_no, ev_t, ev_c, reduceIte, Nat.reduceEqDiff, List.map_cons, List.map_nil]⟩
    · rintro fr45 h50 ⟨hS51, f46, f47, f48, f49⟩
      simp only [List.drop_succ_cons, List.drop_zero]
      simp only [f46, run_mv, put_at, put_no, ev_t, ev_c, reduceIte, Nat.reduceEqDiff, List.map_cons, List.map_nil]
      obtain ⟨v55, hx56, hF57⟩ := bind_some' hF20
      refine ops_j 8 (fun fr' h' => Sep h' h.length ([]) ∧ fr' 55 = .bool v55 ∧ fr' 1 = .int .i64 v_1 ∧ fr' 2 = .ref [.int .i64 v_0.Truth.Epoch, .int .i64 v_0.Truth.Leader,
          lst cI v_0.Truth.InStep, lst Node.cells v_0.Nodes, lst Row.cells v_0.Acked] 0 ∧ fr' 5 = .ref [.int .i64 x7.View.Epoch, .int .i64 x7.View.Leader, lst cI x7.View.InStep,
          lst Row.cells x7.Log, lst cI x7.Known, .int .i64 x7.Told] 0) (fun Q52 hN53 => ?_) ?_
      · simp only [List.take_succ_cons, List.take_zero]
        simp only [run_guard (g := 47), put_at, put_no, ev_t, ev_c, reduceIte, Nat.reduceEqDiff, List.map_cons, List.map_nil]
        refine guard_split (t := (((!v18) || (decide (v_0.Truth.Epoch < x7.View.Epoch))) || ((decide (x7.View.Epoch = v_0.Truth.Epoch)) && (decide
            (x7.View.Leader ≠ v_0.Truth.Leader))))) (fun hg54 => ?_) (fun hg54 => ?_)
        · rw [iteT hg54] at hx56
          simp only [hg54, run_guard (g := 47), guard_off', run_pick, put1_some, xpick_t, run_ops_nil, run_nil, put_at, put_no, ev_t, ev_c, reduceIte, Nat.reduceEqDiff,
              List.map_cons, List.map_nil]
          have e58 := some_inj hx56
          exact hN53 _ _ ⟨hS51, by rw [← e58]; simp only [put_at, put_no, ev_t, ev_c, reduceIte, Nat.reduceEqDiff, List.map_cons, List.map_nil], by simp only [f47, put_at, put_no,
              ev_t, ev_c, reduceIte, Nat.reduceEqDiff, List.map_cons, List.map_nil], by simp only [f48, put_at, put_no, ev_t, ev_c, reduceIte, Nat.reduceEqDiff, List.map_cons,
              List.map_nil], by simp only [f49, put_at, put_no, ev_t, ev_c, reduceIte, Nat.reduceEqDiff, List.map_cons, List.map_nil]⟩
        · rw [iteF hg54] at hx56
          simp only [hg54, run_guard (g := 47), guard_false, f49, run_fa, put1_some, Nat.reduceAdd, Nat.zero_add, Nat.add_zero, xfa_ref, run_ld, put_at, put_no, ev_t, ev_c,
              reduceIte, Nat.reduceEqDiff, List.map_cons, List.map_nil]
          refine put1_eq (v := lst Row.cells x7.Log) rfl ?_
          simp only [hg54, run_guard (g := 47), guard_false, f49, run_fa, put1_some, Nat.reduceAdd, Nat.zero_add, Nat.add_zero, xfa_ref, run_ld, put_at, put_no, ev_t, ev_c,
              reduceIte, Nat.reduceEqDiff, List.map_cons, List.map_nil]
          refine put1_eq (v := .int .i64 x7.View.Epoch) rfl ?_
          obtain ⟨v59, hx60, hF61⟩ := bind_some' hx56
          simp only [hg54, run_guard (g := 47), guard_false, run_call, put_at, put_no, ev_t, ev_c, reduceIte, Nat.reduceEqDiff, List.map_cons, List.map_nil]
          refine call1 rfl (mapM1 snap_lst (mapM1 snap_int mapM0)) (spec_l11Log_x (fun b hb => decide_eq_true hb) x7.Log x7.View.Epoch v59 hx60) ?_
          simp only [hg54, run_guard (g := 47), guard_false, run_un, put1_some, xnot, run_pick, xpick_f, run_ops_nil, run_nil, put_at, put_no, ev_t, ev_c, reduceIte,
              Nat.reduceEqDiff, List.map_cons, List.map_nil]
          have e62 := some_inj hF61
          exact hN53 _ _ ⟨hS51, by rw [← e62]; simp only [put_at, put_no, ev_t, ev_c, reduceIte, Nat.reduceEqDiff, List.map_cons, List.map_nil], by simp only [f47, put_at, put_no,
              ev_t, ev_c, reduceIte, Nat.reduceEqDiff, List.map_cons, List.map_nil], by simp only [f48, put_at, put_no, ev_t, ev_c, reduceIte, Nat.reduceEqDiff, List.map_cons,
              List.map_nil], by simp only [f49, put_at, put_no, ev_t, ev_c, reduceIte, Nat.reduceEqDiff, List.map_cons, List.map_nil]⟩
      · rintro fr63 h68 ⟨hS69, f64, f65, f66, f67⟩
        simp only [List.drop_succ_cons, List.drop_zero]
        simp only [f64, run_mv, put_at, put_no, ev_t, ev_c, reduceIte, Nat.reduceEqDiff, List.map_cons, List.map_nil]
        refine ops_j 8 (fun fr' h' => Sep h' h.length ([]) ∧ fr' 64 = .bool (v55 || (decide ((List.length x7.Known : Int) ≠
            (List.length v_0.Nodes : Int)))) ∧ fr' 1 = .int .i64 v_1 ∧ fr' 2 = .ref [.int .i64 v_0.Truth.Epoch, .int .i64 v_0.Truth.Leader, lst cI v_0.Truth.InStep,
            lst Node.cells v_0.Nodes, lst Row.cells v_0.Acked] 0 ∧ fr' 5 = .ref [.int .i64 x7.View.Epoch, .int .i64 x7.View.Leader, lst cI x7.View.InStep, lst Row.cells x7.Log,
            lst cI x7.Known, .int .i64 x7.Told] 0) (fun Q70 hN71 => ?_) ?_
        · simp only [List.take_succ_cons, List.take_zero]
          simp only [run_guard (g := 56), put_at, put_no, ev_t, ev_c, reduceIte, Nat.reduceEqDiff, List.map_cons, List.map_nil]
          refine guard_split (t := v55) (fun hg72 => ?_) (fun hg72 => ?_)
          · simp only [hg72, run_guard (g := 56), guard_off', run_pick, put1_some, xpick_t, run_ops_nil, run_nil, put_at, put_no, ev_t, ev_c, reduceIte, Nat.reduceEqDiff,
              List.map_cons, List.map_nil]
            exact hN71 _ _ ⟨hS69, by rw [orT hg72]; simp only [put_at, put_no, ev_t, ev_c, reduceIte, Nat.reduceEqDiff, List.map_cons, List.map_nil], by simp only [f65, put_at,
                put_no, ev_t, ev_c, reduceIte, Nat.reduceEqDiff, List.map_cons, List.map_nil], by simp only [f66, put_at, put_no, ev_t, ev_c, reduceIte, Nat.reduceEqDiff,
                List.map_cons, List.map_nil], by simp only [f67, put_at, put_no, ev_t, ev_c, reduceIte, Nat.reduceEqDiff, List.map_cons, List.map_nil]⟩
          · simp only [hg72, run_guard (g := 56), guard_false, f67, run_fa, put1_some, Nat.reduceAdd, Nat.zero_add, Nat.add_zero, xfa_ref, run_ld, put_at, put_no, ev_t, ev_c,
              reduceIte, Nat.reduceEqDiff, List.map_cons, List.map_nil]
            refine put1_eq (v := lst cI x7.Known) rfl ?_
            simp only [hg72, run_guard (g := 56), guard_false, run_len, put1_some, xlen_lst, f66, run_fa, Nat.reduceAdd, Nat.zero_add, Nat.add_zero, xfa_ref, run_ld, put_at,
                put_no, ev_t, ev_c, reduceIte, Nat.reduceEqDiff, List.map_cons, List.map_nil]
            refine put1_eq (v := lst Node.cells v_0.Nodes) rfl ?_
            simp only [hg72, run_guard (g := 56), guard_false, run_len, put1_some, xlen_lst, run_bin, xneq, run_pick, xpick_f, run_ops_nil, run_nil, put_at, put_no, ev_t, ev_c,
                reduceIte, Nat.reduceEqDiff, List.map_cons, List.map_nil]
            exact hN71 _ _ ⟨hS69, by rw [orF hg72]; simp only [put_at, put_no, ev_t, ev_c, reduceIte, Nat.reduceEqDiff, List.map_cons, List.map_nil], by simp only [f65, put_at,
                put_no, ev_t, ev_c, reduceIte, Nat.reduceEqDiff, List.map_cons, List.map_nil], by simp only [f66, put_at, put_no, ev_t, ev_c, reduceIte, Nat.reduceEqDiff,
                List.map_cons, List.map_nil], by simp only [f67, put_at, put_no, ev_t, ev_c, reduceIte, Nat.reduceEqDiff, List.map_cons, List.map_nil]⟩
        · rintro fr73 h78 ⟨hS79, f74, f75, f76, f77⟩
          simp only [List.drop_succ_cons, List.drop_zero]
          simp only [f74, run_mv, put_at, put_no, ev_t, ev_c, reduceIte, Nat.reduceEqDiff, List.map_cons, List.map_nil]
          refine ops_j 4 (fun fr' h' => Sep h' h.length ([]) ∧ fr' 69 = .bool ((v55 || (decide ((List.length x7.Known : Int) ≠ (List.length v_0.Nodes : Int)))) || (decide
              (x7.Told < 0))) ∧ fr' 1 = .int .i64 v_1 ∧ fr' 2 = .ref [.int .i64 v_0.Truth.Epoch, .int .i64 v_0.Truth.Leader, lst cI v_0.Truth.InStep, lst Node.cells v_0.Nodes,
              lst Row.cells v_0.Acked] 0 ∧ fr' 5 = .ref [.int .i64 x7.View.Epoch, .int .i64 x7.View.Leader, lst cI x7.View.InStep, lst Row.cells x7.Log, lst cI x7.Known,
              .int .i64 x7.Told] 0) (fun Q80 hN81 => ?_) ?_
          · simp only [List.take_succ_cons, List.take_zero]
            simp only [run_guard (g := 65), put_at, put_no, ev_t, ev_c, reduceIte, Nat.reduceEqDiff, List.map_cons, List.map_nil]
            refine guard_split (t := (v55 || (decide ((List.length x7.Known : Int) ≠ (List.length v_0.Nodes : Int))))) (fun hg82 => ?_) (fun hg82 => ?_)
            · simp only [hg82, run_guard (g := 65), guard_off', run_pick, put1_some, xpick_t, run_ops_nil, run_nil, put_at, put_no, ev_t, ev_c, reduceIte, Nat.reduceEqDiff,
                List.map_cons, List.map_nil]
              exact hN81 _ _ ⟨hS79, by rw [orT hg82]; simp only [put_at, put_no, ev_t, ev_c, reduceIte, Nat.reduceEqDiff, List.map_cons, List.map_nil], by simp only [f75, put_at,
                  put_no, ev_t, ev_c, reduceIte, Nat.reduceEqDiff, List.map_cons, List.map_nil], by simp only [f76, put_at, put_no, ev_t, ev_c, reduceIte, Nat.reduceEqDiff,
                  List.map_cons, List.map_nil], by simp only [f77, put_at, put_no, ev_t, ev_c, reduceIte, Nat.reduceEqDiff, List.map_cons, List.map_nil]⟩
            · simp only [hg82, run_guard (g := 65), guard_false, f77, run_fa, put1_some, Nat.reduceAdd, Nat.zero_add, Nat.add_zero, xfa_ref, run_ld, put_at, put_no, ev_t, ev_c,
                reduceIte, Nat.reduceEqDiff, List.map_cons, List.map_nil]
              refine put1_eq (v := .int .i64 x7.Told) rfl ?_
              simp only [hg82, run_guard (g := 65), guard_false, run_bin, put1_some, xlss, run_pick, xpick_f, run_ops_nil, run_nil, put_at, put_no, ev_t, ev_c, reduceIte,
                  Nat.reduceEqDiff, List.map_cons, List.map_nil]
              exact hN81 _ _ ⟨hS79, by rw [orF hg82]; simp only [put_at, put_no, ev_t, ev_c, reduceIte, Nat.reduceEqDiff, List.map_cons, List.map_nil], by simp only [f75, put_at,
                  put_no, ev_t, ev_c, reduceIte, Nat.reduceEqDiff, List.map_cons, List.map_nil], by simp only [f76, put_at, put_no, ev_t, ev_c, reduceIte, Nat.reduceEqDiff,
                  List.map_cons, List.map_nil], by simp only [f77, put_at, put_no, ev_t, ev_c, reduceIte, Nat.reduceEqDiff, List.map_cons, List.map_nil]⟩
          · rintro fr83 h88 ⟨hS89, f84, f85, f86, f87⟩
            simp only [List.drop_succ_cons, List.drop_zero]
            simp only [f84, run_mv, put_at, put_no, ev_t, ev_c, reduceIte, Nat.reduceEqDiff, List.map_cons, List.map_nil]
            refine ops_j 7 (fun fr' h' => Sep h' h.length ([]) ∧ fr' 77 = .bool (((v55 || (decide ((List.length x7.Known : Int) ≠ (List.length v_0.Nodes : Int)))) || (decide
                (x7.Told < 0))) || (decide ((List.length x7.Log : Int) < x7.Told))) ∧ fr' 1 = .int .i64 v_1 ∧ fr' 2 = .ref [.int .i64 v_0.Truth.Epoch, .int .i64 v_0.Truth.Leader,
                lst cI v_0.Truth.InStep, lst Node.cells v_0.Nodes, lst Row.cells v_0.Acked] 0 ∧ fr' 5 = .ref [.int .i64 x7.View.Epoch, .int .i64 x7.View.Leader,
                lst cI x7.View.InStep, lst Row.cells x7.Log, lst cI x7.Known, .int .i64 x7.Told] 0) (fun Q90 hN91 => ?_) ?_
            · simp only [List.take_succ_cons, List.take_zero]
              simp only [run_guard (g := 70), put_at, put_no, ev_t, ev_c, reduceIte, Nat.reduceEqDiff, List.map_cons, List.map_nil]
              refine guard_split (t := ((v55 || (decide ((List.length x7.Known : Int) ≠ (List.length v_0.Nodes : Int)))) || (decide (x7.Told < 0)))) (fun hg92 => ?_)
                  (fun hg92 => ?_)
              · simp only [hg92, run_guard (g := 70), guard_off', run_pick, put1_some, xpick_t, run_ops_nil, run_nil, put_at, put_no, ev_t, ev_c, reduceIte, Nat.reduceEqDiff,
                  List.map_cons, List.map_nil]
                exact hN91 _ _ ⟨hS89, by rw [orT hg92]; simp only [put_at, put_no, ev_t, ev_c, reduceIte, Nat.reduceEqDiff, List.map_cons, List.map_nil], by simp only [f85,
                    put_at, put_no, ev_t, ev_c, reduceIte, Nat.reduceEqDiff, List.map_cons, List.map_nil], by simp only [f86, put_at, put_no, ev_t, ev_c, reduceIte,
                    Nat.reduceEqDiff, List.map_cons, List.map_nil], by simp only [f87, put_at, put_no, ev_t, ev_c, reduceIte, Nat.reduceEqDiff, List.map_cons, List.map_nil]⟩
              · simp only [hg92, run_guard (g := 70), guard_false, f87, run_fa, put1_some, Nat.reduceAdd, Nat.zero_add, Nat.add_zero, xfa_ref, run_ld, put_at, put_no, ev_t, ev_c,
                  reduceIte, Nat.reduceEqDiff, List.map_cons, List.map_nil]
                refine put1_eq (v := .int .i64 x7.Told) rfl ?_
                simp only [hg92, run_guard (g := 70), guard_false, f87, run_fa, put1_some, Nat.reduceAdd, Nat.zero_add, Nat.add_zero, xfa_ref, run_ld, put_at, put_no, ev_t, ev_c,
                    reduceIte, Nat.reduceEqDiff, List.map_cons, List.map_nil]
                refine put1_eq (v := lst Row.cells x7.Log) rfl ?_
                simp only [hg92, run_guard (g := 70), guard_false, run_len, put1_some, xlen_lst, run_bin, xgtr, run_pick, xpick_f, run_ops_nil, run_nil, put_at, put_no, ev_t,
                    ev_c, reduceIte, Nat.reduceEqDiff, List.map_cons, List.map_nil]
                exact hN91 _ _ ⟨hS89, by rw [orF hg92]; simp only [put_at, put_no, ev_t, ev_c, reduceIte, Nat.reduceEqDiff, List.map_cons, List.map_nil], by simp only [f85,
                    put_at, put_no, ev_t, ev_c, reduceIte, Nat.reduceEqDiff, List.map_cons, List.map_nil], by simp only [f86, put_at, put_no, ev_t, ev_c, reduceIte,
                    Nat.reduceEqDiff, List.map_cons, List.map_nil], by simp only [f87, put_at, put_no, ev_t, ev_c, reduceIte, Nat.reduceEqDiff, List.map_cons, List.map_nil]⟩
            · rintro fr93 h98 ⟨hS99, f94, f95, f96, f97⟩
              simp only [List.drop_succ_cons, List.drop_zero]
              simp only [run_ops_nil, f94, run_cond, put_at, put_no, ev_t, ev_c, reduceIte, Nat.reduceEqDiff, List.map_cons, List.map_nil]
              refine cond_split (t := (((v55 || (decide ((List.length x7.Known : Int) ≠ (List.length v_0.Nodes : Int)))) || (decide (x7.Told < 0))) || (decide
                  ((List.length x7.Log : Int) < x7.Told)))) (fun hc100 => ?_) (fun hc100 => ?_)
              · rw [iteT hc100] at hF57
                simp only [run_seq, run_reg, run_mv, run_ops_nil, run_ret, put_at, put_no, ev_t, ev_c, reduceIte, Nat.reduceEqDiff, List.map_cons, List.map_nil]
                have he := some_inj hF57
                subst he
                simp only [end_ret1, put_at, put_no, ev_t, ev_c, reduceIte, Nat.reduceEqDiff, List.map_cons, List.map_nil]
                exact rfl
              · rw [iteF hc100] at hF57
                simp only [run_skip, x55_6, run_seq, run_reg, f97, run_fa, put1_some, Nat.reduceAdd, Nat.zero_add, Nat.add_zero, xfa_ref, run_ld, put_at, put_no, ev_t, ev_c,
                    reduceIte, Nat.reduceEqDiff, List.map_cons, List.map_nil]
                refine put1_eq (v := lst cI x7.Known) rfl ?_
                simp only [run_len, put1_some, xlen_lst, run_mv, run_ops_nil, put_at, put_no, ev_t, ev_c, reduceIte, Nat.reduceEqDiff, List.map_cons, List.map_nil]
                obtain ⟨oc103, hX105, hk106⟩ := jn_some hF57
                simp only [x55_4]
                refine rangeL_j (σ := Unit) x7.Known (fun i101 x102 _ => spec_l17Node_b1 v_0 v_1 x7 i101 x102 )
                    (fun s fr' h' => fr' 1 = .int .i64 v_1 ∧ fr' 2 = .ref [.int .i64 v_0.Truth.Epoch, .int .i64 v_0.Truth.Leader, lst cI v_0.Truth.InStep,
                    lst Node.cells v_0.Nodes, lst Row.cells v_0.Acked] 0 ∧ fr' 5 = .ref [.int .i64 x7.View.Epoch, .int .i64 x7.View.Leader, lst cI x7.View.InStep,
                    lst Row.cells x7.Log, lst cI x7.Known, .int .i64 x7.Told] 0 ∧ fr' 79 = lst cI x7.Known ∧ Sep h' h.length ([])) hX105 ⟨by simp only [f95, put_at, put_no, ev_t,
                    ev_c, reduceIte, Nat.reduceEqDiff, List.map_cons, List.map_nil], by simp only [f96, put_at, put_no, ev_t, ev_c, reduceIte, Nat.reduceEqDiff, List.map_cons,
                    List.map_nil], by simp only [f97, put_at, put_no, ev_t, ev_c, reduceIte, Nat.reduceEqDiff, List.map_cons, List.map_nil], by simp only [put_at, put_no, ev_t,
                    ev_c, reduceIte, Nat.reduceEqDiff, List.map_cons, List.map_nil], hS99⟩ (by simp only [put_at, put_no, ev_t, ev_c, reduceIte, Nat.reduceEqDiff, List.map_cons,
                    List.map_nil]) (by simp only [put_at, put_no, ev_t, ev_c, reduceIte, Nat.reduceEqDiff, List.map_cons,
                    List.map_nil]) (fun _ _ _ h => h) rfl rfl (fun _ _ _ _ h => h) (fun _ _ _ _ h => h) (fun _ _ _ _ h => h) (by decide) ?_ ?_
                · rintro i101 x102 _ fr115 h116 hx122 ⟨f118, f119, f120, f121, hS117⟩ f123 f124 oc104 hF107 hr108 Q109 hN110 hB114 hK111 hR112 hE113
                  unfold spec_l17Node_b1 at hF107
                  simp only [x55_2, run_seq, run_reg, f121, f123, run_ia, put_at, put_no, ev_t, ev_c, reduceIte, Nat.reduceEqDiff, List.map_cons, List.map_nil]
                  refine put1_eq (v := .ref (cI x102) 0) (xia_lstN hx122 rfl) ?_
                  simp only [run_ld, put_at, put_no, ev_t, ev_c, reduceIte, Nat.reduceEqDiff, List.map_cons, List.map_nil]
                  refine put1_eq (v := .int .i64 x102) rfl ?_
                  simp only [run_mv, run_ops_nil, x55_1, run_seq, run_reg, run_bin, put1_some, xlss, put_at, put_no, ev_t, ev_c, reduceIte, Nat.reduceEqDiff, List.map_cons,
                      List.map_nil]
                  refine ops_j 6 (fun fr' h' => Sep h' h.length ([]) ∧ fr' 93 = .bool ((decide (x102 < 0)) || (decide
                      ((List.length x7.Log : Int) < x102))) ∧ fr' 1 = .int .i64 v_1 ∧ fr' 2 = .ref [.int .i64 v_0.Truth.Epoch, .int .i64 v_0.Truth.Leader, lst cI v_0.Truth.InStep,
                      lst Node.cells v_0.Nodes, lst Row.cells v_0.Acked] 0 ∧ fr' 5 = .ref [.int .i64 x7.View.Epoch, .int .i64 x7.View.Leader, lst cI x7.View.InStep,
                      lst Row.cells x7.Log, lst cI x7.Known,
                      .int .i64 x7.Told] 0 ∧ fr' 7 = .int .i64 x102 ∧ fr' 79 = lst cI x7.Known ∧ fr' 80 = .int .i64 (List.length x7.Known : Int) ∧ fr' 81 = .int .i64
                      (i101 : Int)) (fun Q125 hN126 => ?_) ?_
                  · simp only [List.take_succ_cons, List.take_zero]
                    simp only [run_guard (g := 87), put_at, put_no, ev_t, ev_c, reduceIte, Nat.reduceEqDiff, List.map_cons, List.map_nil]
                    refine guard_split (t := (decide (x102 < 0))) (fun hg127 => ?_) (fun hg127 => ?_)
                    · simp only [hg127, run_guard (g := 87), guard_off', run_pick, put1_some, xpick_t, run_ops_nil, run_nil, put_at, put_no, ev_t, ev_c, reduceIte,
                        Nat.reduceEqDiff, List.map_cons, List.map_nil]
                      exact hN126 _ _ ⟨hS117, by rw [orT hg127]; simp only [put_at, put_no, ev_t, ev_c, reduceIte, Nat.reduceEqDiff, List.map_cons, List.map_nil],
                          by simp only [f118, put_at, put_no, ev_t, ev_c, reduceIte, Nat.reduceEqDiff, List.map_cons, List.map_nil], by simp only [f119, put_at, put_no, ev_t,
                          ev_c, reduceIte, Nat.reduceEqDiff, List.map_cons, List.map_nil], by simp only [f120, put_at, put_no, ev_t, ev_c, reduceIte, Nat.reduceEqDiff,
                          List.map_cons, List.map_nil], by simp only [put_at, put_no, ev_t, ev_c, reduceIte, Nat.reduceEqDiff, List.map_cons, List.map_nil], by simp only [f121,
                          put_at, put_no, ev_t, ev_c, reduceIte, Nat.reduceEqDiff, List.map_cons, List.map_nil], by simp only [f124, put_at, put_no, ev_t, ev_c, reduceIte,
                          Nat.reduceEqDiff, List.map_cons, List.map_nil], by simp only [f123, put_at, put_no, ev_t, ev_c, reduceIte, Nat.reduceEqDiff, List.map_cons, List.map_nil]⟩
                    · simp only [hg127, run_guard (g := 87), guard_false, run_mv, f120, run_fa, put1_some, Nat.reduceAdd, Nat.zero_add, Nat.add_zero, xfa_ref, run_ld, put_at,
                        put_no, ev_t, ev_c, reduceIte, Nat.reduceEqDiff, List.map_cons, List.map_nil]
                      refine put1_eq (v := lst Row.cells x7.Log) rfl ?_
                      simp only [hg127, run_guard (g := 87), guard_false, run_len, put1_some, xlen_lst, run_bin, xgtr, run_pick, xpick_f, run_ops_nil, run_nil, put_at, put_no,
                          ev_t, ev_c, reduceIte, Nat.reduceEqDiff, List.map_cons, List.map_nil]
                      exact hN126 _ _ ⟨hS117, by rw [orF hg127]; simp only [put_at, put_no, ev_t, ev_c, reduceIte, Nat.reduceEqDiff, List.map_cons, List.map_nil],
                          by simp only [f118, put_at, put_no, ev_t, ev_c, reduceIte, Nat.reduceEqDiff, List.map_cons, List.map_nil], by simp only [f119, put_at, put_no, ev_t,
                          ev_c, reduceIte, Nat.reduceEqDiff, List.map_cons, List.map_nil], by simp only [f120, put_at, put_no, ev_t, ev_c, reduceIte, Nat.reduceEqDiff,
                          List.map_cons, List.map_nil], by simp only [put_at, put_no, ev_t, ev_c, reduceIte, Nat.reduceEqDiff, List.map_cons, List.map_nil], by simp only [f121,
                          put_at, put_no, ev_t, ev_c, reduceIte, Nat.reduceEqDiff, List.map_cons, List.map_nil], by simp only [f124, put_at, put_no, ev_t, ev_c, reduceIte,
                          Nat.reduceEqDiff, List.map_cons, List.map_nil], by simp only [f123, put_at, put_no, ev_t, ev_c, reduceIte, Nat.reduceEqDiff, List.map_cons, List.map_nil]⟩
                  · rintro fr128 h137 ⟨hS138, f129, f130, f131, f132, f133, f134, f135, f136⟩
                    simp only [List.drop_succ_cons, List.drop_zero]
                    simp only [f129, run_mv, put_at, put_no, ev_t, ev_c, reduceIte, Nat.reduceEqDiff, List.map_cons, List.map_nil]
                    obtain ⟨v142, hx143, hF144⟩ := bind_some' hF107
                    refine ops_j 9 (fun fr' h' => Sep h' h.length ([]) ∧ fr' 103 = .bool v142 ∧ fr' 1 = .int .i64 v_1 ∧ fr' 2 = .ref [.int .i64 v_0.Truth.Epoch,
                        .int .i64 v_0.Truth.Leader, lst cI v_0.Truth.InStep, lst Node.cells v_0.Nodes, lst Row.cells v_0.Acked] 0 ∧ fr' 5 = .ref [.int .i64 x7.View.Epoch,
                        .int .i64 x7.View.Leader, lst cI x7.View.InStep, lst Row.cells x7.Log, lst cI x7.Known,
                        .int .i64 x7.Told] 0 ∧ fr' 79 = lst cI x7.Known ∧ fr' 80 = .int .i64 (List.length x7.Known : Int) ∧ fr' 81 = .int .i64 (i101 : Int))
                        (fun Q139 hN140 => ?_) ?_
                    · simp only [List.take_succ_cons, List.take_zero]
                      simp only [run_guard (g := 94), put_at, put_no, ev_t, ev_c, reduceIte, Nat.reduceEqDiff, List.map_cons, List.map_nil]
                      refine guard_split (t := ((decide (x102 < 0)) || (decide ((List.length x7.Log : Int) < x102)))) (fun hg141 => ?_) (fun hg141 => ?_)
                      · rw [iteT hg141] at hx143
                        simp only [hg141, run_guard (g := 94), guard_off', run_guard (g := 99), guard_tup, run_pick, put1_some, xpick_t, run_ops_nil, run_nil, put_at, put_no,
                            ev_t, ev_c, reduceIte, Nat.reduceEqDiff, List.map_cons, List.map_nil]
                        have e145 := some_inj hx143
                        exact hN140 _ _ ⟨hS138, by rw [← e145]; simp only [put_at, put_no, ev_t, ev_c, reduceIte, Nat.reduceEqDiff, List.map_cons, List.map_nil],
                            by simp only [f130, put_at, put_no, ev_t, ev_c, reduceIte, Nat.reduceEqDiff, List.map_cons, List.map_nil], by simp only [f131, put_at, put_no, ev_t,
                            ev_c, reduceIte, Nat.reduceEqDiff, List.map_cons, List.map_nil], by simp only [f132, put_at, put_no, ev_t, ev_c, reduceIte, Nat.reduceEqDiff,
                            List.map_cons, List.map_nil], by simp only [f134, put_at, put_no, ev_t, ev_c, reduceIte, Nat.reduceEqDiff, List.map_cons, List.map_nil],
                            by simp only [f135, put_at, put_no, ev_t, ev_c, reduceIte, Nat.reduceEqDiff, List.map_cons, List.map_nil], by simp only [f136, put_at, put_no, ev_t,
                            ev_c, reduceIte, Nat.reduceEqDiff, List.map_cons, List.map_nil]⟩
                      · rw [iteF hg141] at hx143
                        simp only [hg141, run_guard (g := 94), guard_false, f131, run_ld, put_at, put_no, ev_t, ev_c, reduceIte, Nat.reduceEqDiff, List.map_cons, List.map_nil]
                        refine put1_eq (v := .agg [.int .i64 v_0.Truth.Epoch, .int .i64 v_0.Truth.Leader, lst cI v_0.Truth.InStep, lst Node.cells v_0.Nodes,
                            lst Row.cells v_0.Acked]) rfl ?_
                        obtain ⟨v146, hx147, hF148⟩ := bind_some' hx143
                        simp only [hg141, run_guard (g := 94), guard_false, f130, run_mv, run_call, put_at, put_no, ev_t, ev_c, reduceIte, Nat.reduceEqDiff, List.map_cons,
                            List.map_nil]
                        refine call1 rfl (mapM1 (snap_agg (mapM1 snap_int (mapM1 snap_int (mapM1 snap_lst (mapM1 snap_lst (mapM1 snap_lst mapM0)))))) (mapM1 snap_int mapM0))
                            (spec_l17Thinks_x (fun b hb => decide_eq_true hb) v_0 v_1 v146 hx147) ?_
                        simp only [hg141, run_guard (g := 94), guard_false, run_un, put1_some, xnot, run_mv, put_at, put_no, ev_t, ev_c, reduceIte, Nat.reduceEqDiff,
                            List.map_cons, List.map_nil]
                        refine ops_j 3 (fun fr' h' => Sep h' h.length ([]) ∧ fr' 102 = .bool ((!v146) && (decide
                            (x102 ≠ 0))) ∧ fr' 1 = .int .i64 v_1 ∧ fr' 2 = .ref [.int .i64 v_0.Truth.Epoch, .int .i64 v_0.Truth.Leader, lst cI v_0.Truth.InStep,
                            lst Node.cells v_0.Nodes, lst Row.cells v_0.Acked] 0 ∧ fr' 5 = .ref [.int .i64 x7.View.Epoch, .int .i64 x7.View.Leader, lst cI x7.View.InStep,
                            lst Row.cells x7.Log, lst cI x7.Known,
                            .int .i64 x7.Told] 0 ∧ fr' 79 = lst cI x7.Known ∧ fr' 80 = .int .i64 (List.length x7.Known : Int) ∧ fr' 81 = .int .i64 (i101 : Int) ∧ fr' 94 = .bool
                            ((decide (x102 < 0)) || (decide ((List.length x7.Log : Int) < x102)))) (fun Q149 hN150 => ?_) ?_
                        · simp only [List.take_succ_cons, List.take_zero]
                          simp only [run_guard (g := 99), put_at, put_no, ev_t, ev_c, reduceIte, Nat.reduceEqDiff, List.map_cons, List.map_nil]
                          refine guard_split (t := (!v146)) (fun hg151 => ?_) (fun hg151 => ?_)
                          · simp only [hg151, run_guard (g := 99), guard_true, f133, run_mv, run_bin, put1_some, xneq, hg141, run_guard (g := 94), guard_false, run_pick, xpick_t,
                              run_ops_nil, run_nil, put_at, put_no, ev_t, ev_c, reduceIte, Nat.reduceEqDiff, List.map_cons, List.map_nil]
                            exact hN150 _ _ ⟨hS138, by rw [andT hg151]; simp only [put_at, put_no, ev_t, ev_c, reduceIte, Nat.reduceEqDiff, List.map_cons, List.map_nil],
                                by simp only [f130, put_at, put_no, ev_t, ev_c, reduceIte, Nat.reduceEqDiff, List.map_cons, List.map_nil], by simp only [f131, put_at, put_no,
                                ev_t, ev_c, reduceIte, Nat.reduceEqDiff, List.map_cons, List.map_nil], by simp only [f132, put_at, put_no, ev_t, ev_c, reduceIte, Nat.reduceEqDiff,
                                List.map_cons, List.map_nil], by simp only [f134, put_at, put_no, ev_t, ev_c, reduceIte, Nat.reduceEqDiff, List.map_cons, List.map_nil],
                                by simp only [f135, put_at, put_no, ev_t, ev_c, reduceIte, Nat.reduceEqDiff, List.map_cons, List.map_nil], by simp only [f136, put_at, put_no,
                                ev_t, ev_c, reduceIte, Nat.reduceEqDiff, List.map_cons, List.map_nil], by simp only [hg141, put_at, put_no, ev_t, ev_c, reduceIte,
                                Nat.reduceEqDiff, List.map_cons, List.map_nil]⟩
                          · simp only [hg151, run_guard (g := 99), guard_off, hg141, run_guard (g := 94), guard_false, run_pick, put1_some, xpick_f, run_ops_nil, run_nil, put_at,
                              put_no, ev_t, ev_c, reduceIte, Nat.reduceEqDiff, List.map_cons, List.map_nil]
                            exact hN150 _ _ ⟨hS138, by rw [andF hg151]; simp only [put_at, put_no, ev_t, ev_c, reduceIte, Nat.reduceEqDiff, List.map_cons, List.map_nil],
                                by simp only [f130, put_at, put_no, ev_t, ev_c, reduceIte, Nat.reduceEqDiff, List.map_cons, List.map_nil], by simp only [f131, put_at, put_no,
                                ev_t, ev_c, reduceIte, Nat.reduceEqDiff, List.map_cons, List.map_nil], by simp only [f132, put_at, put_no, ev_t, ev_c, reduceIte, Nat.reduceEqDiff,
                                List.map_cons, List.map_nil], by simp only [f134, put_at, put_no, ev_t, ev_c, reduceIte, Nat.reduceEqDiff, List.map_cons, List.map_nil],
                                by simp only [f135, put_at, put_no, ev_t, ev_c, reduceIte, Nat.reduceEqDiff, List.map_cons, List.map_nil], by simp only [f136, put_at, put_no,
                                ev_t, ev_c, reduceIte, Nat.reduceEqDiff, List.map_cons, List.map_nil], by simp only [hg141, put_at, put_no, ev_t, ev_c, reduceIte,
                                Nat.reduceEqDiff, List.map_cons, List.map_nil]⟩
                        · rintro fr152 h161 ⟨hS162, f153, f154, f155, f156, f157, f158, f159, f160⟩
                          simp only [List.drop_succ_cons, List.drop_zero]
                          simp only [f160, hg141, run_pick, put1_some, xpick_f, f153, run_ops_nil, run_nil, put_at, put_no, ev_t, ev_c, reduceIte, Nat.reduceEqDiff, List.map_cons,
                              List.map_nil]
                          have e163 := some_inj hF148
                          exact hN140 _ _ ⟨hS162, by rw [← e163]; simp only [put_at, put_no, ev_t, ev_c, reduceIte, Nat.reduceEqDiff, List.map_cons, List.map_nil],
                              by simp only [f154, put_at, put_no, ev_t, ev_c, reduceIte, Nat.reduceEqDiff, List.map_cons, List.map_nil], by simp only [f155, put_at, put_no, ev_t,
                              ev_c, reduceIte, Nat.reduceEqDiff, List.map_cons, List.map_nil], by simp only [f156, put_at, put_no, ev_t, ev_c, reduceIte, Nat.reduceEqDiff,
                              List.map_cons, List.map_nil], by simp only [f157, put_at, put_no, ev_t, ev_c, reduceIte, Nat.reduceEqDiff, List.map_cons, List.map_nil],
                              by simp only [f158, put_at, put_no, ev_t, ev_c, reduceIte, Nat.reduceEqDiff, List.map_cons, List.map_nil], by simp only [f159, put_at, put_no, ev_t,
                              ev_c, reduceIte, Nat.reduceEqDiff, List.map_cons, List.map_nil]⟩
                    · rintro fr164 h172 ⟨hS173, f165, f166, f167, f168, f169, f170, f171⟩
                      simp only [List.drop_succ_cons, List.drop_zero]
                      simp only [run_ops_nil, f165, run_cond, put_at, put_no, ev_t, ev_c, reduceIte, Nat.reduceEqDiff, List.map_cons, List.map_nil]
                      refine cond_split (t := v142) (fun hc174 => ?_) (fun hc174 => ?_)
                      · rw [iteT hc174] at hF144
                        simp only [run_seq, run_reg, run_mv, run_ops_nil, run_ret, put_at, put_no, ev_t, ev_c, reduceIte, Nat.reduceEqDiff, List.map_cons, List.map_nil]
                        have e175 := some_inj hF144
                        subst e175
                        have ho176 := hr108 _ rfl
                        have hk177 := hk106
                        rw [ho176] at hk177
                        dsimp only [jnO] at hk177
                        apply hR112
                        have he := some_inj hk177
                        subst he
                        simp only [end_ret1, put_at, put_no, ev_t, ev_c, reduceIte, Nat.reduceEqDiff, List.map_cons, List.map_nil]
                        exact rfl
                      · rw [iteF hc174] at hF144
                        simp only [run_skip, run_nil, put_at, put_no, ev_t, ev_c, reduceIte, Nat.reduceEqDiff, List.map_cons, List.map_nil]
                        have e178 := some_inj hF144
                        exact hN110 _ _ _ e178.symm ⟨by simp only [f166, put_at, put_no, ev_t, ev_c, reduceIte, Nat.reduceEqDiff, List.map_cons, List.map_nil], by simp only [f167,
                            put_at, put_no, ev_t, ev_c, reduceIte, Nat.reduceEqDiff, List.map_cons, List.map_nil], by simp only [f168, put_at, put_no, ev_t, ev_c, reduceIte,
                            Nat.reduceEqDiff, List.map_cons, List.map_nil], by simp only [f169, put_at, put_no, ev_t, ev_c, reduceIte, Nat.reduceEqDiff, List.map_cons,
                            List.map_nil], hS173⟩ (by simp only [f171, put_at, put_no, ev_t, ev_c, reduceIte, Nat.reduceEqDiff, List.map_cons, List.map_nil]) (by simp only [f170,
                            put_at, put_no, ev_t, ev_c, reduceIte, Nat.reduceEqDiff, List.map_cons, List.map_nil])
                · rintro _ fr180 h181 rfl ⟨f183, f184, f185, f186, hS182⟩
                  dsimp only [jnO] at hk106
                  unfold spec_l17Node_j1 at hk106
                  simp only [x55_5, run_seq, run_draw, f184, d4_fa, put1d_some, Nat.reduceAdd, Nat.zero_add, Nat.add_zero, xfa_ref, d4_ld, put_at, put_no, ev_t, ev_c, reduceIte,
                      Nat.reduceEqDiff, List.map_cons, List.map_nil]
                  refine put1d_eq (v := lst cI v_0.Truth.InStep) rfl ?_
                  obtain ⟨v187, hx188, hF189⟩ := bind_some' hk106
                  simp only [f183, d4_mv, put1d_some, run_d3_call, put_at, put_no, ev_t, ev_c, reduceIte, Nat.reduceEqDiff, List.map_cons, List.map_nil]
                  refine call1d rfl (mapM1 snap_lst (mapM1 snap_int mapM0)) (spec_l1Has_x (fun b hb => decide_eq_true hb) v_0.Truth.InStep v_1 v187 hx188) ?_
                  simp only [d4_un, put1d_some, xnot, d4_mv, put_at, put_no, ev_t, ev_c, reduceIte, Nat.reduceEqDiff, List.map_cons, List.map_nil]
                  simp only [run_guardd (g := 111), put_at, put_no, ev_t, ev_c, reduceIte, Nat.reduceEqDiff, List.map_cons, List.map_nil]
                  refine guardd_split (t := (!v187)) (fun hg190 => ?_) (fun hg190 => ?_)
                  · rw [iteT hg190] at hF189
                    simp only [hg190, run_guardd (g := 111), guardd_off', d4_pick, put1d_some, xpick_t, d4_mv, run_draw_nil, run_ret, put_at, put_no, ev_t, ev_c, reduceIte,
                        Nat.reduceEqDiff, List.map_cons, List.map_nil]
                    have he := some_inj hF189
                    subst he
                    simp only [end_ret1, put_at, put_no, ev_t, ev_c, reduceIte, Nat.reduceEqDiff, List.map_cons, List.map_nil]
                    exact rfl
                  · rw [iteF hg190] at hF189
                    simp only [hg190, run_guardd (g := 111), guardd_false, f184, d4_fa, put1d_some, Nat.reduceAdd, Nat.zero_add, Nat.add_zero, xfa_ref, d4_ld, put_at, put_no,
                        ev_t, ev_c, reduceIte, Nat.reduceEqDiff, List.map_cons, List.map_nil]
                    refine put1d_eq (v := lst Row.cells v_0.Acked) rfl ?_
                    simp only [hg190, run_guardd (g := 111), guardd_false, f185, d4_fa, put1d_some, Nat.reduceAdd, Nat.zero_add, Nat.add_zero, xfa_ref, d4_ld, put_at, put_no,
                        ev_t, ev_c, reduceIte, Nat.reduceEqDiff, List.map_cons, List.map_nil]
                    refine put1d_eq (v := lst Row.cells x7.Log) rfl ?_
                    obtain ⟨v191, hx192, hF193⟩ := bind_some' hF189
                    simp only [hg190, run_guardd (g := 111), guardd_false, run_d2_call, put_at, put_no, ev_t, ev_c, reduceIte, Nat.reduceEqDiff, List.map_cons, List.map_nil]
                    refine call1q rfl (mapM1 snap_lst (mapM1 snap_lst mapM0)) (spec_l11Same_x (fun b hb => decide_eq_true hb) k v_0.Acked x7.Log v191 hx192) ?_
                    simp only [hg190, run_guardd (g := 111), guardd_false, f184, d1_fa, put1d_some, Nat.reduceAdd, Nat.zero_add, Nat.add_zero, xfa_ref, d1_ld, ldd_ref, put_at,
                        put_no, ev_t, ev_c, reduceIte, Nat.reduceEqDiff, List.map_cons, List.map_nil]
                    refine put1d_eq (v := lst Row.cells v_0.Acked) rfl ?_
                    simp only [hg190, run_guardd (g := 111), guardd_false, d1_len, put1d_some, xlen_lst, d4_bin, xeql, d4_pick, xpick_f, d4_mv, run_draw_nil, run_ret, put_at,
                        put_no, ev_t, ev_c, reduceIte, Nat.reduceEqDiff, List.map_cons, List.map_nil]
                    have he := some_inj hF193
                    subst he
                    simp only [end_ret1, put_at, put_no, ev_t, ev_c, reduceIte, Nat.reduceEqDiff, List.map_cons, List.map_nil]
                    exact rfl
end Go.Proofs.Ytohofoampalhoaa.X
