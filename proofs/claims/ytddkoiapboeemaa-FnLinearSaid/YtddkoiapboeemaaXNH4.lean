/- The functions' code comes to what the plain functions say (4). -/
import Derived.Test.YtddkoiapboeemaaXNH3
set_option linter.unusedVariables false
set_option linter.unusedSimpArgs false
set_option maxRecDepth 100000
namespace Go.Proofs.Ytddkoiapboeemaa.X
open Go
theorem impl_IsLegal_x {W : Nat → Bool} {h : Heap} (hW : ∀ b,
    h.length ≤ b → W b = true) (k : Nat) (l_0 : List Call) (order_1 : List Int) (r : Bool × Bool) (hF : impl_IsLegal k l_0 order_1 = some r) : Ret E W 31 [lst Call.cells l_0,
    lst cI order_1] h (fun v h' => cut h.length h' E.sz false 9 v = some (.tup [.bool r.1, .bool r.2])) := by
  refine Ret.of (fn := x31) rfl (Run.of ?_)
  unfold impl_IsLegal at hF
  have zf0 : argFr [lst Call.cells l_0, lst cI order_1] 0 = lst Call.cells l_0 := rfl
  have zf1 : argFr [lst Call.cells l_0, lst cI order_1] 1 = lst cI order_1 := rfl
  generalize argFr [lst Call.cells l_0, lst cI order_1] = fr0 at zf0 zf1 ⊢
  have hS : Sep h h.length [] := Sep.nil h
  obtain ⟨v1, hx2, hF3⟩ := bind_some' hF
  simp only [x31, run_seq, run_reg, run_mv, run_ops_nil, x31_3, zf0, run_call, put_at, put_no, ev_t, ev_c, reduceIte, Nat.reduceEqDiff, List.map_cons, List.map_nil]
  refine call1 rfl (mapM1 snap_lst mapM0) (impl_areCalls_x (fun b hb => decide_eq_true hb) l_0 v1 hx2) ?_
  simp only [run_un, put1_some, xnot, run_mv, put_at, put_no, ev_t, ev_c, reduceIte, Nat.reduceEqDiff, List.map_cons, List.map_nil]
  obtain ⟨v7, hx8, hF9⟩ := bind_some' hF3
  refine ops_j 5 (fun fr' h' => Sep h' h.length ([]) ∧ fr' 14 = .bool v7 ∧ fr' 0 = lst Call.cells l_0 ∧ fr' 1 = lst cI order_1) (fun Q4 hN5 => ?_) ?_
  · simp only [List.take_succ_cons, List.take_zero]
    simp only [run_guard (g := 9), put_at, put_no, ev_t, ev_c, reduceIte, Nat.reduceEqDiff, List.map_cons, List.map_nil]
    refine guard_split (t := (!v1)) (fun hg6 => ?_) (fun hg6 => ?_)
    · rw [iteT hg6] at hx8
      simp only [hg6, run_guard (g := 9), guard_off', run_pick, put1_some, xpick_t, run_ops_nil, run_nil, put_at, put_no, ev_t, ev_c, reduceIte, Nat.reduceEqDiff, List.map_cons,
          List.map_nil]
      have e10 := some_inj hx8
      exact hN5 _ _ ⟨hS, by rw [← e10]; simp only [put_at, put_no, ev_t, ev_c, reduceIte, Nat.reduceEqDiff, List.map_cons, List.map_nil], by simp only [zf0, put_at, put_no, ev_t,
          ev_c, reduceIte, Nat.reduceEqDiff, List.map_cons, List.map_nil], by simp only [zf1, put_at, put_no, ev_t, ev_c, reduceIte, Nat.reduceEqDiff, List.map_cons, List.map_nil]⟩
    · rw [iteF hg6] at hx8
      obtain ⟨v11, hx12, hF13⟩ := bind_some' hx8
      simp only [hg6, run_guard (g := 9), guard_false, zf0, run_mv, zf1, run_call, put_at, put_no, ev_t, ev_c, reduceIte, Nat.reduceEqDiff, List.map_cons, List.map_nil]
      refine call1 rfl (mapM1 snap_lst (mapM1 snap_lst mapM0)) (impl_isOrder_x (fun b hb => decide_eq_true hb) k l_0 order_1 v11 hx12) ?_
      simp only [hg6, run_guard (g := 9), guard_false, run_un, put1_some, xnot, run_pick, xpick_f, run_ops_nil, run_nil, put_at, put_no, ev_t, ev_c, reduceIte, Nat.reduceEqDiff,
          List.map_cons, List.map_nil]
      have e14 := some_inj hF13
      exact hN5 _ _ ⟨hS, by rw [← e14]; simp only [put_at, put_no, ev_t, ev_c, reduceIte, Nat.reduceEqDiff, List.map_cons, List.map_nil], by simp only [zf0, put_at, put_no, ev_t,
          ev_c, reduceIte, Nat.reduceEqDiff, List.map_cons, List.map_nil], by simp only [zf1, put_at, put_no, ev_t, ev_c, reduceIte, Nat.reduceEqDiff, List.map_cons, List.map_nil]⟩
  · rintro fr15 h19 ⟨hS20, f16, f17, f18⟩
    simp only [List.drop_succ_cons, List.drop_zero]
    simp only [run_ops_nil, x31_1, f16, run_cond, put_at, put_no, ev_t, ev_c, reduceIte, Nat.reduceEqDiff, List.map_cons, List.map_nil]
    refine cond_split (t := v7) (fun hc21 => ?_) (fun hc21 => ?_)
    · rw [iteT hc21] at hF9
      simp only [run_seq, run_reg, run_mv, run_ops_nil, run_ret, put_at, put_no, ev_t, ev_c, reduceIte, Nat.reduceEqDiff, List.map_cons, List.map_nil]
      have he := some_inj hF9
      subst he
      simp only [end_ret2, put_at, put_no, ev_t, ev_c, reduceIte, Nat.reduceEqDiff, List.map_cons, List.map_nil]
      exact cut_tup (mapM1 rfl (mapM1 rfl mapM0))
    · rw [iteF hc21] at hF9
      obtain ⟨v22, hx23, hF24⟩ := bind_some' hF9
      simp only [run_skip, x31_2, run_seq, run_reg, f17, run_mv, f18, run_call, put_at, put_no, ev_t, ev_c, reduceIte, Nat.reduceEqDiff, List.map_cons, List.map_nil]
      refine call1 rfl (mapM1 snap_lst (mapM1 snap_lst mapM0)) (impl_isLegal_x (fun b hb => decide_eq_true hb) l_0 order_1 v22 hx23) ?_
      simp only [run_mv, run_ops_nil, run_ret, put_at, put_no, ev_t, ev_c, reduceIte, Nat.reduceEqDiff, List.map_cons, List.map_nil]
      have he := some_inj hF24
      subst he
      simp only [end_ret2, put_at, put_no, ev_t, ev_c, reduceIte, Nat.reduceEqDiff, List.map_cons, List.map_nil]
      exact cut_tup (mapM1 rfl (mapM1 rfl mapM0))
theorem spec_next_x {W : Nat → Bool} {h : Heap} {lo : Nat} {S0 : List Obj} (hW : ∀ b,
    lo ≤ b → W b = true) (pb0 : Nat) (c_0 : L1Cur) (r : Int × L1Cur) (hF : spec_next c_0 = some r) (hS : Sep h lo ([Blk1 pb0 [lst cU8 c_0.code, .int .i64 c_0.at_,
    .int .u64 c_0.seed] 72] ++ (S0))) : Ret E W 73 [.ptr pb0 0] h (fun v h' => v = .int .i64 r.1 ∧ Sep h' lo ([Blk1 pb0 [lst cU8 r.2.code, .int .i64 r.2.at_,
    .int .u64 r.2.seed] 72] ++ (S0))) := by
  refine Ret.of (fn := x73) rfl (Run.of ?_)
  unfold spec_next at hF
  have zf0 : argFr [.ptr pb0 0] 0 = .ptr pb0 0 := rfl
  generalize argFr [.ptr pb0 0] = fr0 at zf0 ⊢
  simp only [x73, run_seq, run_reg, run_mv, run_ops_nil, x73_9, x73_8, run_draw, zf0, d4_mv, put1d_some, d4_chk, xchk_ptr, d4_fa, Nat.reduceAdd, Nat.zero_add, Nat.add_zero,
      xfa_ptr, d4_ld, put_at, put_no, ev_t, ev_c, reduceIte, Nat.reduceEqDiff, List.map_cons, List.map_nil]
  refine put1d_eq (v := .int .i64 c_0.at_) ((xld_b (Sep.bk _ _ _ hS)).trans rfl) ?_
  simp only [zf0, d4_mv, put1d_some, d4_chk, xchk_ptr, d4_fa, Nat.reduceAdd, Nat.zero_add, Nat.add_zero, xfa_ptr, d4_ld, put_at, put_no, ev_t, ev_c, reduceIte, Nat.reduceEqDiff,
      List.map_cons, List.map_nil]
  refine put1d_eq (v := lst cU8 c_0.code) ((xld_b (Sep.bk _ _ _ hS)).trans rfl) ?_
  simp only [d4_len, put1d_some, xlen_lst, d4_bin, xlss, run_draw_nil, x73_2, run_cond, put_at, put_no, ev_t, ev_c, reduceIte, Nat.reduceEqDiff, List.map_cons, List.map_nil]
  obtain ⟨s1, hX3, hk4⟩ := bind_some' hF
  refine cond_j (t := (decide (c_0.at_ < (List.length c_0.code : Int)))) (fun fr' h' => fr' 0 = .ptr pb0 0 ∧ fr' 3 = .int .i64 s1 ∧ Sep h' lo ([Blk1 pb0 [lst cU8 c_0.code,
      .int .i64 c_0.at_, .int .u64 c_0.seed] 72] ++ (S0))) (fun Q5 hN6 hR7 hE8 => ⟨fun hc9 => ?_, fun hc9 => ?_⟩) ?_
  · rw [iteT hc9] at hX3
    simp only [x73_1, run_draw, zf0, d4_mv, put1d_some, d4_chk, xchk_ptr, d4_fa, Nat.reduceAdd, Nat.zero_add, Nat.add_zero, xfa_ptr, d4_ld, put_at, put_no, ev_t, ev_c, reduceIte,
        Nat.reduceEqDiff, List.map_cons, List.map_nil]
    refine put1d_eq (v := lst cU8 c_0.code) ((xld_b (Sep.bk _ _ _ hS)).trans rfl) ?_
    simp only [zf0, d4_mv, put1d_some, d4_chk, xchk_ptr, d4_fa, Nat.reduceAdd, Nat.zero_add, Nat.add_zero, xfa_ptr, d4_ld, put_at, put_no, ev_t, ev_c, reduceIte, Nat.reduceEqDiff,
        List.map_cons, List.map_nil]
    refine put1d_eq (v := .int .i64 c_0.at_) ((xld_b (Sep.bk _ _ _ hS)).trans rfl) ?_
    obtain ⟨x10, hx11, hF12⟩ := bind_some' hX3
    simp only [d4_ia, put_at, put_no, ev_t, ev_c, reduceIte, Nat.reduceEqDiff, List.map_cons, List.map_nil]
    refine put1d_eq (v := .ref (cU8 x10) 0) (xia_lst hx11 rfl) ?_
    simp only [d4_ld, put_at, put_no, ev_t, ev_c, reduceIte, Nat.reduceEqDiff, List.map_cons, List.map_nil]
    refine put1d_eq (v := .int .u8 x10) rfl ?_
    simp only [d4_cvt, put1d_some, xcvt_i, d4_mv, run_draw_nil, run_nil, put_at, put_no, ev_t, ev_c, reduceIte, Nat.reduceEqDiff, List.map_cons, List.map_nil]
    have e13 := some_inj hF12
    subst e13
    exact hN6 _ _ ⟨by simp only [zf0, put_at, put_no, ev_t, ev_c, reduceIte, Nat.reduceEqDiff, List.map_cons, List.map_nil], by simp only [put_at, put_no, ev_t, ev_c, reduceIte,
        Nat.reduceEqDiff, List.map_cons, List.map_nil], hS⟩
  · rw [iteF hc9] at hX3
    simp only [run_skip, run_nil, put_at, put_no, ev_t, ev_c, reduceIte, Nat.reduceEqDiff, List.map_cons, List.map_nil]
    have e14 := some_inj hX3
    subst e14
    exact hN6 _ _ ⟨by simp only [zf0, put_at, put_no, ev_t, ev_c, reduceIte, Nat.reduceEqDiff, List.map_cons, List.map_nil], by simp only [put_at, put_no, ev_t, ev_c, reduceIte,
        Nat.reduceEqDiff, List.map_cons, List.map_nil], hS⟩
  · rintro fr15 h16 ⟨f18, f19, hS17⟩
    unfold spec_next_j1 at hk4
    simp only [x73_7, run_seq, run_reg, f18, run_mv, run_chk, put1_some, xchk_ptr, run_fa, Nat.reduceAdd, Nat.zero_add, Nat.add_zero, xfa_ptr, run_ld, put_at, put_no, ev_t, ev_c,
        reduceIte, Nat.reduceEqDiff, List.map_cons, List.map_nil]
    refine put1_eq (v := .int .i64 c_0.at_) ((xld_b (Sep.bk _ _ _ hS17)).trans rfl) ?_
    simp only [run_bin, put1_some, xadd, run_chk, xchk_ptr, run_fa, Nat.reduceAdd, Nat.zero_add, Nat.add_zero, xfa_ptr, run_st, put_at, put_no, ev_t, ev_c, reduceIte,
        Nat.reduceEqDiff, List.map_cons, List.map_nil]
    refine put2_stC (cs' := [lst cU8 c_0.code, .int .i64 (IntKind.wrap .i64 (c_0.at_ + 1)),
        .int .u64 c_0.seed]) hS17 hW rfl rfl (Nat.le_of_ble_eq_true rfl) rfl (fun h20 hS21 => ?_)
    simp only [put_no, run_ops_nil, x73_6, run_seq, run_reg, f18, run_mv, run_chk, put1_some, xchk_ptr, run_fa, Nat.reduceAdd, Nat.zero_add, Nat.add_zero, xfa_ptr, run_ld, put_at,
        ev_t, ev_c, reduceIte, Nat.reduceEqDiff, List.map_cons, List.map_nil]
    refine put1_eq (v := .int .u64 c_0.seed) ((xld_b (Sep.bk _ _ _ hS21)).trans rfl) ?_
    simp only [run_bin, put1_some, xmul, f19, run_mv, run_cvt, xcvt_i, xadd, run_chk, xchk_ptr, run_fa, Nat.reduceAdd, Nat.zero_add, Nat.add_zero, xfa_ptr, run_st, put_at, put_no,
        ev_t, ev_c, reduceIte, Nat.reduceEqDiff, List.map_cons, List.map_nil]
    refine put2_stC (cs' := [lst cU8 c_0.code, .int .i64 (IntKind.wrap .i64 (c_0.at_ + 1)),
        .int .u64 (IntKind.wrap .u64 ((IntKind.wrap .u64 ((IntKind.wrap .u64 (c_0.seed * 6364136223846793005)) +
        (IntKind.wrap .u64 s1))) + 1442695040888963407))]) hS21 hW rfl rfl (Nat.le_of_ble_eq_true rfl) rfl (fun h22 hS23 => ?_)
    simp only [put_no, run_ops_nil, x73_5, run_seq, run_draw, f18, d4_mv, put1d_some, d4_chk, xchk_ptr, d4_fa, Nat.reduceAdd, Nat.zero_add, Nat.add_zero, xfa_ptr, d4_ld, put_at,
        ev_t, ev_c, reduceIte, Nat.reduceEqDiff, List.map_cons, List.map_nil]
    refine put1d_eq (v := .int .i64 (IntKind.wrap .i64 (c_0.at_ + 1))) ((xld_b (Sep.bk _ _ _ hS23)).trans rfl) ?_
    simp only [f18, d4_mv, put1d_some, d4_chk, xchk_ptr, d4_fa, Nat.reduceAdd, Nat.zero_add, Nat.add_zero, xfa_ptr, d4_ld, put_at, put_no, ev_t, ev_c, reduceIte, Nat.reduceEqDiff,
        List.map_cons, List.map_nil]
    refine put1d_eq (v := lst cU8 c_0.code) ((xld_b (Sep.bk _ _ _ hS23)).trans rfl) ?_
    simp only [d4_len, put1d_some, xlen_lst, d4_bin, xleq, run_draw_nil, x73_3, run_cond, put_at, put_no, ev_t, ev_c, reduceIte, Nat.reduceEqDiff, List.map_cons, List.map_nil]
    refine cond_split (t := (decide ((IntKind.wrap .i64 (c_0.at_ + 1)) ≤ (List.length c_0.code : Int)))) (fun hc24 => ?_) (fun hc24 => ?_)
    · rw [iteT hc24] at hk4
      simp only [run_seq, run_reg, f19, run_mv, run_ops_nil, run_ret, put_at, put_no, ev_t, ev_c, reduceIte, Nat.reduceEqDiff, List.map_cons, List.map_nil]
      have he := some_inj hk4
      subst he
      simp only [end_ret1, put_at, put_no, ev_t, ev_c, reduceIte, Nat.reduceEqDiff, List.map_cons, List.map_nil]
      exact ⟨by first | trivial | rfl, hS23⟩
    · rw [iteF hc24] at hk4
      simp only [run_skip, x73_4, run_seq, run_reg, f18, run_mv, run_chk, put1_some, xchk_ptr, run_fa, Nat.reduceAdd, Nat.zero_add, Nat.add_zero, xfa_ptr, run_ld, put_at, put_no,
          ev_t, ev_c, reduceIte, Nat.reduceEqDiff, List.map_cons, List.map_nil]
      refine put1_eq (v := .int .u64 (IntKind.wrap .u64 ((IntKind.wrap .u64 ((IntKind.wrap .u64 (c_0.seed * 6364136223846793005)) +
          (IntKind.wrap .u64 s1))) + 1442695040888963407))) ((xld_b (Sep.bk _ _ _ hS23)).trans rfl) ?_
      simp only [run_bin, put1_some, xshr_nn (n := 40) (by decide), xand_i, run_cvt, xcvt_i, run_mv, run_ops_nil, run_ret, put_at, put_no, ev_t, ev_c, reduceIte, Nat.reduceEqDiff,
          List.map_cons, List.map_nil]
      have he := some_inj hk4
      subst he
      simp only [end_ret1, put_at, put_no, ev_t, ev_c, reduceIte, Nat.reduceEqDiff, List.map_cons, List.map_nil]
      exact ⟨by first | trivial | rfl, hS23⟩
theorem spec_pick_x {W : Nat → Bool} {h : Heap} {lo : Nat} {S0 : List Obj} (hW : ∀ b,
    lo ≤ b → W b = true) (pb0 : Nat) (c_0 : L1Cur) (n_1 : Int) (r : Int × L1Cur) (hF : spec_pick c_0 n_1 = some r) (hS : Sep h lo ([Blk1 pb0 [lst cU8 c_0.code, .int .i64 c_0.at_,
    .int .u64 c_0.seed] 72] ++ (S0))) : Ret E W 63 [.ptr pb0 0, .int .i64 n_1] h (fun v h' => v = .int .i64 r.1 ∧ Sep h' lo ([Blk1 pb0 [lst cU8 r.2.code, .int .i64 r.2.at_,
    .int .u64 r.2.seed] 72] ++ (S0))) := by
  refine Ret.of (fn := x63) rfl (Run.of ?_)
  unfold spec_pick at hF
  have zf0 : argFr [.ptr pb0 0, .int .i64 n_1] 0 = .ptr pb0 0 := rfl
  have zf1 : argFr [.ptr pb0 0, .int .i64 n_1] 1 = .int .i64 n_1 := rfl
  generalize argFr [.ptr pb0 0, .int .i64 n_1] = fr0 at zf0 zf1 ⊢
  simp only [x63, run_seq, run_reg, run_mv, run_ops_nil, x63_6, zf1, run_bin, put1_some, xleq, run_cond, put_at, put_no, ev_t, ev_c, reduceIte, Nat.reduceEqDiff, List.map_cons,
      List.map_nil]
  refine cond_split (t := (decide (n_1 ≤ 1))) (fun hc1 => ?_) (fun hc1 => ?_)
  · rw [iteT hc1] at hF
    simp only [run_seq, run_reg, run_mv, run_ops_nil, run_ret, put_at, put_no, ev_t, ev_c, reduceIte, Nat.reduceEqDiff, List.map_cons, List.map_nil]
    have he := some_inj hF
    subst he
    simp only [end_ret1, put_at, put_no, ev_t, ev_c, reduceIte, Nat.reduceEqDiff, List.map_cons, List.map_nil]
    exact ⟨by first | trivial | rfl, hS⟩
  · rw [iteF hc1] at hF
    obtain ⟨v2, hx3, hF4⟩ := bind_some' hF
    simp only [run_skip, x63_5, run_seq, run_reg, zf0, run_mv, run_call, put_at, put_no, ev_t, ev_c, reduceIte, Nat.reduceEqDiff, List.map_cons, List.map_nil]
    refine call0 rfl (spec_next_x hW pb0 c_0 v2 hx3 hS) ?_
    rintro _ h5 ⟨rfl, hS6⟩
    simp only [run_mv, run_ops_nil, x63_4, run_seq, run_reg, zf1, run_bin, put1_some, xgtr, x63_2, run_cond, put_at, put_no, ev_t, ev_c, reduceIte, Nat.reduceEqDiff,
        List.map_cons, List.map_nil]
    refine cond_split (t := (decide ((200 : Int) < n_1))) (fun hc7 => ?_) (fun hc7 => ?_)
    · rw [iteT hc7] at hF4
      obtain ⟨v8, hx9, hF10⟩ := bind_some' hF4
      simp only [x63_1, run_reg, run_mv, run_bin, put1_some, xmul, zf0, run_call, put_at, put_no, ev_t, ev_c, reduceIte, Nat.reduceEqDiff, List.map_cons, List.map_nil]
      refine call0 rfl (spec_next_x hW pb0 v2.2 v8 hx9 hS6) ?_
      rintro _ h11 ⟨rfl, hS12⟩
      obtain ⟨hp13, hF14⟩ := ck_some hF10
      simp only [run_bin, put1_some, xadd, run_mv, run_ops_nil, x63_3, run_seq, run_reg, zf1, xrem_nz (n := n_1) hp13, run_ret, put_at, put_no, ev_t, ev_c, reduceIte,
          Nat.reduceEqDiff, List.map_cons, List.map_nil]
      have he := some_inj hF14
      subst he
      simp only [end_ret1, put_at, put_no, ev_t, ev_c, reduceIte, Nat.reduceEqDiff, List.map_cons, List.map_nil]
      exact ⟨by first | trivial | rfl, hS12⟩
    · rw [iteF hc7] at hF4
      obtain ⟨hp15, hF16⟩ := ck_some hF4
      simp only [run_skip, x63_3, run_seq, run_reg, run_mv, zf1, run_bin, put1_some, xrem_nz (n := n_1) hp15, run_ops_nil, run_ret, put_at, put_no, ev_t, ev_c, reduceIte,
          Nat.reduceEqDiff, List.map_cons, List.map_nil]
      have he := some_inj hF16
      subst he
      simp only [end_ret1, put_at, put_no, ev_t, ev_c, reduceIte, Nat.reduceEqDiff, List.map_cons, List.map_nil]
      exact ⟨by first | trivial | rfl, hS6⟩
theorem spec_one_x {W : Nat → Bool} {h : Heap} {lo : Nat} {S0 : List Obj} (hW : ∀ b,
    lo ≤ b → W b = true) (pb0 : Nat) (c_0 : L1Cur) (n_1 : Int) (r : Bool × L1Cur) (hF : spec_one c_0 n_1 = some r) (hS : Sep h lo ([Blk1 pb0 [lst cU8 c_0.code, .int .i64 c_0.at_,
    .int .u64 c_0.seed] 72] ++ (S0))) : Ret E W 61 [.ptr pb0 0, .int .i64 n_1] h (fun v h' => v = .bool r.1 ∧ Sep h' lo ([Blk1 pb0 [lst cU8 r.2.code, .int .i64 r.2.at_,
    .int .u64 r.2.seed] 72] ++ (S0))) := by
  refine Ret.of (fn := x61) rfl (Run.of ?_)
  unfold spec_one at hF
  have zf0 : argFr [.ptr pb0 0, .int .i64 n_1] 0 = .ptr pb0 0 := rfl
  have zf1 : argFr [.ptr pb0 0, .int .i64 n_1] 1 = .int .i64 n_1 := rfl
  generalize argFr [.ptr pb0 0, .int .i64 n_1] = fr0 at zf0 zf1 ⊢
  obtain ⟨v1, hx2, hF3⟩ := bind_some' hF
  simp only [x61, run_seq, run_reg, run_mv, run_ops_nil, x61_1, zf0, zf1, run_call, put_at, put_no, ev_t, ev_c, reduceIte, Nat.reduceEqDiff, List.map_cons, List.map_nil]
  refine call0 rfl (spec_pick_x hW pb0 c_0 n_1 v1 hx2 hS) ?_
  rintro _ h4 ⟨rfl, hS5⟩
  simp only [run_bin, put1_some, xeql, run_mv, run_ops_nil, run_ret, put_at, put_no, ev_t, ev_c, reduceIte, Nat.reduceEqDiff, List.map_cons, List.map_nil]
  have he := some_inj hF3
  subst he
  simp only [end_ret1, put_at, put_no, ev_t, ev_c, reduceIte, Nat.reduceEqDiff, List.map_cons, List.map_nil]
  exact ⟨by first | trivial | rfl, hS5⟩
theorem spec_among_x {W : Nat → Bool} {h : Heap} {lo : Nat} {S0 : List Obj} (hW : ∀ b,
    lo ≤ b → W b = true) (pb0 : Nat) (c_0 : L1Cur) (pv1 : XV) (pc1 : List Obj) (list_1 : List Int) (ph1 : SlF cI 1 3 pv1 list_1 pc1) (r : Int × L1Cur × (List Int))
    (hF : spec_among c_0 list_1 = some r) (hS : Sep h lo ([Blk1 pb0 [lst cU8 c_0.code, .int .i64 c_0.at_, .int .u64 c_0.seed] 72] ++ (pc1 ++ (S0)))) : Ret E W 72 [.ptr pb0 0,
    pv1] h (fun v h' => ∃ ic1, v = .int .i64 r.1 ∧ SlF cI 1 3 pv1 r.2.2 ic1 ∧ Sep h' lo ([Blk1 pb0 [lst cU8 r.2.1.code, .int .i64 r.2.1.at_,
    .int .u64 r.2.1.seed] 72] ++ (ic1 ++ (S0)))) := by
  refine Ret.of (fn := x72) rfl (Run.of ?_)
  unfold spec_among at hF
  have zf0 : argFr [.ptr pb0 0, pv1] 0 = .ptr pb0 0 := rfl
  have zf1 : argFr [.ptr pb0 0, pv1] 1 = pv1 := rfl
  generalize argFr [.ptr pb0 0, pv1] = fr0 at zf0 zf1 ⊢
  obtain ⟨v1, hx2, hF3⟩ := bind_some' hF
  simp only [x72, run_seq, run_reg, run_mv, run_ops_nil, x72_1, zf1, zf0, run_len, put1_some, SlF.plen ph1, run_call, put_at, put_no, ev_t, ev_c, reduceIte, Nat.reduceEqDiff,
      List.map_cons, List.map_nil]
  refine call0 rfl (spec_pick_x hW pb0 c_0 (List.length list_1 : Int) v1 hx2 hS) ?_
  rintro _ h4 ⟨rfl, hS5⟩
  obtain ⟨x6, hx7, hF8⟩ := bind_some' hF3
  simp only [run_ia, put_at, put_no, ev_t, ev_c, reduceIte, Nat.reduceEqDiff, List.map_cons, List.map_nil]
  obtain ⟨b9, hb10⟩ := SlF.isrow ph1 (geti_ne hx7)
  refine put1_eq (SlF.ia ph1 hb10 hx7) ?_
  simp only [run_ld, put_at, put_no, ev_t, ev_c, reduceIte, Nat.reduceEqDiff, List.map_cons, List.map_nil]
  refine put1_eq (v := .int .i64 x6) ((SlF.ld (o := 0) ph1 (Sep.m1 hS5) hb10 hx7 (fun _ => rfl) (Nat.le_of_ble_eq_true rfl)).trans rfl) ?_
  simp only [run_mv, run_ops_nil, run_ret, put_at, put_no, ev_t, ev_c, reduceIte, Nat.reduceEqDiff, List.map_cons, List.map_nil]
  have he := some_inj hF8
  subst he
  simp only [end_ret1, put_at, put_no, ev_t, ev_c, reduceIte, Nat.reduceEqDiff, List.map_cons, List.map_nil]
  exact ⟨pc1, by first | trivial | rfl, ph1, (Sep.m1 (Sep.m1 hS5))⟩
end Go.Proofs.Ytddkoiapboeemaa.X
namespace Go.Proofs.Ytddkoiapboeemaa.X
open Go
theorem spec_calls_x {W : Nat → Bool} {h : Heap} {lo : Nat} {S0 : List Obj} (hW : ∀ b,
    lo ≤ b → W b = true) (k : Nat) (pb0 : Nat) (v_0 : L1Cur) (r : (List Call) × L1Cur) (hF : spec_calls k v_0 = some r) (hS : Sep h lo ([Blk1 pb0 [lst cU8 v_0.code,
    .int .i64 v_0.at_, .int .u64 v_0.seed] 72] ++ (S0))) : Ret E W 60 [.ptr pb0 0] h (fun v h' => ∃ rv0 rc0,
    v = rv0 ∧ SlF Call.cells 6 55 rv0 r.1 rc0 ∧ Sep h' lo (rc0 ++ ([Blk1 pb0 [lst cU8 r.2.code, .int .i64 r.2.at_, .int .u64 r.2.seed] 72] ++ (S0)))) := by
  refine Ret.of (fn := x60) rfl (Run.of ?_)
  unfold spec_calls at hF
  have zf0 : argFr [.ptr pb0 0] 0 = .ptr pb0 0 := rfl
  generalize argFr [.ptr pb0 0] = fr0 at zf0 ⊢
  obtain ⟨l1, hx2, hF3⟩ := bind_some' hF
  simp only [x60, run_seq, run_reg, run_mv, run_ops_nil, x60_39, x60_38, run_mkS, put_at, put_no, ev_t, ev_c, reduceIte, Nat.reduceEqDiff, List.map_cons, List.map_nil]
  refine put2_mkSF (f := cI) (z := (0 : Int)) hS hx2 rfl (fun v4 c5 h6 hv7 hS8 => ?_)
  obtain ⟨l10, hx11, hF12⟩ := bind_some' hF3
  simp only [run_mv, run_ops_nil, x60_37, run_seq, run_reg, run_mkS, put_at, put_no, ev_t, ev_c, reduceIte, Nat.reduceEqDiff, List.map_cons, List.map_nil]
  refine put2_mkSF (f := cI) (z := (0 : Int)) hS8 hx11 rfl (fun v13 c14 h15 hv16 hS17 => ?_)
  obtain ⟨v19, hx20, hF21⟩ := bind_some' hF12
  simp only [run_mv, run_ops_nil, x60_36, run_seq, run_reg, x60_35, zf0, run_call, put_at, put_no, ev_t, ev_c, reduceIte, Nat.reduceEqDiff, List.map_cons, List.map_nil]
  refine call0 rfl (spec_pick_x hW pb0 v_0 8 v19 hx20 (Sep.m2 hS17)) ?_
  rintro _ h22 ⟨rfl, hS23⟩
  obtain ⟨v24, hx25, hF26⟩ := bind_some' hF21
  simp only [run_mv, run_ops_nil, x60_34, run_seq, run_reg, zf0, run_call, put_at, put_no, ev_t, ev_c, reduceIte, Nat.reduceEqDiff, List.map_cons, List.map_nil]
  refine call0 rfl (spec_one_x hW pb0 v19.2 20 v24 hx25 hS23) ?_
  rintro _ h27 ⟨rfl, hS28⟩
  simp only [run_ops_nil, x60_2, run_cond, put_at, put_no, ev_t, ev_c, reduceIte, Nat.reduceEqDiff, List.map_cons, List.map_nil]
  obtain ⟨sv34, hX32, hk33⟩ := bind_some' hF26
  refine cond_j (t := v24.1) (fun fr' h' => fr' 0 = .ptr pb0 0 ∧ fr' 3 = .nil ∧ fr' 4 = v4 ∧ fr' 5 = v13 ∧ fr' 6 = .int .i64 0 ∧ fr' 7 = .int .i64 sv34.1 ∧ Sep h' lo
      ([Blk1 pb0 [lst cU8 sv34.2.code, .int .i64 sv34.2.at_, .int .u64 sv34.2.seed] 72] ++ (c5 ++ (c14 ++ (S0))))) (fun Q35 hN36 hR37 hE38 => ⟨fun hc39 => ?_, fun hc39 => ?_⟩) ?_
  · rw [iteT hc39] at hX32
    obtain ⟨v40, hx41, hF42⟩ := bind_some' hX32
    simp only [x60_1, run_reg, zf0, run_mv, run_call, put_at, put_no, ev_t, ev_c, reduceIte, Nat.reduceEqDiff, List.map_cons, List.map_nil]
    refine call0 rfl (spec_pick_x hW pb0 v24.2 2 v40 hx41 hS28) ?_
    rintro _ h43 ⟨rfl, hS44⟩
    simp only [run_bin, put1_some, xadd, run_mv, run_ops_nil, run_nil, put_at, put_no, ev_t, ev_c, reduceIte, Nat.reduceEqDiff, List.map_cons, List.map_nil]
    have e45 := some_inj hF42
    subst e45
    exact hN36 _ _ ⟨by simp only [zf0, put_at, put_no, ev_t, ev_c, reduceIte, Nat.reduceEqDiff, List.map_cons, List.map_nil], by simp only [put_at, put_no, ev_t, ev_c, reduceIte,
        Nat.reduceEqDiff, List.map_cons, List.map_nil], by simp only [put_at, put_no, ev_t, ev_c, reduceIte, Nat.reduceEqDiff, List.map_cons, List.map_nil], by simp only [put_at,
        put_no, ev_t, ev_c, reduceIte, Nat.reduceEqDiff, List.map_cons, List.map_nil], by simp only [put_at, put_no, ev_t, ev_c, reduceIte, Nat.reduceEqDiff, List.map_cons,
        List.map_nil], by simp only [put_at, put_no, ev_t, ev_c, reduceIte, Nat.reduceEqDiff, List.map_cons, List.map_nil], (Sep.m2 (Sep.m2 (Sep.m1 hS44)))⟩
  · rw [iteF hc39] at hX32
    simp only [run_skip, run_nil, put_at, put_no, ev_t, ev_c, reduceIte, Nat.reduceEqDiff, List.map_cons, List.map_nil]
    have e46 := some_inj hX32
    subst e46
    exact hN36 _ _ ⟨by simp only [zf0, put_at, put_no, ev_t, ev_c, reduceIte, Nat.reduceEqDiff, List.map_cons, List.map_nil], by simp only [put_at, put_no, ev_t, ev_c, reduceIte,
        Nat.reduceEqDiff, List.map_cons, List.map_nil], by simp only [put_at, put_no, ev_t, ev_c, reduceIte, Nat.reduceEqDiff, List.map_cons, List.map_nil], by simp only [put_at,
        put_no, ev_t, ev_c, reduceIte, Nat.reduceEqDiff, List.map_cons, List.map_nil], by simp only [put_at, put_no, ev_t, ev_c, reduceIte, Nat.reduceEqDiff, List.map_cons,
        List.map_nil], by simp only [put_at, put_no, ev_t, ev_c, reduceIte, Nat.reduceEqDiff, List.map_cons, List.map_nil], (Sep.m2 (Sep.m2 (Sep.m1 hS28)))⟩
  · rintro fr47 h48 ⟨f50, f51, f52, f53, f54, f55, hS49⟩
    obtain ⟨s29, s30⟩ := sv34
    dsimp only at *
    unfold spec_calls_j1 at hk33
    simp only [x60_33, run_seq, put_at, put_no, ev_t, ev_c, reduceIte, Nat.reduceEqDiff, List.map_cons, List.map_nil]
    obtain ⟨oc86, hX88, hk89⟩ := jn_some hk33
    simp only [x60_29]
    refine loopF_j (σ := (List Call) × Int × Int × L1Cur × (List Int) × (List Int))
        (fun s320 => spec_calls_b1 s320.1 s320.2.1 s320.2.2.1 s320.2.2.2.1 s320.2.2.2.2.1 s320.2.2.2.2.2) (fun s fr' h' => ∃ v72 c73 c79 c82,
        fr' 0 = .ptr pb0 0 ∧ fr' 3 = v72 ∧ fr' 4 = v4 ∧ fr' 5 = v13 ∧ fr' 6 = .int .i64 s.2.1 ∧ fr' 7 = .int .i64 s.2.2.1 ∧ SlF Call.cells 6 55 v72 s.1 c73 ∧ SlF cI 1 3 v4 s.2.2.2.2.1 c79 ∧ SlF cI 1 3 v13 s.2.2.2.2.2 c82 ∧ Sep h' lo
        ([Blk1 pb0 [lst cU8 s.2.2.2.1.code, .int .i64 s.2.2.2.1.at_, .int .u64 s.2.2.2.1.seed] 72] ++ (c73 ++ (c79 ++ (c82 ++ (S0)))))) hX88 ⟨.nil, [], c5, c14, by simp only [f50,
        put_at, put_no, ev_t, ev_c, reduceIte, Nat.reduceEqDiff, List.map_cons, List.map_nil], by simp only [f51, put_at, put_no, ev_t, ev_c, reduceIte, Nat.reduceEqDiff,
        List.map_cons, List.map_nil], by simp only [f52, put_at, put_no, ev_t, ev_c, reduceIte, Nat.reduceEqDiff, List.map_cons, List.map_nil], by simp only [f53, put_at, put_no,
        ev_t, ev_c, reduceIte, Nat.reduceEqDiff, List.map_cons, List.map_nil], by simp only [f54, put_at, put_no, ev_t, ev_c, reduceIte, Nat.reduceEqDiff, List.map_cons,
        List.map_nil], by simp only [f55, put_at, put_no, ev_t, ev_c, reduceIte, Nat.reduceEqDiff, List.map_cons, List.map_nil], SlF.nil, hv7, hv16,
        (Sep.m2 (Sep.m2 (Sep.m2 hS49)))⟩ (fun _ _ _ h => h) ?_ ?_
    · rintro ⟨s70, s75, s76, s77, s78, s81⟩ fr98 h99 ⟨v72, c73, c79, c82, f101, f102, f103, f104, f105, f106, hv74, hv80, hv83, hS100⟩ oc87 hF90 hr91 Q92 hN93 hK94 hR95 hE96
      dsimp only at *
      unfold spec_calls_b1 at hF90
      simp only [x60_28, run_seq, run_reg, f106, run_mv, run_bin, put1_some, xgtr, run_ops_nil, run_cond, put_at, put_no, ev_t, ev_c, reduceIte, Nat.reduceEqDiff, List.map_cons,
          List.map_nil]
      refine cond_split (t := (decide ((0 : Int) < s76))) (fun hc108 => ?_) (fun hc108 => ?_)
      · rw [iteT hc108] at hF90
        obtain ⟨v109, hx110, hF111⟩ := bind_some' hF90
        simp only [run_skip, x60_27, run_seq, run_block, x60_26, run_reg, f105, run_mv, f101, run_call, put_at, put_no, ev_t, ev_c, reduceIte, Nat.reduceEqDiff, List.map_cons,
            List.map_nil]
        refine call0 rfl (spec_pick_x hW pb0 s77 4 v109 hx110 hS100) ?_
        rintro _ h112 ⟨rfl, hS113⟩
        obtain ⟨v114, hx115, hF116⟩ := bind_some' hF111
        simp only [run_bin, put1_some, xadd, run_mv, run_ops_nil, x60_25, run_seq, run_reg, f101, run_call, put_at, put_no, ev_t, ev_c, reduceIte, Nat.reduceEqDiff, List.map_cons,
            List.map_nil]
        refine call0 rfl (spec_pick_x hW pb0 v109.2 4 v114 hx115 hS113) ?_
        rintro _ h117 ⟨rfl, hS118⟩
        obtain ⟨v119, hx120, hF121⟩ := bind_some' hF116
        simp only [f101, run_mv, run_call, put_at, put_no, ev_t, ev_c, reduceIte, Nat.reduceEqDiff, List.map_cons, List.map_nil]
        refine call0 rfl (spec_pick_x hW pb0 v114.2 2 v119 hx120 hS118) ?_
        rintro _ h122 ⟨rfl, hS123⟩
        obtain ⟨v124, hx125, hF126⟩ := bind_some' hF121
        simp only [f101, run_mv, run_call, put_at, put_no, ev_t, ev_c, reduceIte, Nat.reduceEqDiff, List.map_cons, List.map_nil]
        refine call0 rfl (spec_one_x hW pb0 v119.2 2 v124 hx125 hS123) ?_
        rintro _ h127 ⟨rfl, hS128⟩
        simp only [run_build, evp, put_at, put_no, ev_t, ev_c, reduceIte, Nat.reduceEqDiff, List.map_cons, List.map_nil]
        refine put1_eq (v := .agg [.int .i64 v114.1, .int .i64 v119.1, .bool v124.1, .int .i64 0, .int .i64 0, .int .i64 0]) rfl ?_
        simp only [run_new, put_at, put_no, ev_t, ev_c, reduceIte, Nat.reduceEqDiff, List.map_cons, List.map_nil]
        refine put2_newC hS128 (fun b129 h130 hS131 => ?_)
        simp only [run_st, put_at, put_no, ev_t, ev_c, reduceIte, Nat.reduceEqDiff, List.map_cons, List.map_nil]
        refine put2_stC (cs' := [.int .i64 v114.1, .int .i64 v119.1, .bool v124.1, .int .i64 0, .int .i64 0,
            .int .i64 0]) hS131 hW rfl rfl (Nat.le_of_ble_eq_true rfl) rfl (fun h133 hS134 => ?_)
        obtain ⟨v135, hx136, hF137⟩ := bind_some' hF126
        simp only [put_no, run_ops_nil, x60_24, run_seq, run_reg, run_mv, f101, run_call, put_at, ev_t, ev_c, reduceIte, Nat.reduceEqDiff, List.map_cons, List.map_nil]
        refine call0 rfl (spec_pick_x hW pb0 v124.2 4 v135 hx136 (Sep.m1 hS134)) ?_
        rintro _ h138 ⟨rfl, hS139⟩
        simp only [run_bin, put1_some, xsub, run_fa, Nat.reduceAdd, Nat.zero_add, Nat.add_zero, xfa_ptr, run_st, put_at, put_no, ev_t, ev_c, reduceIte, Nat.reduceEqDiff,
            List.map_cons, List.map_nil]
        refine put2_stC (cs' := [.int .i64 v114.1, .int .i64 v119.1, .bool v124.1, .int .i64 0,
            .int .i64 (IntKind.wrap .i64 ((IntKind.wrap .i64 (s75 + (IntKind.wrap .i64 ((1 : Int) + v109.1)))) - v135.1)),
            .int .i64 0]) (Sep.m1 hS139) hW rfl rfl (Nat.le_of_ble_eq_true rfl) rfl (fun h140 hS141 => ?_)
        simp only [put_no, run_ops_nil, x60_23, run_seq, run_draw, d4_fa, put1d_some, Nat.reduceAdd, Nat.zero_add, Nat.add_zero, xfa_ptr, d4_ld, put_at, ev_t, ev_c, reduceIte,
            Nat.reduceEqDiff, List.map_cons, List.map_nil]
        refine put1d_eq (v := .int .i64 (IntKind.wrap .i64 ((IntKind.wrap .i64 (s75 + (IntKind.wrap .i64 ((1 : Int) + v109.1)))) - v135.1))) ((xld_b
            (Sep.bk _ _ _ hS141)).trans rfl) ?_
        simp only [f103, d4_mv, put1d_some, d4_fa, Nat.reduceAdd, Nat.zero_add, Nat.add_zero, xfa_ptr, d4_ld, put_at, put_no, ev_t, ev_c, reduceIte, Nat.reduceEqDiff,
            List.map_cons, List.map_nil]
        refine put1d_eq (v := .int .i64 v114.1) ((xld_b (Sep.bk _ _ _ hS141)).trans rfl) ?_
        obtain ⟨x142, hx143, hF144⟩ := bind_some' hF137
        simp only [d4_ia, put_at, put_no, ev_t, ev_c, reduceIte, Nat.reduceEqDiff, List.map_cons, List.map_nil]
        obtain ⟨b145, hb146⟩ := SlF.isrow hv80 (geti_ne hx143)
        refine put1d_eq (SlF.ia hv80 hb146 hx143) ?_
        simp only [d4_ld, put_at, put_no, ev_t, ev_c, reduceIte, Nat.reduceEqDiff, List.map_cons, List.map_nil]
        refine put1d_eq (v := .int .i64 x142) ((SlF.ld (o := 0) hv80 (Sep.m3 hS141) hb146 hx143 (fun _ => rfl) (Nat.le_of_ble_eq_true rfl)).trans rfl) ?_
        simp only [d4_bin, put1d_some, xlss, run_draw_nil, x60_4, run_cond, put_at, put_no, ev_t, ev_c, reduceIte, Nat.reduceEqDiff, List.map_cons, List.map_nil]
        obtain ⟨s147, hX149, hk150⟩ := bind_some' hF144
        refine cond_j (t := (decide ((IntKind.wrap .i64 ((IntKind.wrap .i64 (s75 + (IntKind.wrap .i64 ((1 : Int) + v109.1)))) - v135.1)) < x142)))
            (fun fr' h' => fr' 0 = .ptr pb0 0 ∧ fr' 3 = v72 ∧ fr' 4 = v4 ∧ fr' 5 = v13 ∧ fr' 6 = .int .i64 (IntKind.wrap .i64 (s75 + (IntKind.wrap .i64
            ((1 : Int) + v109.1)))) ∧ fr' 7 = .int .i64 s76 ∧ fr' 8 = .ptr b129 0 ∧ Sep h' lo ([Blk1 pb0 [lst cU8 v135.2.code, .int .i64 v135.2.at_,
            .int .u64 v135.2.seed] 72] ++ (c73 ++ (c79 ++ (c82 ++ ([Blk1 b129 [.int .i64 s147.Client, .int .i64 s147.Object, .bool s147.Write, .int .i64 s147.Value,
            .int .i64 s147.Begin, .int .i64 s147.End] 55] ++ (S0))))))) (fun Q151 hN152 hR153 hE154 => ⟨fun hc155 => ?_, fun hc155 => ?_⟩) ?_
        · rw [iteT hc155] at hX149
          simp only [x60_3, run_reg, f103, run_mv, run_fa, put1_some, Nat.reduceAdd, Nat.zero_add, Nat.add_zero, xfa_ptr, run_ld, put_at, put_no, ev_t, ev_c, reduceIte,
              Nat.reduceEqDiff, List.map_cons, List.map_nil]
          refine put1_eq (v := .int .i64 v114.1) ((xld_b (Sep.bk _ _ _ hS141)).trans rfl) ?_
          simp only [run_ia, put_at, put_no, ev_t, ev_c, reduceIte, Nat.reduceEqDiff, List.map_cons, List.map_nil]
          refine put1_eq (SlF.ia hv80 hb146 hx143) ?_
          simp only [run_ld, put_at, put_no, ev_t, ev_c, reduceIte, Nat.reduceEqDiff, List.map_cons, List.map_nil]
          refine put1_eq (v := .int .i64 x142) ((SlF.ld (o := 0) hv80 (Sep.m3 hS141) hb146 hx143 (fun _ => rfl) (Nat.le_of_ble_eq_true rfl)).trans rfl) ?_
          simp only [run_fa, put1_some, Nat.reduceAdd, Nat.zero_add, Nat.add_zero, xfa_ptr, run_st, put_at, put_no, ev_t, ev_c, reduceIte, Nat.reduceEqDiff, List.map_cons,
              List.map_nil]
          refine put2_stC (cs' := [.int .i64 v114.1, .int .i64 v119.1, .bool v124.1, .int .i64 0, .int .i64 x142,
              .int .i64 0]) hS141 hW rfl rfl (Nat.le_of_ble_eq_true rfl) rfl (fun h156 hS157 => ?_)
          simp only [put_no, run_ops_nil, run_nil, put_at, ev_t, ev_c, reduceIte, Nat.reduceEqDiff, List.map_cons, List.map_nil]
          have e158 := some_inj hX149
          subst e158
          exact hN152 _ _ ⟨by simp only [f101, put_at, put_no, ev_t, ev_c, reduceIte, Nat.reduceEqDiff, List.map_cons, List.map_nil], by simp only [f102, put_at, put_no, ev_t,
              ev_c, reduceIte, Nat.reduceEqDiff, List.map_cons, List.map_nil], by simp only [f103, put_at, put_no, ev_t, ev_c, reduceIte, Nat.reduceEqDiff, List.map_cons,
              List.map_nil], by simp only [f104, put_at, put_no, ev_t, ev_c, reduceIte, Nat.reduceEqDiff, List.map_cons, List.map_nil], by simp only [put_at, put_no, ev_t, ev_c,
              reduceIte, Nat.reduceEqDiff, List.map_cons, List.map_nil], by simp only [f106, put_at, put_no, ev_t, ev_c, reduceIte, Nat.reduceEqDiff, List.map_cons, List.map_nil],
              by simp only [put_at, put_no, ev_t, ev_c, reduceIte, Nat.reduceEqDiff, List.map_cons, List.map_nil], (Sep.m4 (Sep.m4 (Sep.m4 (Sep.m4 hS157))))⟩
        · rw [iteF hc155] at hX149
          simp only [run_skip, run_nil, put_at, put_no, ev_t, ev_c, reduceIte, Nat.reduceEqDiff, List.map_cons, List.map_nil]
          have e159 := some_inj hX149
          subst e159
          exact hN152 _ _ ⟨by simp only [f101, put_at, put_no, ev_t, ev_c, reduceIte, Nat.reduceEqDiff, List.map_cons, List.map_nil], by simp only [f102, put_at, put_no, ev_t,
              ev_c, reduceIte, Nat.reduceEqDiff, List.map_cons, List.map_nil], by simp only [f103, put_at, put_no, ev_t, ev_c, reduceIte, Nat.reduceEqDiff, List.map_cons,
              List.map_nil], by simp only [f104, put_at, put_no, ev_t, ev_c, reduceIte, Nat.reduceEqDiff, List.map_cons, List.map_nil], by simp only [put_at, put_no, ev_t, ev_c,
              reduceIte, Nat.reduceEqDiff, List.map_cons, List.map_nil], by simp only [f106, put_at, put_no, ev_t, ev_c, reduceIte, Nat.reduceEqDiff, List.map_cons, List.map_nil],
              by simp only [put_at, put_no, ev_t, ev_c, reduceIte, Nat.reduceEqDiff, List.map_cons, List.map_nil], (Sep.m4 (Sep.m4 (Sep.m4 (Sep.m4 hS141))))⟩
        · rintro fr160 h161 ⟨f163, f164, f165, f166, f167, f168, f169, hS162⟩
          unfold spec_calls_j2 at hk150
          obtain ⟨v170, hx171, hF172⟩ := bind_some' hk150
          simp only [x60_22, run_seq, run_reg, f167, run_mv, run_bin, put1_some, xadd, f163, run_call, put_at, put_no, ev_t, ev_c, reduceIte, Nat.reduceEqDiff, List.map_cons,
              List.map_nil]
          refine call0 rfl (spec_pick_x hW pb0 v135.2 5 v170 hx171 hS162) ?_
          rintro _ h173 ⟨rfl, hS174⟩
          simp only [run_bin, put1_some, xadd, f169, run_fa, Nat.reduceAdd, Nat.zero_add, Nat.add_zero, xfa_ptr, run_st, put_at, put_no, ev_t, ev_c, reduceIte, Nat.reduceEqDiff,
              List.map_cons, List.map_nil]
          refine put2_stC (cs' := [.int .i64 s147.Client, .int .i64 s147.Object, .bool s147.Write, .int .i64 s147.Value, .int .i64 s147.Begin,
              .int .i64 (IntKind.wrap .i64 ((IntKind.wrap .i64 ((IntKind.wrap .i64 (s75 + (IntKind.wrap .i64 ((1 : Int) + v109.1)))) + 1)) + v170.1))]) (Sep.m4 hS174) hW rfl rfl
              (Nat.le_of_ble_eq_true rfl) rfl (fun h175 hS176 => ?_)
          simp only [put_no, run_ops_nil, x60_21, run_seq, run_reg, f169, run_fa, put1_some, Nat.reduceAdd, Nat.zero_add, Nat.add_zero, xfa_ptr, run_ld, put_at, ev_t, ev_c,
              reduceIte, Nat.reduceEqDiff, List.map_cons, List.map_nil]
          refine put1_eq (v := .int .i64 s147.Begin) ((xld_b (Sep.bk _ _ _ hS176)).trans rfl) ?_
          simp only [f167, run_mv, run_bin, put1_some, xgtr, run_ops_nil, x60_7, run_cond, put_at, put_no, ev_t, ev_c, reduceIte, Nat.reduceEqDiff, List.map_cons, List.map_nil]
          obtain ⟨sv182, hX180, hk181⟩ := bind_some' hF172
          refine cond_j (t := (decide ((IntKind.wrap .i64 (s75 + (IntKind.wrap .i64 ((1 : Int) + v109.1)))) < s147.Begin)))
              (fun fr' h' => fr' 0 = .ptr pb0 0 ∧ fr' 3 = v72 ∧ fr' 4 = v4 ∧ fr' 5 = v13 ∧ fr' 6 = .int .i64 sv182.1 ∧ fr' 7 = .int .i64 s76 ∧ fr' 8 = .ptr b129 0 ∧ Sep h' lo
              ([Blk1 pb0 [lst cU8 v170.2.code, .int .i64 v170.2.at_, .int .u64 v170.2.seed] 72] ++ (c73 ++ (c79 ++ (c82 ++ ([Blk1 b129 [.int .i64 sv182.2.Client,
              .int .i64 sv182.2.Object, .bool sv182.2.Write, .int .i64 sv182.2.Value, .int .i64 sv182.2.Begin,
              .int .i64 sv182.2.End] 55] ++ (S0))))))) (fun Q183 hN184 hR185 hE186 => ⟨fun hc187 => ?_, fun hc187 => ?_⟩) ?_
          · rw [iteT hc187] at hX180
            simp only [x60_6, run_seq, run_reg, f169, run_fa, put1_some, Nat.reduceAdd, Nat.zero_add, Nat.add_zero, xfa_ptr, run_ld, put_at, put_no, ev_t, ev_c, reduceIte,
                Nat.reduceEqDiff, List.map_cons, List.map_nil]
            refine put1_eq (v := .int .i64 s147.Begin) ((xld_b (Sep.bk _ _ _ hS176)).trans rfl) ?_
            simp only [run_mv, run_ops_nil, x60_5, run_reg, run_bin, put1_some, xadd, f169, run_fa, Nat.reduceAdd, Nat.zero_add, Nat.add_zero, xfa_ptr, run_st, put_at, put_no,
                ev_t, ev_c, reduceIte, Nat.reduceEqDiff, List.map_cons, List.map_nil]
            refine put2_stC (cs' := [.int .i64 s147.Client, .int .i64 s147.Object, .bool s147.Write, .int .i64 s147.Value, .int .i64 s147.Begin,
                .int .i64 (IntKind.wrap .i64 (s147.Begin + 1))]) hS176 hW rfl rfl (Nat.le_of_ble_eq_true rfl) rfl (fun h188 hS189 => ?_)
            simp only [put_no, run_ops_nil, run_nil, put_at, ev_t, ev_c, reduceIte, Nat.reduceEqDiff, List.map_cons, List.map_nil]
            have e190 := some_inj hX180
            subst e190
            exact hN184 _ _ ⟨by simp only [f163, put_at, put_no, ev_t, ev_c, reduceIte, Nat.reduceEqDiff, List.map_cons, List.map_nil], by simp only [f164, put_at, put_no, ev_t,
                ev_c, reduceIte, Nat.reduceEqDiff, List.map_cons, List.map_nil], by simp only [f165, put_at, put_no, ev_t, ev_c, reduceIte, Nat.reduceEqDiff, List.map_cons,
                List.map_nil], by simp only [f166, put_at, put_no, ev_t, ev_c, reduceIte, Nat.reduceEqDiff, List.map_cons, List.map_nil], by simp only [put_at, put_no, ev_t, ev_c,
                reduceIte, Nat.reduceEqDiff, List.map_cons, List.map_nil], by simp only [f168, put_at, put_no, ev_t, ev_c, reduceIte, Nat.reduceEqDiff, List.map_cons,
                List.map_nil], by simp only [f169, put_at, put_no, ev_t, ev_c, reduceIte, Nat.reduceEqDiff, List.map_cons, List.map_nil], (Sep.m4 (Sep.m4 (Sep.m4 (Sep.m4 hS189))))⟩
          · rw [iteF hc187] at hX180
            simp only [run_skip, run_nil, put_at, put_no, ev_t, ev_c, reduceIte, Nat.reduceEqDiff, List.map_cons, List.map_nil]
            have e191 := some_inj hX180
            subst e191
            exact hN184 _ _ ⟨by simp only [f163, put_at, put_no, ev_t, ev_c, reduceIte, Nat.reduceEqDiff, List.map_cons, List.map_nil], by simp only [f164, put_at, put_no, ev_t,
                ev_c, reduceIte, Nat.reduceEqDiff, List.map_cons, List.map_nil], by simp only [f165, put_at, put_no, ev_t, ev_c, reduceIte, Nat.reduceEqDiff, List.map_cons,
                List.map_nil], by simp only [f166, put_at, put_no, ev_t, ev_c, reduceIte, Nat.reduceEqDiff, List.map_cons, List.map_nil], by simp only [f167, put_at, put_no, ev_t,
                ev_c, reduceIte, Nat.reduceEqDiff, List.map_cons, List.map_nil], by simp only [f168, put_at, put_no, ev_t, ev_c, reduceIte, Nat.reduceEqDiff, List.map_cons,
                List.map_nil], by simp only [f169, put_at, put_no, ev_t, ev_c, reduceIte, Nat.reduceEqDiff, List.map_cons, List.map_nil], (Sep.m4 (Sep.m4 (Sep.m4 (Sep.m4 hS176))))⟩
          · rintro fr192 h193 ⟨f195, f196, f197, f198, f199, f200, f201, hS194⟩
            obtain ⟨s177, s178⟩ := sv182
            dsimp only at *
            unfold spec_calls_j3 at hk181
            simp only [x60_20, run_seq, run_reg, f197, run_mv, f201, run_fa, put1_some, Nat.reduceAdd, Nat.zero_add, Nat.add_zero, xfa_ptr, run_ld, put_at, put_no, ev_t, ev_c,
                reduceIte, Nat.reduceEqDiff, List.map_cons, List.map_nil]
            refine put1_eq (v := .int .i64 s178.Client) ((xld_b (Sep.bk _ _ _ (Sep.m4 hS194))).trans rfl) ?_
            simp only [f201, run_fa, put1_some, Nat.reduceAdd, Nat.zero_add, Nat.add_zero, xfa_ptr, run_ld, put_at, put_no, ev_t, ev_c, reduceIte, Nat.reduceEqDiff, List.map_cons,
                List.map_nil]
            refine put1_eq (v := .int .i64 s178.End) ((xld_b (Sep.bk _ _ _ (Sep.m4 hS194))).trans rfl) ?_
            obtain ⟨x202, hx203, hF204⟩ := bind_some' hk181
            simp only [run_ia, put_at, put_no, ev_t, ev_c, reduceIte, Nat.reduceEqDiff, List.map_cons, List.map_nil]
            refine put1_eq (SlF.ia hv80 hb146 hx203) ?_
            simp only [run_st, put_at, put_no, ev_t, ev_c, reduceIte, Nat.reduceEqDiff, List.map_cons, List.map_nil]
            refine put2_stF (f := cI) (x' := s178.End) (o := 0) hv80 (Sep.m2 hS194) hW hb146 hx203 (fun _ => rfl) rfl rfl (Nat.le_of_ble_eq_true rfl) rfl
                (fun c207 h205 hv208 hS206 => ?_)
            have hx209 := geti_set (x' := s178.End) hx203
            simp only [put_no, run_ops_nil, x60_19, run_seq, run_reg, f201, run_fa, put1_some, Nat.reduceAdd, Nat.zero_add, Nat.add_zero, xfa_ptr, run_ld, put_at, ev_t, ev_c,
                reduceIte, Nat.reduceEqDiff, List.map_cons, List.map_nil]
            refine put1_eq (v := .bool s178.Write) ((xld_b (Sep.bk _ _ _ (Sep.m4 hS206))).trans rfl) ?_
            simp only [run_ops_nil, x60_11, run_cond, put_at, put_no, ev_t, ev_c, reduceIte, Nat.reduceEqDiff, List.map_cons, List.map_nil]
            obtain ⟨sv218, hX216, hk217⟩ := bind_some' hF204
            refine cond_j (t := s178.Write) (fun fr' h' => ∃ c212,
                fr' 0 = .ptr pb0 0 ∧ fr' 3 = v72 ∧ fr' 4 = v4 ∧ fr' 5 = v13 ∧ fr' 6 = .int .i64 s177 ∧ fr' 7 = .int .i64 s76 ∧ fr' 8 = .ptr b129 0 ∧ SlF cI 1 3 v13 sv218.2.1 c212 ∧ Sep h' lo
                ([Blk1 pb0 [lst cU8 sv218.1.code, .int .i64 sv218.1.at_, .int .u64 sv218.1.seed] 72] ++ (c73 ++ (c207 ++ (c212 ++ ([Blk1 b129 [.int .i64 sv218.2.2.Client,
                .int .i64 sv218.2.2.Object, .bool sv218.2.2.Write, .int .i64 sv218.2.2.Value, .int .i64 sv218.2.2.Begin,
                .int .i64 sv218.2.2.End] 55] ++ (S0))))))) (fun Q219 hN220 hR221 hE222 => ⟨fun hc223 => ?_, fun hc223 => ?_⟩) ?_
            · rw [iteT hc223] at hX216
              obtain ⟨v224, hx225, hF226⟩ := bind_some' hX216
              simp only [x60_9, run_seq, run_reg, f195, run_mv, run_call, put_at, put_no, ev_t, ev_c, reduceIte, Nat.reduceEqDiff, List.map_cons, List.map_nil]
              refine call0 rfl (spec_pick_x hW pb0 v170.2 4 v224 hx225 (Sep.m1 hS206)) ?_
              rintro _ h227 ⟨rfl, hS228⟩
              simp only [run_bin, put1_some, xadd, f201, run_fa, Nat.reduceAdd, Nat.zero_add, Nat.add_zero, xfa_ptr, run_st, put_at, put_no, ev_t, ev_c, reduceIte,
                  Nat.reduceEqDiff, List.map_cons, List.map_nil]
              refine put2_stC (cs' := [.int .i64 s178.Client, .int .i64 s178.Object, .bool s178.Write, .int .i64 (IntKind.wrap .i64 ((1 : Int) + v224.1)), .int .i64 s178.Begin,
                  .int .i64 s178.End]) (Sep.m4 hS228) hW rfl rfl (Nat.le_of_ble_eq_true rfl) rfl (fun h229 hS230 => ?_)
              simp only [put_no, run_ops_nil, x60_8, run_reg, f198, run_mv, f201, run_fa, put1_some, Nat.reduceAdd, Nat.zero_add, Nat.add_zero, xfa_ptr, run_ld, put_at, ev_t,
                  ev_c, reduceIte, Nat.reduceEqDiff, List.map_cons, List.map_nil]
              refine put1_eq (v := .int .i64 s178.Object) ((xld_b (Sep.bk _ _ _ hS230)).trans rfl) ?_
              simp only [f201, run_fa, put1_some, Nat.reduceAdd, Nat.zero_add, Nat.add_zero, xfa_ptr, run_ld, put_at, put_no, ev_t, ev_c, reduceIte, Nat.reduceEqDiff,
                  List.map_cons, List.map_nil]
              refine put1_eq (v := .int .i64 (IntKind.wrap .i64 ((1 : Int) + v224.1))) ((xld_b (Sep.bk _ _ _ hS230)).trans rfl) ?_
              obtain ⟨x231, hx232, hF233⟩ := bind_some' hF226
              simp only [run_ia, put_at, put_no, ev_t, ev_c, reduceIte, Nat.reduceEqDiff, List.map_cons, List.map_nil]
              obtain ⟨b234, hb235⟩ := SlF.isrow hv83 (geti_ne hx232)
              refine put1_eq (SlF.ia hv83 hb235 hx232) ?_
              simp only [run_st, put_at, put_no, ev_t, ev_c, reduceIte, Nat.reduceEqDiff, List.map_cons, List.map_nil]
              refine put2_stF (f := cI) (x' := (IntKind.wrap .i64 ((1 : Int) + v224.1))) (o := 0) hv83 (Sep.m4 hS230) hW hb235 hx232 (fun _ => rfl) rfl rfl
                  (Nat.le_of_ble_eq_true rfl) rfl (fun c238 h236 hv239 hS237 => ?_)
              have hx240 := geti_set (x' := (IntKind.wrap .i64 ((1 : Int) + v224.1))) hx232
              simp only [put_no, run_ops_nil, run_nil, put_at, ev_t, ev_c, reduceIte, Nat.reduceEqDiff, List.map_cons, List.map_nil]
              have e241 := some_inj hF233
              subst e241
              exact hN220 _ _ ⟨c238, by simp only [f195, put_at, put_no, ev_t, ev_c, reduceIte, Nat.reduceEqDiff, List.map_cons, List.map_nil], by simp only [f196, put_at, put_no,
                  ev_t, ev_c, reduceIte, Nat.reduceEqDiff, List.map_cons, List.map_nil], by simp only [f197, put_at, put_no, ev_t, ev_c, reduceIte, Nat.reduceEqDiff,
                  List.map_cons, List.map_nil], by simp only [f198, put_at, put_no, ev_t, ev_c, reduceIte, Nat.reduceEqDiff, List.map_cons, List.map_nil], by simp only [f199,
                  put_at, put_no, ev_t, ev_c, reduceIte, Nat.reduceEqDiff, List.map_cons, List.map_nil], by simp only [f200, put_at, put_no, ev_t, ev_c, reduceIte,
                  Nat.reduceEqDiff, List.map_cons, List.map_nil], by simp only [f201, put_at, put_no, ev_t, ev_c, reduceIte, Nat.reduceEqDiff, List.map_cons, List.map_nil], hv239,
                  (Sep.m4 (Sep.m4 (Sep.m3 (Sep.m1 (Sep.m1 hS237)))))⟩
            · rw [iteF hc223] at hX216
              simp only [x60_10, run_reg, f198, run_mv, f201, run_fa, put1_some, Nat.reduceAdd, Nat.zero_add, Nat.add_zero, xfa_ptr, run_ld, put_at, put_no, ev_t, ev_c, reduceIte,
                  Nat.reduceEqDiff, List.map_cons, List.map_nil]
              refine put1_eq (v := .int .i64 s178.Object) ((xld_b (Sep.bk _ _ _ (Sep.m4 hS206))).trans rfl) ?_
              obtain ⟨x242, hx243, hF244⟩ := bind_some' hX216
              simp only [run_ia, put_at, put_no, ev_t, ev_c, reduceIte, Nat.reduceEqDiff, List.map_cons, List.map_nil]
              obtain ⟨b245, hb246⟩ := SlF.isrow hv83 (geti_ne hx243)
              refine put1_eq (SlF.ia hv83 hb246 hx243) ?_
              simp only [run_ld, put_at, put_no, ev_t, ev_c, reduceIte, Nat.reduceEqDiff, List.map_cons, List.map_nil]
              refine put1_eq (v := .int .i64 x242) ((SlF.ld (o := 0) hv83 (Sep.m3 hS206) hb246 hx243 (fun _ => rfl) (Nat.le_of_ble_eq_true rfl)).trans rfl) ?_
              simp only [f201, run_fa, put1_some, Nat.reduceAdd, Nat.zero_add, Nat.add_zero, xfa_ptr, run_st, put_at, put_no, ev_t, ev_c, reduceIte, Nat.reduceEqDiff,
                  List.map_cons, List.map_nil]
              refine put2_stC (cs' := [.int .i64 s178.Client, .int .i64 s178.Object, .bool s178.Write, .int .i64 x242, .int .i64 s178.Begin,
                  .int .i64 s178.End]) (Sep.m4 hS206) hW rfl rfl (Nat.le_of_ble_eq_true rfl) rfl (fun h247 hS248 => ?_)
              simp only [put_no, run_ops_nil, run_nil, put_at, ev_t, ev_c, reduceIte, Nat.reduceEqDiff, List.map_cons, List.map_nil]
              have e249 := some_inj hF244
              subst e249
              exact hN220 _ _ ⟨c82, by simp only [f195, put_at, put_no, ev_t, ev_c, reduceIte, Nat.reduceEqDiff, List.map_cons, List.map_nil], by simp only [f196, put_at, put_no,
                  ev_t, ev_c, reduceIte, Nat.reduceEqDiff, List.map_cons, List.map_nil], by simp only [f197, put_at, put_no, ev_t, ev_c, reduceIte, Nat.reduceEqDiff,
                  List.map_cons, List.map_nil], by simp only [f198, put_at, put_no, ev_t, ev_c, reduceIte, Nat.reduceEqDiff, List.map_cons, List.map_nil], by simp only [f199,
                  put_at, put_no, ev_t, ev_c, reduceIte, Nat.reduceEqDiff, List.map_cons, List.map_nil], by simp only [f200, put_at, put_no, ev_t, ev_c, reduceIte,
                  Nat.reduceEqDiff, List.map_cons, List.map_nil], by simp only [f201, put_at, put_no, ev_t, ev_c, reduceIte, Nat.reduceEqDiff, List.map_cons, List.map_nil], hv83,
                  (Sep.m4 (Sep.m4 (Sep.m2 (Sep.m4 hS248))))⟩
            · rintro fr250 h251 ⟨c212, f253, f254, f255, f256, f257, f258, f259, hv213, hS252⟩
              obtain ⟨s210, s211, s214⟩ := sv218
              dsimp only at *
              unfold spec_calls_j4 at hk217
              obtain ⟨v260, hx261, hF262⟩ := bind_some' hk217
              simp only [x60_18, run_seq, run_reg, f253, run_mv, run_call, put_at, put_no, ev_t, ev_c, reduceIte, Nat.reduceEqDiff, List.map_cons, List.map_nil]
              refine call0 rfl (spec_one_x hW pb0 s210 8 v260 hx261 hS252) ?_
              rintro _ h263 ⟨rfl, hS264⟩
              simp only [run_ops_nil, x60_16, run_cond, put_at, put_no, ev_t, ev_c, reduceIte, Nat.reduceEqDiff, List.map_cons, List.map_nil]
              obtain ⟨sv270, hX268, hk269⟩ := bind_some' hF262
              refine cond_j (t := v260.1) (fun fr' h' => fr' 0 = .ptr pb0 0 ∧ fr' 3 = v72 ∧ fr' 4 = v4 ∧ fr' 5 = v13 ∧ fr' 6 = .int .i64 s177 ∧ fr' 7 = .int .i64 s76 ∧ fr' 8 = .ptr b129 0 ∧ Sep h' lo
                  ([Blk1 pb0 [lst cU8 sv270.1.code, .int .i64 sv270.1.at_, .int .u64 sv270.1.seed] 72] ++ (c73 ++ (c207 ++ (c212 ++ ([Blk1 b129 [.int .i64 sv270.2.Client,
                  .int .i64 sv270.2.Object, .bool sv270.2.Write, .int .i64 sv270.2.Value, .int .i64 sv270.2.Begin,
                  .int .i64 sv270.2.End] 55] ++ (S0))))))) (fun Q271 hN272 hR273 hE274 => ⟨fun hc275 => ?_, fun hc275 => ?_⟩) ?_
              · rw [iteT hc275] at hX268
                obtain ⟨v276, hx277, hF278⟩ := bind_some' hX268
                simp only [x60_15, run_seq, run_reg, f253, run_mv, run_call, put_at, put_no, ev_t, ev_c, reduceIte, Nat.reduceEqDiff, List.map_cons, List.map_nil]
                refine call0 rfl (spec_pick_x hW pb0 v260.2 5 v276 hx277 hS264) ?_
                rintro _ h279 ⟨rfl, hS280⟩
                simp only [f259, run_fa, put1_some, Nat.reduceAdd, Nat.zero_add, Nat.add_zero, xfa_ptr, run_st, put_at, put_no, ev_t, ev_c, reduceIte, Nat.reduceEqDiff,
                    List.map_cons, List.map_nil]
                refine put2_stC (cs' := [.int .i64 s214.Client, .int .i64 s214.Object, .bool s214.Write, .int .i64 v276.1, .int .i64 s214.Begin,
                    .int .i64 s214.End]) (Sep.m4 hS280) hW rfl rfl (Nat.le_of_ble_eq_true rfl) rfl (fun h281 hS282 => ?_)
                simp only [put_no, run_ops_nil, x60_14, run_seq, run_reg, f259, run_fa, put1_some, Nat.reduceAdd, Nat.zero_add, Nat.add_zero, xfa_ptr, run_ld, put_at, ev_t, ev_c,
                    reduceIte, Nat.reduceEqDiff, List.map_cons, List.map_nil]
                refine put1_eq (v := .bool s214.Write) ((xld_b (Sep.bk _ _ _ hS282)).trans rfl) ?_
                simp only [run_ops_nil, x60_13, run_cond, put_at, put_no, ev_t, ev_c, reduceIte, Nat.reduceEqDiff, List.map_cons, List.map_nil]
                refine cond_split (t := s214.Write) (fun hc283 => ?_) (fun hc283 => ?_)
                · rw [iteT hc283] at hF278
                  simp only [x60_12, run_reg, f259, run_fa, put1_some, Nat.reduceAdd, Nat.zero_add, Nat.add_zero, xfa_ptr, run_ld, put_at, put_no, ev_t, ev_c, reduceIte,
                      Nat.reduceEqDiff, List.map_cons, List.map_nil]
                  refine put1_eq (v := .int .i64 v276.1) ((xld_b (Sep.bk _ _ _ hS282)).trans rfl) ?_
                  simp only [run_bin, put1_some, xadd, f259, run_fa, Nat.reduceAdd, Nat.zero_add, Nat.add_zero, xfa_ptr, run_st, put_at, put_no, ev_t, ev_c, reduceIte,
                      Nat.reduceEqDiff, List.map_cons, List.map_nil]
                  refine put2_stC (cs' := [.int .i64 s214.Client, .int .i64 s214.Object, .bool s214.Write, .int .i64 (IntKind.wrap .i64 (v276.1 + 1)), .int .i64 s214.Begin,
                      .int .i64 s214.End]) hS282 hW rfl rfl (Nat.le_of_ble_eq_true rfl) rfl (fun h284 hS285 => ?_)
                  simp only [put_no, run_ops_nil, run_nil, put_at, ev_t, ev_c, reduceIte, Nat.reduceEqDiff, List.map_cons, List.map_nil]
                  have e286 := some_inj hF278
                  subst e286
                  exact hN272 _ _ ⟨by simp only [f253, put_at, put_no, ev_t, ev_c, reduceIte, Nat.reduceEqDiff, List.map_cons, List.map_nil], by simp only [f254, put_at, put_no,
                      ev_t, ev_c, reduceIte, Nat.reduceEqDiff, List.map_cons, List.map_nil], by simp only [f255, put_at, put_no, ev_t, ev_c, reduceIte, Nat.reduceEqDiff,
                      List.map_cons, List.map_nil], by simp only [f256, put_at, put_no, ev_t, ev_c, reduceIte, Nat.reduceEqDiff, List.map_cons, List.map_nil], by simp only [f257,
                      put_at, put_no, ev_t, ev_c, reduceIte, Nat.reduceEqDiff, List.map_cons, List.map_nil], by simp only [f258, put_at, put_no, ev_t, ev_c, reduceIte,
                      Nat.reduceEqDiff, List.map_cons, List.map_nil], by simp only [f259, put_at, put_no, ev_t, ev_c, reduceIte, Nat.reduceEqDiff, List.map_cons, List.map_nil],
                      (Sep.m4 (Sep.m4 (Sep.m4 (Sep.m4 hS285))))⟩
                · rw [iteF hc283] at hF278
                  simp only [run_skip, run_nil, put_at, put_no, ev_t, ev_c, reduceIte, Nat.reduceEqDiff, List.map_cons, List.map_nil]
                  have e287 := some_inj hF278
                  subst e287
                  exact hN272 _ _ ⟨by simp only [f253, put_at, put_no, ev_t, ev_c, reduceIte, Nat.reduceEqDiff, List.map_cons, List.map_nil], by simp only [f254, put_at, put_no,
                      ev_t, ev_c, reduceIte, Nat.reduceEqDiff, List.map_cons, List.map_nil], by simp only [f255, put_at, put_no, ev_t, ev_c, reduceIte, Nat.reduceEqDiff,
                      List.map_cons, List.map_nil], by simp only [f256, put_at, put_no, ev_t, ev_c, reduceIte, Nat.reduceEqDiff, List.map_cons, List.map_nil], by simp only [f257,
                      put_at, put_no, ev_t, ev_c, reduceIte, Nat.reduceEqDiff, List.map_cons, List.map_nil], by simp only [f258, put_at, put_no, ev_t, ev_c, reduceIte,
                      Nat.reduceEqDiff, List.map_cons, List.map_nil], by simp only [f259, put_at, put_no, ev_t, ev_c, reduceIte, Nat.reduceEqDiff, List.map_cons, List.map_nil],
                      (Sep.m4 (Sep.m4 (Sep.m4 (Sep.m4 hS282))))⟩
              · rw [iteF hc275] at hX268
                simp only [run_skip, run_nil, put_at, put_no, ev_t, ev_c, reduceIte, Nat.reduceEqDiff, List.map_cons, List.map_nil]
                have e288 := some_inj hX268
                subst e288
                exact hN272 _ _ ⟨by simp only [f253, put_at, put_no, ev_t, ev_c, reduceIte, Nat.reduceEqDiff, List.map_cons, List.map_nil], by simp only [f254, put_at, put_no,
                    ev_t, ev_c, reduceIte, Nat.reduceEqDiff, List.map_cons, List.map_nil], by simp only [f255, put_at, put_no, ev_t, ev_c, reduceIte, Nat.reduceEqDiff,
                    List.map_cons, List.map_nil], by simp only [f256, put_at, put_no, ev_t, ev_c, reduceIte, Nat.reduceEqDiff, List.map_cons, List.map_nil], by simp only [f257,
                    put_at, put_no, ev_t, ev_c, reduceIte, Nat.reduceEqDiff, List.map_cons, List.map_nil], by simp only [f258, put_at, put_no, ev_t, ev_c, reduceIte,
                    Nat.reduceEqDiff, List.map_cons, List.map_nil], by simp only [f259, put_at, put_no, ev_t, ev_c, reduceIte, Nat.reduceEqDiff, List.map_cons, List.map_nil],
                    (Sep.m4 (Sep.m4 (Sep.m4 (Sep.m4 (Sep.m4 hS264)))))⟩
              · rintro fr289 h290 ⟨f292, f293, f294, f295, f296, f297, f298, hS291⟩
                obtain ⟨s265, s266⟩ := sv270
                dsimp only at *
                unfold spec_calls_j5 at hk269
                simp only [x60_17, run_reg, f293, run_mv, f298, run_ld, put_at, put_no, ev_t, ev_c, reduceIte, Nat.reduceEqDiff, List.map_cons, List.map_nil]
                refine put1_eq (v := .agg [.int .i64 s266.Client, .int .i64 s266.Object, .bool s266.Write, .int .i64 s266.Value, .int .i64 s266.Begin,
                    .int .i64 s266.End]) ((xld_bs (Sep.bk _ _ _ (Sep.m4 hS291))).trans rfl) ?_
                simp only [run_buildS, evp, put_at, put_no, ev_t, ev_c, reduceIte, Nat.reduceEqDiff, List.map_cons, List.map_nil]
                refine put2_buildSF (n := 6) (f := Call.cells) [s266] hS291 rfl rfl (fun v299 c300 h301 hv302 hS303 => ?_)
                simp only [run_app, put_at, put_no, ev_t, ev_c, reduceIte, Nat.reduceEqDiff, List.map_cons, List.map_nil]
                obtain ⟨l305, hx306, hF307⟩ := bind_some' hk269
                refine put2_appF (f := Call.cells) hv74 (Sep.m2 hS303) hW (fun _ => rfl) (fun _ => rfl) (SlF.first hv302 hS303 (fun _ => rfl)) hx306
                    (fun v308 c309 h310 hv311 hS312 => ?_)
                simp only [run_mv, run_ops_nil, run_blk, run_reg, f297, run_bin, put1_some, xsub, run_nil, put_at, put_no, ev_t, ev_c, reduceIte, Nat.reduceEqDiff, List.map_cons,
                    List.map_nil]
                have e314 := some_inj hF307
                exact hN93 _ _ _ e314.symm ⟨v308, c309, c207, c212, by simp only [f292, put_at, put_no, ev_t, ev_c, reduceIte, Nat.reduceEqDiff, List.map_cons, List.map_nil],
                    by simp only [put_at, put_no, ev_t, ev_c, reduceIte, Nat.reduceEqDiff, List.map_cons, List.map_nil], by simp only [f294, put_at, put_no, ev_t, ev_c, reduceIte,
                    Nat.reduceEqDiff, List.map_cons, List.map_nil], by simp only [f295, put_at, put_no, ev_t, ev_c, reduceIte, Nat.reduceEqDiff, List.map_cons, List.map_nil],
                    by simp only [f296, put_at, put_no, ev_t, ev_c, reduceIte, Nat.reduceEqDiff, List.map_cons, List.map_nil], by simp only [put_at, put_no, ev_t, ev_c, reduceIte,
                    Nat.reduceEqDiff, List.map_cons, List.map_nil], hv311, hv208, hv213, (Sep.m3 (Sep.m2 (Sep.m3 (Sep.m3 (Sep.dc (Sep.m4 (Sep.dc (Sep.m1 hS312))))))))⟩
      · rw [iteF hc108] at hF90
        simp only [run_exit, out_code, out_nil, put_at, put_no, ev_t, ev_c, reduceIte, Nat.reduceEqDiff, List.map_cons, List.map_nil]
        have e319 := some_inj hF90
        exact hK94 _ _ _ e319.symm ⟨v72, c73, c79, c82, by simp only [f101, put_at, put_no, ev_t, ev_c, reduceIte, Nat.reduceEqDiff, List.map_cons, List.map_nil],
            by simp only [f102, put_at, put_no, ev_t, ev_c, reduceIte, Nat.reduceEqDiff, List.map_cons, List.map_nil], by simp only [f103, put_at, put_no, ev_t, ev_c, reduceIte,
            Nat.reduceEqDiff, List.map_cons, List.map_nil], by simp only [f104, put_at, put_no, ev_t, ev_c, reduceIte, Nat.reduceEqDiff, List.map_cons, List.map_nil],
            by simp only [f105, put_at, put_no, ev_t, ev_c, reduceIte, Nat.reduceEqDiff, List.map_cons, List.map_nil], by simp only [f106, put_at, put_no, ev_t, ev_c, reduceIte,
            Nat.reduceEqDiff, List.map_cons, List.map_nil], hv74, hv80, hv83, (Sep.m3 (Sep.m3 (Sep.m3 (Sep.m3 hS100))))⟩
    · rintro ⟨s321, s326, s327, s328, s329, s332⟩ fr335 h336 rfl ⟨v323, c324, c330, c333, f338, f339, f340, f341, f342, f343, hv325, hv331, hv334, hS337⟩
      dsimp only [jnO] at hk89
      dsimp only at *
      unfold spec_calls_j7 at hk89
      simp only [x60_32, run_seq, run_reg, f339, run_mv, run_len, put1_some, SlF.plen hv325, run_bin, xgtr, put_at, put_no, ev_t, ev_c, reduceIte, Nat.reduceEqDiff, List.map_cons,
          List.map_nil]
      obtain ⟨sv349, hX347, hk348⟩ := bind_some' hk89
      refine ops_j 3 (fun fr' h' => fr' 0 = .ptr pb0 0 ∧ fr' 3 = v323 ∧ fr' 113 = .bool sv349.1 ∧ Sep h' lo ([Blk1 pb0 [lst cU8 sv349.2.code, .int .i64 sv349.2.at_,
          .int .u64 sv349.2.seed] 72] ++ (c324 ++ (S0)))) (fun Q350 hN351 => ?_) ?_
      · simp only [List.take_succ_cons, List.take_zero]
        simp only [run_guard (g := 110), put_at, put_no, ev_t, ev_c, reduceIte, Nat.reduceEqDiff, List.map_cons, List.map_nil]
        refine guard_split (t := (decide ((0 : Int) < (List.length s321 : Int)))) (fun hg354 => ?_) (fun hg354 => ?_)
        · rw [iteT hg354] at hX347
          obtain ⟨v355, hx356, hF357⟩ := bind_some' hX347
          simp only [hg354, run_guard (g := 110), guard_true, f338, run_mv, run_call, put_at, put_no, ev_t, ev_c, reduceIte, Nat.reduceEqDiff, List.map_cons, List.map_nil]
          refine call0 rfl (spec_one_x hW pb0 s328 30 v355 hx356 hS337) ?_
          rintro _ h358 ⟨rfl, hS359⟩
          simp only [hg354, run_pick, put1_some, xpick_t, run_ops_nil, run_nil, put_at, put_no, ev_t, ev_c, reduceIte, Nat.reduceEqDiff, List.map_cons, List.map_nil]
          have e360 := some_inj hF357
          subst e360
          exact hN351 _ _ ⟨by simp only [f338, put_at, put_no, ev_t, ev_c, reduceIte, Nat.reduceEqDiff, List.map_cons, List.map_nil], by simp only [f339, put_at, put_no, ev_t,
              ev_c, reduceIte, Nat.reduceEqDiff, List.map_cons, List.map_nil], by simp only [put_at, put_no, ev_t, ev_c, reduceIte, Nat.reduceEqDiff, List.map_cons, List.map_nil],
              (Sep.m1 (Sep.m1 (Sep.dc (Sep.m2 (Sep.dc (Sep.m2 hS359))))))⟩
        · rw [iteF hg354] at hX347
          simp only [hg354, run_guard (g := 110), guard_off, run_pick, put1_some, xpick_f, run_ops_nil, run_nil, put_at, put_no, ev_t, ev_c, reduceIte, Nat.reduceEqDiff,
              List.map_cons, List.map_nil]
          have e361 := some_inj hX347
          subst e361
          exact hN351 _ _ ⟨by simp only [f338, put_at, put_no, ev_t, ev_c, reduceIte, Nat.reduceEqDiff, List.map_cons, List.map_nil], by simp only [f339, put_at, put_no, ev_t,
              ev_c, reduceIte, Nat.reduceEqDiff, List.map_cons, List.map_nil], by simp only [put_at, put_no, ev_t, ev_c, reduceIte, Nat.reduceEqDiff, List.map_cons, List.map_nil],
              (Sep.m1 (Sep.m1 (Sep.dc (Sep.m2 (Sep.dc (Sep.m2 hS337))))))⟩
      · rintro fr362 h363 ⟨f365, f366, f367, hS364⟩
        obtain ⟨s344, s345⟩ := sv349
        dsimp only at *
        unfold spec_calls_j6 at hk348
        simp only [List.drop_succ_cons, List.drop_zero]
        simp only [run_ops_nil, x60_31, f367, run_cond, put_at, put_no, ev_t, ev_c, reduceIte, Nat.reduceEqDiff, List.map_cons, List.map_nil]
        refine cond_split (t := s344) (fun hc368 => ?_) (fun hc368 => ?_)
        · rw [iteT hc368] at hk348
          simp only [x60_30, run_reg, f366, run_mv, f365, run_buildS, evp, put_at, put_no, ev_t, ev_c, reduceIte, Nat.reduceEqDiff, List.map_cons, List.map_nil]
          refine put2_buildSF (n := 1) (f := cI) [0, 100, 101] hS364 rfl rfl (fun v369 c370 h371 hv372 hS373 => ?_)
          obtain ⟨v375, hx376, hF377⟩ := bind_some' hk348
          simp only [run_call, put_at, put_no, ev_t, ev_c, reduceIte, Nat.reduceEqDiff, List.map_cons, List.map_nil]
          refine call0 rfl (spec_among_x hW pb0 s345 v369 c370 [0, 100, 101] hv372 v375 hx376 (Sep.m1 hS373)) ?_
          rintro _ h380 ⟨c378, rfl, hv379, hS381⟩
          obtain ⟨x382, hx383, hF384⟩ := bind_some' hF377
          simp only [run_ia, put_at, put_no, ev_t, ev_c, reduceIte, Nat.reduceEqDiff, List.map_cons, List.map_nil]
          obtain ⟨b385, hb386⟩ := SlF.isrow hv325 (geti_ne hx383)
          refine put1_eq (SlF.ia hv325 hb386 hx383) ?_
          simp only [run_fa, put1_some, Nat.reduceAdd, Nat.zero_add, Nat.add_zero, xfa_ptr, run_st, put_at, put_no, ev_t, ev_c, reduceIte, Nat.reduceEqDiff, List.map_cons,
              List.map_nil]
          refine put2_stF (f := Call.cells) (x' := (Call.mk x382.Client x382.Object x382.Write x382.Value x382.Begin v375.1)) (o := 5) hv325 (Sep.m2 hS381) hW hb386 hx383
              (fun _ => rfl) rfl rfl (Nat.le_of_ble_eq_true rfl) rfl (fun c389 h387 hv390 hS388 => ?_)
          have hx391 := geti_set (x' := (Call.mk x382.Client x382.Object x382.Write x382.Value x382.Begin v375.1)) hx383
          simp only [put_no, run_ops_nil, run_seq, run_reg, f366, run_mv, run_ret, put_at, ev_t, ev_c, reduceIte, Nat.reduceEqDiff, List.map_cons, List.map_nil]
          have he := some_inj hF384
          subst he
          simp only [end_ret1, put_at, put_no, ev_t, ev_c, reduceIte, Nat.reduceEqDiff, List.map_cons, List.map_nil]
          exact ⟨v323, c389, by first | trivial | rfl, hv390, (Sep.m1 (Sep.m1 (Sep.dc (Sep.m2 hS388))))⟩
        · rw [iteF hc368] at hk348
          simp only [run_skip, run_seq, run_reg, f366, run_mv, run_ops_nil, run_ret, put_at, put_no, ev_t, ev_c, reduceIte, Nat.reduceEqDiff, List.map_cons, List.map_nil]
          have he := some_inj hk348
          subst he
          simp only [end_ret1, put_at, put_no, ev_t, ev_c, reduceIte, Nat.reduceEqDiff, List.map_cons, List.map_nil]
          exact ⟨v323, c324, by first | trivial | rfl, hv325, (Sep.m1 hS364)⟩
theorem spec_DrawGoodCalls_x {W : Nat → Bool} {h : Heap} (hW : ∀ b,
    h.length ≤ b → W b = true) (k : Nat) (code_0 : List Int) (r : List Call) (hF : spec_DrawGoodCalls k code_0 = some r) : Ret E W 59 [lst cU8 code_0] h (fun v h' => ∃ rv0 rc0,
    v = rv0 ∧ SlF Call.cells 6 55 rv0 r rc0 ∧ Sep h' h.length (rc0 ++ ([]))) := by
  refine Ret.of (fn := x59) rfl (Run.of ?_)
  unfold spec_DrawGoodCalls at hF
  have zf0 : argFr [lst cU8 code_0] 0 = lst cU8 code_0 := rfl
  generalize argFr [lst cU8 code_0] = fr0 at zf0 ⊢
  have hS : Sep h h.length [] := Sep.nil h
  simp only [x59, run_seq, run_reg, run_mv, run_ops_nil, x59_1, zf0, run_build, evp, put_at, put_no, ev_t, ev_c, reduceIte, Nat.reduceEqDiff, List.map_cons, List.map_nil]
  refine put1_eq (v := .agg [lst cU8 code_0, .int .i64 0, .int .u64 0]) rfl ?_
  simp only [run_box, put_at, put_no, ev_t, ev_c, reduceIte, Nat.reduceEqDiff, List.map_cons, List.map_nil]
  refine put2_boxC (cs := [lst cU8 code_0, .int .i64 0, .int .u64 0]) hS rfl rfl rfl (fun b1 h2 hS3 => ?_)
  obtain ⟨v5, hx6, hF7⟩ := bind_some' hF
  simp only [run_mv, run_ops_nil, run_seq, run_reg, run_call, put_at, put_no, ev_t, ev_c, reduceIte, Nat.reduceEqDiff, List.map_cons, List.map_nil]
  refine call0 rfl (spec_calls_x hW k b1 (L1Cur.mk code_0 0 0) v5 hx6 hS3) ?_
  rintro v8 h12 ⟨_, c9, rfl, hv10, hS13⟩
  simp only [run_mv, run_ops_nil, run_ret, put_at, put_no, ev_t, ev_c, reduceIte, Nat.reduceEqDiff, List.map_cons, List.map_nil]
  have he := some_inj hF7
  subst he
  simp only [end_ret1, put_at, put_no, ev_t, ev_c, reduceIte, Nat.reduceEqDiff, List.map_cons, List.map_nil]
  exact ⟨v8, c9, by first | trivial | rfl, hv10, (Sep.dc (Sep.m1 hS13))⟩
theorem spec_DrawIsLinear_x {W : Nat → Bool} {h : Heap} (hW : ∀ b,
    h.length ≤ b → W b = true) (k : Nat) (code_0 : List Int) (r : List Call) (hF : spec_DrawIsLinear k code_0 = some r) : Ret E W 32 [lst cU8 code_0] h (fun v h' => ∃ rv0 rc0,
    v = rv0 ∧ SlF Call.cells 6 55 rv0 r rc0 ∧ Sep h' h.length (rc0 ++ ([]))) := by
  refine Ret.of (fn := x32) rfl (Run.of ?_)
  unfold spec_DrawIsLinear at hF
  have zf0 : argFr [lst cU8 code_0] 0 = lst cU8 code_0 := rfl
  generalize argFr [lst cU8 code_0] = fr0 at zf0 ⊢
  have hS : Sep h h.length [] := Sep.nil h
  obtain ⟨v1, hx2, hF3⟩ := bind_some' hF
  simp only [x32, run_seq, run_reg, run_mv, run_ops_nil, zf0, run_call, put_at, put_no, ev_t, ev_c, reduceIte, Nat.reduceEqDiff, List.map_cons, List.map_nil]
  refine call2 rfl hS (mapM1 snap_lst mapM0) (spec_DrawGoodCalls_x (fun b hb => decide_eq_true hb) k code_0 v1 hx2) ?_
  rintro v4 h8 ⟨_, c5, rfl, hv6, hS9⟩
  refine ⟨_, free_1 (SlF.free1 hv6), hS9, (pf_app (SlF.pf hv6 (fun _ => rfl)) pf_nil), fun h10 hS11 => ?_⟩
  have hS12 : Sep h10 h.length (c5 ++ ([])) := by simpa only [List.append_assoc, List.nil_append] using hS11
  simp only [run_mv, run_ops_nil, run_ret, put_at, put_no, ev_t, ev_c, reduceIte, Nat.reduceEqDiff, List.map_cons, List.map_nil]
  have he := some_inj hF3
  subst he
  simp only [end_ret1, put_at, put_no, ev_t, ev_c, reduceIte, Nat.reduceEqDiff, List.map_cons, List.map_nil]
  exact ⟨v4, c5, by first | trivial | rfl, hv6, hS12⟩
end Go.Proofs.Ytddkoiapboeemaa.X
namespace Go.Proofs.Ytddkoiapboeemaa.X
open Go
theorem impl_OverlapsIn_x {W : Nat → Bool} {h : Heap} (hW : ∀ b,
    h.length ≤ b → W b = true) (l_0 : List Call) (r : Int × Bool) (hF : impl_OverlapsIn l_0 = some r) : Ret E W 33 [lst Call.cells l_0] h
    (fun v h' => cut h.length h' E.sz false 9 v = some (.tup [.int .i64 r.1, .bool r.2])) := by
  refine Ret.of (fn := x33) rfl (Run.of ?_)
  unfold impl_OverlapsIn at hF
  have zf0 : argFr [lst Call.cells l_0] 0 = lst Call.cells l_0 := rfl
  generalize argFr [lst Call.cells l_0] = fr0 at zf0 ⊢
  have hS : Sep h h.length [] := Sep.nil h
  obtain ⟨v1, hx2, hF3⟩ := bind_some' hF
  simp only [x33, run_seq, run_reg, run_mv, run_ops_nil, x33_13, zf0, run_call, put_at, put_no, ev_t, ev_c, reduceIte, Nat.reduceEqDiff, List.map_cons, List.map_nil]
  refine call1 rfl (mapM1 snap_lst mapM0) (impl_areCalls_x (fun b hb => decide_eq_true hb) l_0 v1 hx2) ?_
  simp only [run_un, put1_some, xnot, run_ops_nil, x33_1, run_cond, put_at, put_no, ev_t, ev_c, reduceIte, Nat.reduceEqDiff, List.map_cons, List.map_nil]
  refine cond_split (t := (!v1)) (fun hc4 => ?_) (fun hc4 => ?_)
  · rw [iteT hc4] at hF3
    simp only [run_seq, run_reg, run_mv, run_ops_nil, run_ret, put_at, put_no, ev_t, ev_c, reduceIte, Nat.reduceEqDiff, List.map_cons, List.map_nil]
    have he := some_inj hF3
    subst he
    simp only [end_ret2, put_at, put_no, ev_t, ev_c, reduceIte, Nat.reduceEqDiff, List.map_cons, List.map_nil]
    exact cut_tup (mapM1 rfl (mapM1 rfl mapM0))
  · rw [iteF hc4] at hF3
    simp only [run_skip, x33_12, run_seq, run_reg, run_mv, run_ops_nil, x33_11, zf0, run_len, put1_some, xlen_lst, put_at, put_no, ev_t, ev_c, reduceIte, Nat.reduceEqDiff,
        List.map_cons, List.map_nil]
    obtain ⟨oc9, hX11, hk12⟩ := jn_some hF3
    simp only [x33_10]
    refine rangeL_j (σ := Int) l_0 (fun i7 x8 s111 => impl_OverlapsIn_b2 l_0 i7 x8 s111)
        (fun s fr' h' => fr' 0 = lst Call.cells l_0 ∧ fr' 4 = .int .i64 s ∧ fr' 12 = lst Call.cells l_0 ∧ Sep h' h.length ([])) hX11 ⟨by simp only [zf0, put_at, put_no, ev_t,
        ev_c, reduceIte, Nat.reduceEqDiff, List.map_cons, List.map_nil], by simp only [put_at, put_no, ev_t, ev_c, reduceIte, Nat.reduceEqDiff, List.map_cons, List.map_nil],
        by simp only [put_at, put_no, ev_t, ev_c, reduceIte, Nat.reduceEqDiff, List.map_cons, List.map_nil], hS⟩ (by simp only [put_at, put_no, ev_t, ev_c, reduceIte,
        Nat.reduceEqDiff, List.map_cons, List.map_nil]) (by simp only [put_at, put_no, ev_t, ev_c, reduceIte, Nat.reduceEqDiff, List.map_cons,
        List.map_nil]) (fun _ _ _ h => h) rfl rfl (fun _ _ _ _ h => h) (fun _ _ _ _ h => h) (fun _ _ _ _ h => h) (by decide) ?_ ?_
    · rintro i7 x8 s6 fr21 h22 hx27 ⟨f24, f25, f26, hS23⟩ f28 f29 oc10 hF13 hr14 Q15 hN16 hB20 hK17 hR18 hE19
      unfold impl_OverlapsIn_b2 at hF13
      simp only [x33_8, run_seq, run_reg, f28, run_mv, f26, run_ia, put_at, put_no, ev_t, ev_c, reduceIte, Nat.reduceEqDiff, List.map_cons, List.map_nil]
      refine put1_eq (v := .ref (Call.cells x8) 0) (xia_lstN hx27 rfl) ?_
      simp only [run_ld, put_at, put_no, ev_t, ev_c, reduceIte, Nat.reduceEqDiff, List.map_cons, List.map_nil]
      refine put1_eq (v := .agg [.int .i64 x8.Client, .int .i64 x8.Object, .bool x8.Write, .int .i64 x8.Value, .int .i64 x8.Begin, .int .i64 x8.End]) rfl ?_
      simp only [run_new, put_at, put_no, ev_t, ev_c, reduceIte, Nat.reduceEqDiff, List.map_cons, List.map_nil]
      refine put2_newC hS23 (fun b30 h31 hS32 => ?_)
      simp only [run_mv, run_st, put_at, put_no, ev_t, ev_c, reduceIte, Nat.reduceEqDiff, List.map_cons, List.map_nil]
      refine put2_stC (cs' := [.int .i64 x8.Client, .int .i64 x8.Object, .bool x8.Write, .int .i64 x8.Value, .int .i64 x8.Begin,
          .int .i64 x8.End]) hS32 hW rfl rfl (Nat.le_of_ble_eq_true rfl) rfl (fun h34 hS35 => ?_)
      simp only [put_no, run_ops_nil, put_at, ev_t, ev_c, reduceIte, Nat.reduceEqDiff, List.map_cons, List.map_nil]
      refine frz_stepC hS35 hW (by simp only [put_at, put_no, ev_t, ev_c, reduceIte, Nat.reduceEqDiff, List.map_cons, List.map_nil]) (fun h36 hS37 => ?_)
      obtain ⟨l38, hx39, hF40⟩ := bind_some' hF13
      simp only [run_frz_nil, x33_7, run_seq, run_reg, f24, run_mv, run_slc, Option.map_some, Option.map_none, put_at, put_no, ev_t, ev_c, reduceIte, Nat.reduceEqDiff,
          List.map_cons, List.map_nil]
      refine put1_eq (pslc_lst_hi hx39 (fun _ => rfl)) ?_
      simp only [run_len, put1_some, xlen_lst, run_mv, run_ops_nil, put_at, put_no, ev_t, ev_c, reduceIte, Nat.reduceEqDiff, List.map_cons, List.map_nil]
      obtain ⟨oc45, hX47, hk48⟩ := jn_some hF40
      simp only [x33_6]
      refine rangeL_j (σ := Int) l38 (fun i43 x44 s97 => impl_OverlapsIn_b1 x8 i43 x44 s97)
          (fun s fr' h' => fr' 0 = lst Call.cells l_0 ∧ fr' 4 = .int .i64 s ∧ fr' 6 = .ref [.int .i64 x8.Client, .int .i64 x8.Object, .bool x8.Write, .int .i64 x8.Value,
          .int .i64 x8.Begin, .int .i64 x8.End] 0 ∧ fr' 12 = lst Call.cells l_0 ∧ fr' 13 = .int .i64 (List.length l_0 : Int) ∧ fr' 14 = .int .i64
          (i7 : Int) ∧ fr' 21 = lst Call.cells l38 ∧ Sep h' h.length ([])) hX47 ⟨by simp only [f24, put_at, put_no, ev_t, ev_c, reduceIte, Nat.reduceEqDiff, List.map_cons,
          List.map_nil], by simp only [f25, put_at, put_no, ev_t, ev_c, reduceIte, Nat.reduceEqDiff, List.map_cons, List.map_nil], by simp only [put_at, put_no, ev_t, ev_c,
          reduceIte, Nat.reduceEqDiff, List.map_cons, List.map_nil], by simp only [f26, put_at, put_no, ev_t, ev_c, reduceIte, Nat.reduceEqDiff, List.map_cons, List.map_nil],
          by simp only [f29, put_at, put_no, ev_t, ev_c, reduceIte, Nat.reduceEqDiff, List.map_cons, List.map_nil], by simp only [f28, put_at, put_no, ev_t, ev_c, reduceIte,
          Nat.reduceEqDiff, List.map_cons, List.map_nil], by simp only [put_at, put_no, ev_t, ev_c, reduceIte, Nat.reduceEqDiff, List.map_cons, List.map_nil],
          hS37⟩ (by simp only [put_at, put_no, ev_t, ev_c, reduceIte, Nat.reduceEqDiff, List.map_cons, List.map_nil]) (by simp only [put_at, put_no, ev_t, ev_c, reduceIte,
          Nat.reduceEqDiff, List.map_cons, List.map_nil]) (fun _ _ _ h => h) rfl rfl (fun _ _ _ _ h => h) (fun _ _ _ _ h => h) (fun _ _ _ _ h => h) (by decide) ?_ ?_
      · rintro i43 x44 s42 fr57 h58 hx67 ⟨f60, f61, f62, f63, f64, f65, f66, hS59⟩ f68 f69 oc46 hF49 hr50 Q51 hN52 hB56 hK53 hR54 hE55
        unfold impl_OverlapsIn_b1 at hF49
        simp only [x33_4, run_seq, run_reg, f66, f68, run_ia, put_at, put_no, ev_t, ev_c, reduceIte, Nat.reduceEqDiff, List.map_cons, List.map_nil]
        refine put1_eq (v := .ref (Call.cells x44) 0) (xia_lstN hx67 rfl) ?_
        simp only [run_ld, put_at, put_no, ev_t, ev_c, reduceIte, Nat.reduceEqDiff, List.map_cons, List.map_nil]
        refine put1_eq (v := .agg [.int .i64 x44.Client, .int .i64 x44.Object, .bool x44.Write, .int .i64 x44.Value, .int .i64 x44.Begin, .int .i64 x44.End]) rfl ?_
        simp only [run_new, put_at, put_no, ev_t, ev_c, reduceIte, Nat.reduceEqDiff, List.map_cons, List.map_nil]
        refine put2_newC hS59 (fun b70 h71 hS72 => ?_)
        simp only [run_st, put_at, put_no, ev_t, ev_c, reduceIte, Nat.reduceEqDiff, List.map_cons, List.map_nil]
        refine put2_stC (cs' := [.int .i64 x44.Client, .int .i64 x44.Object, .bool x44.Write, .int .i64 x44.Value, .int .i64 x44.Begin,
            .int .i64 x44.End]) hS72 hW rfl rfl (Nat.le_of_ble_eq_true rfl) rfl (fun h74 hS75 => ?_)
        simp only [put_no, run_ops_nil, put_at, ev_t, ev_c, reduceIte, Nat.reduceEqDiff, List.map_cons, List.map_nil]
        refine frz_stepC hS75 hW (by simp only [put_at, put_no, ev_t, ev_c, reduceIte, Nat.reduceEqDiff, List.map_cons, List.map_nil]) (fun h76 hS77 => ?_)
        simp only [run_frz_nil, x33_3, run_seq, run_reg, f62, run_fa, put1_some, Nat.reduceAdd, Nat.zero_add, Nat.add_zero, xfa_ref, run_ld, put_at, put_no, ev_t, ev_c, reduceIte,
            Nat.reduceEqDiff, List.map_cons, List.map_nil]
        refine put1_eq (v := .int .i64 x8.Begin) rfl ?_
        simp only [run_fa, put1_some, Nat.reduceAdd, Nat.zero_add, Nat.add_zero, xfa_ref, run_ld, put_at, put_no, ev_t, ev_c, reduceIte, Nat.reduceEqDiff, List.map_cons,
            List.map_nil]
        refine put1_eq (v := .int .i64 x44.End) rfl ?_
        simp only [run_bin, put1_some, xlss, run_mv, put_at, put_no, ev_t, ev_c, reduceIte, Nat.reduceEqDiff, List.map_cons, List.map_nil]
        refine ops_j 6 (fun fr' h' => Sep h' h.length ([]) ∧ fr' 38 = .bool ((decide (x8.Begin < x44.End)) && (decide
            (x44.Begin < x8.End))) ∧ fr' 0 = lst Call.cells l_0 ∧ fr' 4 = .int .i64 s42 ∧ fr' 6 = .ref [.int .i64 x8.Client, .int .i64 x8.Object, .bool x8.Write,
            .int .i64 x8.Value, .int .i64 x8.Begin,
            .int .i64 x8.End] 0 ∧ fr' 12 = lst Call.cells l_0 ∧ fr' 13 = .int .i64 (List.length l_0 : Int) ∧ fr' 14 = .int .i64
            (i7 : Int) ∧ fr' 21 = lst Call.cells l38 ∧ fr' 22 = .int .i64 (List.length l38 : Int) ∧ fr' 23 = .int .i64 (i43 : Int)) (fun Q78 hN79 => ?_) ?_
        · simp only [List.take_succ_cons, List.take_zero]
          simp only [run_guard (g := 32), put_at, put_no, ev_t, ev_c, reduceIte, Nat.reduceEqDiff, List.map_cons, List.map_nil]
          refine guard_split (t := (decide (x8.Begin < x44.End))) (fun hg80 => ?_) (fun hg80 => ?_)
          · simp only [hg80, run_guard (g := 32), guard_true, run_fa, put1_some, Nat.reduceAdd, Nat.zero_add, Nat.add_zero, xfa_ref, run_ld, put_at, put_no, ev_t, ev_c, reduceIte,
              Nat.reduceEqDiff, List.map_cons, List.map_nil]
            refine put1_eq (v := .int .i64 x44.Begin) rfl ?_
            simp only [hg80, run_guard (g := 32), guard_true, f62, run_fa, put1_some, Nat.reduceAdd, Nat.zero_add, Nat.add_zero, xfa_ref, run_ld, put_at, put_no, ev_t, ev_c,
                reduceIte, Nat.reduceEqDiff, List.map_cons, List.map_nil]
            refine put1_eq (v := .int .i64 x8.End) rfl ?_
            simp only [hg80, run_guard (g := 32), guard_true, run_bin, put1_some, xlss, run_pick, xpick_t, run_ops_nil, run_nil, put_at, put_no, ev_t, ev_c, reduceIte,
                Nat.reduceEqDiff, List.map_cons, List.map_nil]
            exact hN79 _ _ ⟨hS77, by rw [andT hg80]; simp only [put_at, put_no, ev_t, ev_c, reduceIte, Nat.reduceEqDiff, List.map_cons, List.map_nil], by simp only [f60, put_at,
                put_no, ev_t, ev_c, reduceIte, Nat.reduceEqDiff, List.map_cons, List.map_nil], by simp only [f61, put_at, put_no, ev_t, ev_c, reduceIte, Nat.reduceEqDiff,
                List.map_cons, List.map_nil], by simp only [f62, put_at, put_no, ev_t, ev_c, reduceIte, Nat.reduceEqDiff, List.map_cons, List.map_nil], by simp only [f63, put_at,
                put_no, ev_t, ev_c, reduceIte, Nat.reduceEqDiff, List.map_cons, List.map_nil], by simp only [f64, put_at, put_no, ev_t, ev_c, reduceIte, Nat.reduceEqDiff,
                List.map_cons, List.map_nil], by simp only [f65, put_at, put_no, ev_t, ev_c, reduceIte, Nat.reduceEqDiff, List.map_cons, List.map_nil], by simp only [f66, put_at,
                put_no, ev_t, ev_c, reduceIte, Nat.reduceEqDiff, List.map_cons, List.map_nil], by simp only [f69, put_at, put_no, ev_t, ev_c, reduceIte, Nat.reduceEqDiff,
                List.map_cons, List.map_nil], by simp only [f68, put_at, put_no, ev_t, ev_c, reduceIte, Nat.reduceEqDiff, List.map_cons, List.map_nil]⟩
          · simp only [hg80, run_guard (g := 32), guard_off, run_pick, put1_some, xpick_f, run_ops_nil, run_nil, put_at, put_no, ev_t, ev_c, reduceIte, Nat.reduceEqDiff,
              List.map_cons, List.map_nil]
            exact hN79 _ _ ⟨hS77, by rw [andF hg80]; simp only [put_at, put_no, ev_t, ev_c, reduceIte, Nat.reduceEqDiff, List.map_cons, List.map_nil], by simp only [f60, put_at,
                put_no, ev_t, ev_c, reduceIte, Nat.reduceEqDiff, List.map_cons, List.map_nil], by simp only [f61, put_at, put_no, ev_t, ev_c, reduceIte, Nat.reduceEqDiff,
                List.map_cons, List.map_nil], by simp only [f62, put_at, put_no, ev_t, ev_c, reduceIte, Nat.reduceEqDiff, List.map_cons, List.map_nil], by simp only [f63, put_at,
                put_no, ev_t, ev_c, reduceIte, Nat.reduceEqDiff, List.map_cons, List.map_nil], by simp only [f64, put_at, put_no, ev_t, ev_c, reduceIte, Nat.reduceEqDiff,
                List.map_cons, List.map_nil], by simp only [f65, put_at, put_no, ev_t, ev_c, reduceIte, Nat.reduceEqDiff, List.map_cons, List.map_nil], by simp only [f66, put_at,
                put_no, ev_t, ev_c, reduceIte, Nat.reduceEqDiff, List.map_cons, List.map_nil], by simp only [f69, put_at, put_no, ev_t, ev_c, reduceIte, Nat.reduceEqDiff,
                List.map_cons, List.map_nil], by simp only [f68, put_at, put_no, ev_t, ev_c, reduceIte, Nat.reduceEqDiff, List.map_cons, List.map_nil]⟩
        · rintro fr81 h92 ⟨hS93, f82, f83, f84, f85, f86, f87, f88, f89, f90, f91⟩
          simp only [List.drop_succ_cons, List.drop_zero]
          simp only [run_ops_nil, x33_2, f82, run_cond, put_at, put_no, ev_t, ev_c, reduceIte, Nat.reduceEqDiff, List.map_cons, List.map_nil]
          refine cond_split (t := ((decide (x8.Begin < x44.End)) && (decide (x44.Begin < x8.End)))) (fun hc94 => ?_) (fun hc94 => ?_)
          · rw [iteT hc94] at hF49
            simp only [run_reg, f84, run_mv, run_bin, put1_some, xadd, run_ops_nil, run_nil, put_at, put_no, ev_t, ev_c, reduceIte, Nat.reduceEqDiff, List.map_cons, List.map_nil]
            have e95 := some_inj hF49
            exact hN52 _ _ _ e95.symm ⟨by simp only [f83, put_at, put_no, ev_t, ev_c, reduceIte, Nat.reduceEqDiff, List.map_cons, List.map_nil], by simp only [put_at, put_no,
                ev_t, ev_c, reduceIte, Nat.reduceEqDiff, List.map_cons, List.map_nil], by simp only [f85, put_at, put_no, ev_t, ev_c, reduceIte, Nat.reduceEqDiff, List.map_cons,
                List.map_nil], by simp only [f86, put_at, put_no, ev_t, ev_c, reduceIte, Nat.reduceEqDiff, List.map_cons, List.map_nil], by simp only [f87, put_at, put_no, ev_t,
                ev_c, reduceIte, Nat.reduceEqDiff, List.map_cons, List.map_nil], by simp only [f88, put_at, put_no, ev_t, ev_c, reduceIte, Nat.reduceEqDiff, List.map_cons,
                List.map_nil], by simp only [f89, put_at, put_no, ev_t, ev_c, reduceIte, Nat.reduceEqDiff, List.map_cons, List.map_nil], hS93⟩ (by simp only [f91, put_at, put_no,
                ev_t, ev_c, reduceIte, Nat.reduceEqDiff, List.map_cons, List.map_nil]) (by simp only [f90, put_at, put_no, ev_t, ev_c, reduceIte, Nat.reduceEqDiff, List.map_cons,
                List.map_nil])
          · rw [iteF hc94] at hF49
            simp only [run_skip, run_nil, put_at, put_no, ev_t, ev_c, reduceIte, Nat.reduceEqDiff, List.map_cons, List.map_nil]
            have e96 := some_inj hF49
            exact hN52 _ _ _ e96.symm ⟨by simp only [f83, put_at, put_no, ev_t, ev_c, reduceIte, Nat.reduceEqDiff, List.map_cons, List.map_nil], by simp only [f84, put_at, put_no,
                ev_t, ev_c, reduceIte, Nat.reduceEqDiff, List.map_cons, List.map_nil], by simp only [f85, put_at, put_no, ev_t, ev_c, reduceIte, Nat.reduceEqDiff, List.map_cons,
                List.map_nil], by simp only [f86, put_at, put_no, ev_t, ev_c, reduceIte, Nat.reduceEqDiff, List.map_cons, List.map_nil], by simp only [f87, put_at, put_no, ev_t,
                ev_c, reduceIte, Nat.reduceEqDiff, List.map_cons, List.map_nil], by simp only [f88, put_at, put_no, ev_t, ev_c, reduceIte, Nat.reduceEqDiff, List.map_cons,
                List.map_nil], by simp only [f89, put_at, put_no, ev_t, ev_c, reduceIte, Nat.reduceEqDiff, List.map_cons, List.map_nil], hS93⟩ (by simp only [f91, put_at, put_no,
                ev_t, ev_c, reduceIte, Nat.reduceEqDiff, List.map_cons, List.map_nil]) (by simp only [f90, put_at, put_no, ev_t, ev_c, reduceIte, Nat.reduceEqDiff, List.map_cons,
                List.map_nil])
      · rintro s98 fr99 h100 rfl ⟨f102, f103, f104, f105, f106, f107, f108, hS101⟩
        dsimp only [jnO] at hk48
        unfold impl_OverlapsIn_j1 at hk48
        simp only [run_nil, put_at, put_no, ev_t, ev_c, reduceIte, Nat.reduceEqDiff, List.map_cons, List.map_nil]
        have e109 := some_inj hk48
        exact hN16 _ _ _ e109.symm ⟨by simp only [f102, put_at, put_no, ev_t, ev_c, reduceIte, Nat.reduceEqDiff, List.map_cons, List.map_nil], by simp only [f103, put_at, put_no,
            ev_t, ev_c, reduceIte, Nat.reduceEqDiff, List.map_cons, List.map_nil], by simp only [f105, put_at, put_no, ev_t, ev_c, reduceIte, Nat.reduceEqDiff, List.map_cons,
            List.map_nil], hS101⟩ (by simp only [f107, put_at, put_no, ev_t, ev_c, reduceIte, Nat.reduceEqDiff, List.map_cons, List.map_nil]) (by simp only [f106, put_at, put_no,
            ev_t, ev_c, reduceIte, Nat.reduceEqDiff, List.map_cons, List.map_nil])
    · rintro s112 fr113 h114 rfl ⟨f116, f117, f118, hS115⟩
      dsimp only [jnO] at hk12
      unfold impl_OverlapsIn_j2 at hk12
      simp only [run_seq, run_reg, f117, run_mv, run_ops_nil, run_ret, put_at, put_no, ev_t, ev_c, reduceIte, Nat.reduceEqDiff, List.map_cons, List.map_nil]
      have he := some_inj hk12
      subst he
      simp only [end_ret2, put_at, put_no, ev_t, ev_c, reduceIte, Nat.reduceEqDiff, List.map_cons, List.map_nil]
      exact cut_tup (mapM1 rfl (mapM1 rfl mapM0))
theorem spec_OverlapsIn_x {W : Nat → Bool} {h : Heap} (hW : ∀ b,
    h.length ≤ b → W b = true) (l_0 : List Call) (r : Int × Bool) (hF : spec_OverlapsIn l_0 = some r) : Ret E W 34 [lst Call.cells l_0] h
    (fun v h' => cut h.length h' E.sz false 9 v = some (.tup [.int .i64 r.1, .bool r.2])) := by
  refine Ret.of (fn := x34) rfl (Run.of ?_)
  unfold spec_OverlapsIn at hF
  have zf0 : argFr [lst Call.cells l_0] 0 = lst Call.cells l_0 := rfl
  generalize argFr [lst Call.cells l_0] = fr0 at zf0 ⊢
  have hS : Sep h h.length [] := Sep.nil h
  obtain ⟨v1, hx2, hF3⟩ := bind_some' hF
  simp only [x34, run_seq, run_reg, run_mv, run_ops_nil, x34_13, zf0, run_call, put_at, put_no, ev_t, ev_c, reduceIte, Nat.reduceEqDiff, List.map_cons, List.map_nil]
  refine call1 rfl (mapM1 snap_lst mapM0) (spec_GoodCalls_x (fun b hb => decide_eq_true hb) l_0 v1 hx2) ?_
  simp only [run_un, put1_some, xnot, run_ops_nil, x34_1, run_cond, put_at, put_no, ev_t, ev_c, reduceIte, Nat.reduceEqDiff, List.map_cons, List.map_nil]
  refine cond_split (t := (!v1)) (fun hc4 => ?_) (fun hc4 => ?_)
  · rw [iteT hc4] at hF3
    simp only [run_seq, run_reg, run_mv, run_ops_nil, run_ret, put_at, put_no, ev_t, ev_c, reduceIte, Nat.reduceEqDiff, List.map_cons, List.map_nil]
    have he := some_inj hF3
    subst he
    simp only [end_ret2, put_at, put_no, ev_t, ev_c, reduceIte, Nat.reduceEqDiff, List.map_cons, List.map_nil]
    exact cut_tup (mapM1 rfl (mapM1 rfl mapM0))
  · rw [iteF hc4] at hF3
    simp only [run_skip, x34_12, run_seq, run_reg, run_mv, run_ops_nil, x34_11, zf0, run_len, put1_some, xlen_lst, put_at, put_no, ev_t, ev_c, reduceIte, Nat.reduceEqDiff,
        List.map_cons, List.map_nil]
    obtain ⟨oc9, hX11, hk12⟩ := jn_some hF3
    simp only [x34_10]
    refine rangeL_j (σ := Int) l_0 (fun i7 x8 s111 => spec_OverlapsIn_b2 l_0 i7 x8 s111)
        (fun s fr' h' => fr' 0 = lst Call.cells l_0 ∧ fr' 4 = .int .i64 s ∧ fr' 12 = lst Call.cells l_0 ∧ Sep h' h.length ([])) hX11 ⟨by simp only [zf0, put_at, put_no, ev_t,
        ev_c, reduceIte, Nat.reduceEqDiff, List.map_cons, List.map_nil], by simp only [put_at, put_no, ev_t, ev_c, reduceIte, Nat.reduceEqDiff, List.map_cons, List.map_nil],
        by simp only [put_at, put_no, ev_t, ev_c, reduceIte, Nat.reduceEqDiff, List.map_cons, List.map_nil], hS⟩ (by simp only [put_at, put_no, ev_t, ev_c, reduceIte,
        Nat.reduceEqDiff, List.map_cons, List.map_nil]) (by simp only [put_at, put_no, ev_t, ev_c, reduceIte, Nat.reduceEqDiff, List.map_cons,
        List.map_nil]) (fun _ _ _ h => h) rfl rfl (fun _ _ _ _ h => h) (fun _ _ _ _ h => h) (fun _ _ _ _ h => h) (by decide) ?_ ?_
    · rintro i7 x8 s6 fr21 h22 hx27 ⟨f24, f25, f26, hS23⟩ f28 f29 oc10 hF13 hr14 Q15 hN16 hB20 hK17 hR18 hE19
      unfold spec_OverlapsIn_b2 at hF13
      simp only [x34_8, run_seq, run_reg, f28, run_mv, f26, run_ia, put_at, put_no, ev_t, ev_c, reduceIte, Nat.reduceEqDiff, List.map_cons, List.map_nil]
      refine put1_eq (v := .ref (Call.cells x8) 0) (xia_lstN hx27 rfl) ?_
      simp only [run_ld, put_at, put_no, ev_t, ev_c, reduceIte, Nat.reduceEqDiff, List.map_cons, List.map_nil]
      refine put1_eq (v := .agg [.int .i64 x8.Client, .int .i64 x8.Object, .bool x8.Write, .int .i64 x8.Value, .int .i64 x8.Begin, .int .i64 x8.End]) rfl ?_
      simp only [run_new, put_at, put_no, ev_t, ev_c, reduceIte, Nat.reduceEqDiff, List.map_cons, List.map_nil]
      refine put2_newC hS23 (fun b30 h31 hS32 => ?_)
      simp only [run_mv, run_st, put_at, put_no, ev_t, ev_c, reduceIte, Nat.reduceEqDiff, List.map_cons, List.map_nil]
      refine put2_stC (cs' := [.int .i64 x8.Client, .int .i64 x8.Object, .bool x8.Write, .int .i64 x8.Value, .int .i64 x8.Begin,
          .int .i64 x8.End]) hS32 hW rfl rfl (Nat.le_of_ble_eq_true rfl) rfl (fun h34 hS35 => ?_)
      simp only [put_no, run_ops_nil, put_at, ev_t, ev_c, reduceIte, Nat.reduceEqDiff, List.map_cons, List.map_nil]
      refine frz_stepC hS35 hW (by simp only [put_at, put_no, ev_t, ev_c, reduceIte, Nat.reduceEqDiff, List.map_cons, List.map_nil]) (fun h36 hS37 => ?_)
      obtain ⟨l38, hx39, hF40⟩ := bind_some' hF13
      simp only [run_frz_nil, x34_7, run_seq, run_reg, f24, run_mv, run_slc, Option.map_some, Option.map_none, put_at, put_no, ev_t, ev_c, reduceIte, Nat.reduceEqDiff,
          List.map_cons, List.map_nil]
      refine put1_eq (pslc_lst_hi hx39 (fun _ => rfl)) ?_
      simp only [run_len, put1_some, xlen_lst, run_mv, run_ops_nil, put_at, put_no, ev_t, ev_c, reduceIte, Nat.reduceEqDiff, List.map_cons, List.map_nil]
      obtain ⟨oc45, hX47, hk48⟩ := jn_some hF40
      simp only [x34_6]
      refine rangeL_j (σ := Int) l38 (fun i43 x44 s97 => spec_OverlapsIn_b1 x8 i43 x44 s97)
          (fun s fr' h' => fr' 0 = lst Call.cells l_0 ∧ fr' 4 = .int .i64 s ∧ fr' 6 = .ref [.int .i64 x8.Client, .int .i64 x8.Object, .bool x8.Write, .int .i64 x8.Value,
          .int .i64 x8.Begin, .int .i64 x8.End] 0 ∧ fr' 12 = lst Call.cells l_0 ∧ fr' 13 = .int .i64 (List.length l_0 : Int) ∧ fr' 14 = .int .i64
          (i7 : Int) ∧ fr' 21 = lst Call.cells l38 ∧ Sep h' h.length ([])) hX47 ⟨by simp only [f24, put_at, put_no, ev_t, ev_c, reduceIte, Nat.reduceEqDiff, List.map_cons,
          List.map_nil], by simp only [f25, put_at, put_no, ev_t, ev_c, reduceIte, Nat.reduceEqDiff, List.map_cons, List.map_nil], by simp only [put_at, put_no, ev_t, ev_c,
          reduceIte, Nat.reduceEqDiff, List.map_cons, List.map_nil], by simp only [f26, put_at, put_no, ev_t, ev_c, reduceIte, Nat.reduceEqDiff, List.map_cons, List.map_nil],
          by simp only [f29, put_at, put_no, ev_t, ev_c, reduceIte, Nat.reduceEqDiff, List.map_cons, List.map_nil], by simp only [f28, put_at, put_no, ev_t, ev_c, reduceIte,
          Nat.reduceEqDiff, List.map_cons, List.map_nil], by simp only [put_at, put_no, ev_t, ev_c, reduceIte, Nat.reduceEqDiff, List.map_cons, List.map_nil],
          hS37⟩ (by simp only [put_at, put_no, ev_t, ev_c, reduceIte, Nat.reduceEqDiff, List.map_cons, List.map_nil]) (by simp only [put_at, put_no, ev_t, ev_c, reduceIte,
          Nat.reduceEqDiff, List.map_cons, List.map_nil]) (fun _ _ _ h => h) rfl rfl (fun _ _ _ _ h => h) (fun _ _ _ _ h => h) (fun _ _ _ _ h => h) (by decide) ?_ ?_
      · rintro i43 x44 s42 fr57 h58 hx67 ⟨f60, f61, f62, f63, f64, f65, f66, hS59⟩ f68 f69 oc46 hF49 hr50 Q51 hN52 hB56 hK53 hR54 hE55
        unfold spec_OverlapsIn_b1 at hF49
        simp only [x34_4, run_seq, run_reg, f66, f68, run_ia, put_at, put_no, ev_t, ev_c, reduceIte, Nat.reduceEqDiff, List.map_cons, List.map_nil]
        refine put1_eq (v := .ref (Call.cells x44) 0) (xia_lstN hx67 rfl) ?_
        simp only [run_ld, put_at, put_no, ev_t, ev_c, reduceIte, Nat.reduceEqDiff, List.map_cons, List.map_nil]
        refine put1_eq (v := .agg [.int .i64 x44.Client, .int .i64 x44.Object, .bool x44.Write, .int .i64 x44.Value, .int .i64 x44.Begin, .int .i64 x44.End]) rfl ?_
        simp only [run_new, put_at, put_no, ev_t, ev_c, reduceIte, Nat.reduceEqDiff, List.map_cons, List.map_nil]
        refine put2_newC hS59 (fun b70 h71 hS72 => ?_)
        simp only [run_st, put_at, put_no, ev_t, ev_c, reduceIte, Nat.reduceEqDiff, List.map_cons, List.map_nil]
        refine put2_stC (cs' := [.int .i64 x44.Client, .int .i64 x44.Object, .bool x44.Write, .int .i64 x44.Value, .int .i64 x44.Begin,
            .int .i64 x44.End]) hS72 hW rfl rfl (Nat.le_of_ble_eq_true rfl) rfl (fun h74 hS75 => ?_)
        simp only [put_no, run_ops_nil, put_at, ev_t, ev_c, reduceIte, Nat.reduceEqDiff, List.map_cons, List.map_nil]
        refine frz_stepC hS75 hW (by simp only [put_at, put_no, ev_t, ev_c, reduceIte, Nat.reduceEqDiff, List.map_cons, List.map_nil]) (fun h76 hS77 => ?_)
        simp only [run_frz_nil, x34_3, run_seq, run_reg, f62, run_fa, put1_some, Nat.reduceAdd, Nat.zero_add, Nat.add_zero, xfa_ref, run_ld, put_at, put_no, ev_t, ev_c, reduceIte,
            Nat.reduceEqDiff, List.map_cons, List.map_nil]
        refine put1_eq (v := .int .i64 x8.Begin) rfl ?_
        simp only [run_fa, put1_some, Nat.reduceAdd, Nat.zero_add, Nat.add_zero, xfa_ref, run_ld, put_at, put_no, ev_t, ev_c, reduceIte, Nat.reduceEqDiff, List.map_cons,
            List.map_nil]
        refine put1_eq (v := .int .i64 x44.End) rfl ?_
        simp only [run_bin, put1_some, xlss, run_mv, put_at, put_no, ev_t, ev_c, reduceIte, Nat.reduceEqDiff, List.map_cons, List.map_nil]
        refine ops_j 6 (fun fr' h' => Sep h' h.length ([]) ∧ fr' 38 = .bool ((decide (x8.Begin < x44.End)) && (decide
            (x44.Begin < x8.End))) ∧ fr' 0 = lst Call.cells l_0 ∧ fr' 4 = .int .i64 s42 ∧ fr' 6 = .ref [.int .i64 x8.Client, .int .i64 x8.Object, .bool x8.Write,
            .int .i64 x8.Value, .int .i64 x8.Begin,
            .int .i64 x8.End] 0 ∧ fr' 12 = lst Call.cells l_0 ∧ fr' 13 = .int .i64 (List.length l_0 : Int) ∧ fr' 14 = .int .i64
            (i7 : Int) ∧ fr' 21 = lst Call.cells l38 ∧ fr' 22 = .int .i64 (List.length l38 : Int) ∧ fr' 23 = .int .i64 (i43 : Int)) (fun Q78 hN79 => ?_) ?_
        · simp only [List.take_succ_cons, List.take_zero]
          simp only [run_guard (g := 32), put_at, put_no, ev_t, ev_c, reduceIte, Nat.reduceEqDiff, List.map_cons, List.map_nil]
          refine guard_split (t := (decide (x8.Begin < x44.End))) (fun hg80 => ?_) (fun hg80 => ?_)
          · simp only [hg80, run_guard (g := 32), guard_true, run_fa, put1_some, Nat.reduceAdd, Nat.zero_add, Nat.add_zero, xfa_ref, run_ld, put_at, put_no, ev_t, ev_c, reduceIte,
              Nat.reduceEqDiff, List.map_cons, List.map_nil]
            refine put1_eq (v := .int .i64 x44.Begin) rfl ?_
            simp only [hg80, run_guard (g := 32), guard_true, f62, run_fa, put1_some, Nat.reduceAdd, Nat.zero_add, Nat.add_zero, xfa_ref, run_ld, put_at, put_no, ev_t, ev_c,
                reduceIte, Nat.reduceEqDiff, List.map_cons, List.map_nil]
            refine put1_eq (v := .int .i64 x8.End) rfl ?_
            simp only [hg80, run_guard (g := 32), guard_true, run_bin, put1_some, xlss, run_pick, xpick_t, run_ops_nil, run_nil, put_at, put_no, ev_t, ev_c, reduceIte,
                Nat.reduceEqDiff, List.map_cons, List.map_nil]
            exact hN79 _ _ ⟨hS77, by rw [andT hg80]; simp only [put_at, put_no, ev_t, ev_c, reduceIte, Nat.reduceEqDiff, List.map_cons, List.map_nil], by simp only [f60, put_at,
                put_no, ev_t, ev_c, reduceIte, Nat.reduceEqDiff, List.map_cons, List.map_nil], by simp only [f61, put_at, put_no, ev_t, ev_c, reduceIte, Nat.reduceEqDiff,
                List.map_cons, List.map_nil], by simp only [f62, put_at, put_no, ev_t, ev_c, reduceIte, Nat.reduceEqDiff, List.map_cons, List.map_nil], by simp only [f63, put_at,
                put_no, ev_t, ev_c, reduceIte, Nat.reduceEqDiff, List.map_cons, List.map_nil], by simp only [f64, put_at, put_no, ev_t, ev_c, reduceIte, Nat.reduceEqDiff,
                List.map_cons, List.map_nil], by simp only [f65, put_at, put_no, ev_t, ev_c, reduceIte, Nat.reduceEqDiff, List.map_cons, List.map_nil], by simp only [f66, put_at,
                put_no, ev_t, ev_c, reduceIte, Nat.reduceEqDiff, List.map_cons, List.map_nil], by simp only [f69, put_at, put_no, ev_t, ev_c, reduceIte, Nat.reduceEqDiff,
                List.map_cons, List.map_nil], by simp only [f68, put_at, put_no, ev_t, ev_c, reduceIte, Nat.reduceEqDiff, List.map_cons, List.map_nil]⟩
          · simp only [hg80, run_guard (g := 32), guard_off, run_pick, put1_some, xpick_f, run_ops_nil, run_nil, put_at, put_no, ev_t, ev_c, reduceIte, Nat.reduceEqDiff,
              List.map_cons, List.map_nil]
            exact hN79 _ _ ⟨hS77, by rw [andF hg80]; simp only [put_at, put_no, ev_t, ev_c, reduceIte, Nat.reduceEqDiff, List.map_cons, List.map_nil], by simp only [f60, put_at,
                put_no, ev_t, ev_c, reduceIte, Nat.reduceEqDiff, List.map_cons, List.map_nil], by simp only [f61, put_at, put_no, ev_t, ev_c, reduceIte, Nat.reduceEqDiff,
                List.map_cons, List.map_nil], by simp only [f62, put_at, put_no, ev_t, ev_c, reduceIte, Nat.reduceEqDiff, List.map_cons, List.map_nil], by simp only [f63, put_at,
                put_no, ev_t, ev_c, reduceIte, Nat.reduceEqDiff, List.map_cons, List.map_nil], by simp only [f64, put_at, put_no, ev_t, ev_c, reduceIte, Nat.reduceEqDiff,
                List.map_cons, List.map_nil], by simp only [f65, put_at, put_no, ev_t, ev_c, reduceIte, Nat.reduceEqDiff, List.map_cons, List.map_nil], by simp only [f66, put_at,
                put_no, ev_t, ev_c, reduceIte, Nat.reduceEqDiff, List.map_cons, List.map_nil], by simp only [f69, put_at, put_no, ev_t, ev_c, reduceIte, Nat.reduceEqDiff,
                List.map_cons, List.map_nil], by simp only [f68, put_at, put_no, ev_t, ev_c, reduceIte, Nat.reduceEqDiff, List.map_cons, List.map_nil]⟩
        · rintro fr81 h92 ⟨hS93, f82, f83, f84, f85, f86, f87, f88, f89, f90, f91⟩
          simp only [List.drop_succ_cons, List.drop_zero]
          simp only [run_ops_nil, x34_2, f82, run_cond, put_at, put_no, ev_t, ev_c, reduceIte, Nat.reduceEqDiff, List.map_cons, List.map_nil]
          refine cond_split (t := ((decide (x8.Begin < x44.End)) && (decide (x44.Begin < x8.End)))) (fun hc94 => ?_) (fun hc94 => ?_)
          · rw [iteT hc94] at hF49
            simp only [run_reg, f84, run_mv, run_bin, put1_some, xadd, run_ops_nil, run_nil, put_at, put_no, ev_t, ev_c, reduceIte, Nat.reduceEqDiff, List.map_cons, List.map_nil]
            have e95 := some_inj hF49
            exact hN52 _ _ _ e95.symm ⟨by simp only [f83, put_at, put_no, ev_t, ev_c, reduceIte, Nat.reduceEqDiff, List.map_cons, List.map_nil], by simp only [put_at, put_no,
                ev_t, ev_c, reduceIte, Nat.reduceEqDiff, List.map_cons, List.map_nil], by simp only [f85, put_at, put_no, ev_t, ev_c, reduceIte, Nat.reduceEqDiff, List.map_cons,
                List.map_nil], by simp only [f86, put_at, put_no, ev_t, ev_c, reduceIte, Nat.reduceEqDiff, List.map_cons, List.map_nil], by simp only [f87, put_at, put_no, ev_t,
                ev_c, reduceIte, Nat.reduceEqDiff, List.map_cons, List.map_nil], by simp only [f88, put_at, put_no, ev_t, ev_c, reduceIte, Nat.reduceEqDiff, List.map_cons,
                List.map_nil], by simp only [f89, put_at, put_no, ev_t, ev_c, reduceIte, Nat.reduceEqDiff, List.map_cons, List.map_nil], hS93⟩ (by simp only [f91, put_at, put_no,
                ev_t, ev_c, reduceIte, Nat.reduceEqDiff, List.map_cons, List.map_nil]) (by simp only [f90, put_at, put_no, ev_t, ev_c, reduceIte, Nat.reduceEqDiff, List.map_cons,
                List.map_nil])
          · rw [iteF hc94] at hF49
            simp only [run_skip, run_nil, put_at, put_no, ev_t, ev_c, reduceIte, Nat.reduceEqDiff, List.map_cons, List.map_nil]
            have e96 := some_inj hF49
            exact hN52 _ _ _ e96.symm ⟨by simp only [f83, put_at, put_no, ev_t, ev_c, reduceIte, Nat.reduceEqDiff, List.map_cons, List.map_nil], by simp only [f84, put_at, put_no,
                ev_t, ev_c, reduceIte, Nat.reduceEqDiff, List.map_cons, List.map_nil], by simp only [f85, put_at, put_no, ev_t, ev_c, reduceIte, Nat.reduceEqDiff, List.map_cons,
                List.map_nil], by simp only [f86, put_at, put_no, ev_t, ev_c, reduceIte, Nat.reduceEqDiff, List.map_cons, List.map_nil], by simp only [f87, put_at, put_no, ev_t,
                ev_c, reduceIte, Nat.reduceEqDiff, List.map_cons, List.map_nil], by simp only [f88, put_at, put_no, ev_t, ev_c, reduceIte, Nat.reduceEqDiff, List.map_cons,
                List.map_nil], by simp only [f89, put_at, put_no, ev_t, ev_c, reduceIte, Nat.reduceEqDiff, List.map_cons, List.map_nil], hS93⟩ (by simp only [f91, put_at, put_no,
                ev_t, ev_c, reduceIte, Nat.reduceEqDiff, List.map_cons, List.map_nil]) (by simp only [f90, put_at, put_no, ev_t, ev_c, reduceIte, Nat.reduceEqDiff, List.map_cons,
                List.map_nil])
      · rintro s98 fr99 h100 rfl ⟨f102, f103, f104, f105, f106, f107, f108, hS101⟩
        dsimp only [jnO] at hk48
        unfold spec_OverlapsIn_j1 at hk48
        simp only [run_nil, put_at, put_no, ev_t, ev_c, reduceIte, Nat.reduceEqDiff, List.map_cons, List.map_nil]
        have e109 := some_inj hk48
        exact hN16 _ _ _ e109.symm ⟨by simp only [f102, put_at, put_no, ev_t, ev_c, reduceIte, Nat.reduceEqDiff, List.map_cons, List.map_nil], by simp only [f103, put_at, put_no,
            ev_t, ev_c, reduceIte, Nat.reduceEqDiff, List.map_cons, List.map_nil], by simp only [f105, put_at, put_no, ev_t, ev_c, reduceIte, Nat.reduceEqDiff, List.map_cons,
            List.map_nil], hS101⟩ (by simp only [f107, put_at, put_no, ev_t, ev_c, reduceIte, Nat.reduceEqDiff, List.map_cons, List.map_nil]) (by simp only [f106, put_at, put_no,
            ev_t, ev_c, reduceIte, Nat.reduceEqDiff, List.map_cons, List.map_nil])
    · rintro s112 fr113 h114 rfl ⟨f116, f117, f118, hS115⟩
      dsimp only [jnO] at hk12
      unfold spec_OverlapsIn_j2 at hk12
      simp only [run_seq, run_reg, f117, run_mv, run_ops_nil, run_ret, put_at, put_no, ev_t, ev_c, reduceIte, Nat.reduceEqDiff, List.map_cons, List.map_nil]
      have he := some_inj hk12
      subst he
      simp only [end_ret2, put_at, put_no, ev_t, ev_c, reduceIte, Nat.reduceEqDiff, List.map_cons, List.map_nil]
      exact cut_tup (mapM1 rfl (mapM1 rfl mapM0))
theorem laws_sameInts_x {W : Nat → Bool} {h : Heap} (hW : ∀ b,
    h.length ≤ b → W b = true) (a_0 : List Int) (b_1 : List Int) (r : Bool) (hF : laws_sameInts a_0 b_1 = some r) : Ret E W 35 [lst cI a_0,
    lst cI b_1] h (fun v h' => cut h.length h' E.sz false 9 v = some (.bool r)) := by
  refine Ret.of (fn := x35) rfl (Run.of ?_)
  unfold laws_sameInts at hF
  have zf0 : argFr [lst cI a_0, lst cI b_1] 0 = lst cI a_0 := rfl
  have zf1 : argFr [lst cI a_0, lst cI b_1] 1 = lst cI b_1 := rfl
  generalize argFr [lst cI a_0, lst cI b_1] = fr0 at zf0 zf1 ⊢
  have hS : Sep h h.length [] := Sep.nil h
  simp only [x35, run_seq, run_reg, run_mv, run_ops_nil, x35_6, zf0, run_len, put1_some, xlen_lst, zf1, run_bin, xneq, run_cond, put_at, put_no, ev_t, ev_c, reduceIte,
      Nat.reduceEqDiff, List.map_cons, List.map_nil]
  refine cond_split (t := (decide ((List.length a_0 : Int) ≠ (List.length b_1 : Int)))) (fun hc1 => ?_) (fun hc1 => ?_)
  · rw [iteT hc1] at hF
    simp only [run_seq, run_reg, run_mv, run_ops_nil, run_ret, put_at, put_no, ev_t, ev_c, reduceIte, Nat.reduceEqDiff, List.map_cons, List.map_nil]
    have he := some_inj hF
    subst he
    simp only [end_ret1, put_at, put_no, ev_t, ev_c, reduceIte, Nat.reduceEqDiff, List.map_cons, List.map_nil]
    exact rfl
  · rw [iteF hc1] at hF
    simp only [run_skip, x35_5, run_seq, run_reg, zf0, run_mv, run_len, put1_some, xlen_lst, run_ops_nil, put_at, put_no, ev_t, ev_c, reduceIte, Nat.reduceEqDiff, List.map_cons,
        List.map_nil]
    obtain ⟨oc4, hX6, hk7⟩ := jn_some hF
    simp only [x35_4]
    refine rangeL_j (σ := Unit) a_0 (fun i2 x3 _ => laws_sameInts_b1 b_1 i2 x3 ) (fun s fr' h' => fr' 0 = lst cI a_0 ∧ fr' 1 = lst cI b_1 ∧ Sep h' h.length
        ([])) hX6 ⟨by simp only [zf0, put_at, put_no, ev_t, ev_c, reduceIte, Nat.reduceEqDiff, List.map_cons, List.map_nil], by simp only [zf1, put_at, put_no, ev_t, ev_c,
        reduceIte, Nat.reduceEqDiff, List.map_cons, List.map_nil], hS⟩ (by simp only [put_at, put_no, ev_t, ev_c, reduceIte, Nat.reduceEqDiff, List.map_cons,
        List.map_nil]) (by simp only [put_at, put_no, ev_t, ev_c, reduceIte, Nat.reduceEqDiff, List.map_cons,
        List.map_nil]) (fun _ _ _ h => h) rfl rfl (fun _ _ _ _ h => h) (fun _ _ _ _ h => h) (fun _ _ _ _ h => h) (by decide) ?_ ?_
    · rintro i2 x3 _ fr16 h17 hx21 ⟨f19, f20, hS18⟩ f22 f23 oc5 hF8 hr9 Q10 hN11 hB15 hK12 hR13 hE14
      unfold laws_sameInts_b1 at hF8
      simp only [x35_2, run_seq, run_reg, f22, run_mv, run_ops_nil, x35_1, run_draw, f19, d4_mv, put1d_some, d4_ia, put_at, put_no, ev_t, ev_c, reduceIte, Nat.reduceEqDiff,
          List.map_cons, List.map_nil]
      refine put1d_eq (v := .ref (cI x3) 0) (xia_lstN hx21 rfl) ?_
      simp only [d4_ld, put_at, put_no, ev_t, ev_c, reduceIte, Nat.reduceEqDiff, List.map_cons, List.map_nil]
      refine put1d_eq (v := .int .i64 x3) rfl ?_
      obtain ⟨x24, hx25, hF26⟩ := bind_some' hF8
      simp only [f20, d4_mv, put1d_some, d4_ia, put_at, put_no, ev_t, ev_c, reduceIte, Nat.reduceEqDiff, List.map_cons, List.map_nil]
      refine put1d_eq (v := .ref (cI x24) 0) (xia_lst hx25 rfl) ?_
      simp only [d4_ld, put_at, put_no, ev_t, ev_c, reduceIte, Nat.reduceEqDiff, List.map_cons, List.map_nil]
      refine put1d_eq (v := .int .i64 x24) rfl ?_
      simp only [d4_bin, put1d_some, xneq, run_draw_nil, run_cond, put_at, put_no, ev_t, ev_c, reduceIte, Nat.reduceEqDiff, List.map_cons, List.map_nil]
      refine cond_split (t := (decide (x3 ≠ x24))) (fun hc27 => ?_) (fun hc27 => ?_)
      · rw [iteT hc27] at hF26
        simp only [run_seq, run_reg, run_mv, run_ops_nil, run_ret, put_at, put_no, ev_t, ev_c, reduceIte, Nat.reduceEqDiff, List.map_cons, List.map_nil]
        have e28 := some_inj hF26
        subst e28
        have ho29 := hr9 _ rfl
        have hk30 := hk7
        rw [ho29] at hk30
        dsimp only [jnO] at hk30
        apply hR13
        have he := some_inj hk30
        subst he
        simp only [end_ret1, put_at, put_no, ev_t, ev_c, reduceIte, Nat.reduceEqDiff, List.map_cons, List.map_nil]
        exact rfl
      · rw [iteF hc27] at hF26
        simp only [run_skip, run_nil, put_at, put_no, ev_t, ev_c, reduceIte, Nat.reduceEqDiff, List.map_cons, List.map_nil]
        have e31 := some_inj hF26
        exact hN11 _ _ _ e31.symm ⟨by simp only [f19, put_at, put_no, ev_t, ev_c, reduceIte, Nat.reduceEqDiff, List.map_cons, List.map_nil], by simp only [f20, put_at, put_no,
            ev_t, ev_c, reduceIte, Nat.reduceEqDiff, List.map_cons, List.map_nil], hS18⟩ (by simp only [f22, put_at, put_no, ev_t, ev_c, reduceIte, Nat.reduceEqDiff,
            List.map_cons, List.map_nil]) (by simp only [f23, put_at, put_no, ev_t, ev_c, reduceIte, Nat.reduceEqDiff, List.map_cons, List.map_nil])
    · rintro _ fr33 h34 rfl ⟨f36, f37, hS35⟩
      dsimp only [jnO] at hk7
      unfold laws_sameInts_j1 at hk7
      simp only [run_seq, run_reg, run_mv, run_ops_nil, run_ret, put_at, put_no, ev_t, ev_c, reduceIte, Nat.reduceEqDiff, List.map_cons, List.map_nil]
      have he := some_inj hk7
      subst he
      simp only [end_ret1, put_at, put_no, ev_t, ev_c, reduceIte, Nat.reduceEqDiff, List.map_cons, List.map_nil]
      exact rfl
theorem impl_GoodCalls_x {W : Nat → Bool} {h : Heap} (hW : ∀ b,
    h.length ≤ b → W b = true) (l_0 : List Call) (r : Bool) (hF : impl_GoodCalls l_0 = some r) : Ret E W 36 [lst Call.cells l_0] h
    (fun v h' => cut h.length h' E.sz false 9 v = some (.bool r)) := by
  refine Ret.of (fn := x36) rfl (Run.of ?_)
  unfold impl_GoodCalls at hF
  have zf0 : argFr [lst Call.cells l_0] 0 = lst Call.cells l_0 := rfl
  generalize argFr [lst Call.cells l_0] = fr0 at zf0 ⊢
  have hS : Sep h h.length [] := Sep.nil h
  obtain ⟨v1, hx2, hF3⟩ := bind_some' hF
  simp only [x36, run_seq, run_reg, run_mv, run_ops_nil, zf0, run_call, put_at, put_no, ev_t, ev_c, reduceIte, Nat.reduceEqDiff, List.map_cons, List.map_nil]
  refine call1 rfl (mapM1 snap_lst mapM0) (impl_areCalls_x (fun b hb => decide_eq_true hb) l_0 v1 hx2) ?_
  simp only [run_mv, run_ops_nil, run_ret, put_at, put_no, ev_t, ev_c, reduceIte, Nat.reduceEqDiff, List.map_cons, List.map_nil]
  have he := some_inj hF3
  subst he
  simp only [end_ret1, put_at, put_no, ev_t, ev_c, reduceIte, Nat.reduceEqDiff, List.map_cons, List.map_nil]
  exact rfl
end Go.Proofs.Ytddkoiapboeemaa.X
