/- The functions' code comes to what the plain functions say (2). -/
import Derived.Test.YtpkiieniipenjaaXBH1
set_option linter.unusedVariables false
set_option linter.unusedSimpArgs false
set_option maxRecDepth 100000
namespace Go.Proofs.Ytpkiieniipenjaa.X
open Go
open Nat (reduceEqDiff)
theorem impl_Snap_step_x {W : Nat → Bool} {h : Heap} {lo : Nat → Prop} {S0 : List Obj} (hW : ∀ b,
    lo b → W b = true) (pb0 : Nat) (v_0 : Snap) (pv0_0 : XV) (pc0_0 : List Obj) (ph0_0 : SlF cI 1 3 pv0_0 v_0.Amounts pc0_0) (pv0_1 : XV) (pc0_1 : List Obj)
    (ph0_1 : SlN Chan.R 3 74 pv0_1 v_0.Chans pc0_1) (pv0_2 : XV) (pc0_2 : List Obj) (ph0_2 : SlN Picture.R 4 76 pv0_2 v_0.Pictures pc0_2) (v_1 : SnapStep) (r : Bool × Snap)
    (hF : impl_Snap_step v_0 v_1 = some r) (hS : Sep h lo ([Blk1 pb0 [pv0_0, pv0_1, pv0_2, .int .i64 v_0.Sent,
    .int .i64 v_0.Total] 30] ++ (pc0_0 ++ (pc0_1 ++ (pc0_2 ++ (S0)))))) : Ret E W 41 [.ptr pb0 0, .agg [.int .i64 v_1.Kind, .int .i64 v_1.K,
    .int .i64 v_1.N]] h (fun v h' => ∃ ic0_0 ic0_1 ic0_2,
    v = .bool r.1 ∧ SlF cI 1 3 pv0_0 r.2.Amounts ic0_0 ∧ SlN Chan.R 3 74 pv0_1 r.2.Chans ic0_1 ∧ SlN Picture.R 4 76 pv0_2 r.2.Pictures ic0_2 ∧ Sep h' lo ([Blk1 pb0 [pv0_0, pv0_1,
    pv0_2, .int .i64 r.2.Sent, .int .i64 r.2.Total] 30] ++ (ic0_0 ++ (ic0_1 ++ (ic0_2 ++ (S0)))))) := by
  refine Ret.of (fn := x41) rfl (Run.of ?_)
  unfold impl_Snap_step at hF
  have zf0 : argFr [.ptr pb0 0, .agg [.int .i64 v_1.Kind, .int .i64 v_1.K, .int .i64 v_1.N]] 0 = .ptr pb0 0 := rfl
  have zf1 : argFr [.ptr pb0 0, .agg [.int .i64 v_1.Kind, .int .i64 v_1.K, .int .i64 v_1.N]] 1 = .agg [.int .i64 v_1.Kind, .int .i64 v_1.K, .int .i64 v_1.N] := rfl
  generalize argFr [.ptr pb0 0, .agg [.int .i64 v_1.Kind, .int .i64 v_1.K, .int .i64 v_1.N]] = fr0 at zf0 zf1 ⊢
  simp only [x41, run_seq, run_reg, run_box, zf1, B0, reduceIte, reduceEqDiff]
  refine put2_boxC (cs := [.int .i64 v_1.Kind, .int .i64 v_1.K, .int .i64 v_1.N]) hS rfl rfl rfl (fun b1 h2 hS3 => ?_)
  simp only [run_mv, run_ops_nil, B0, reduceIte, reduceEqDiff]
  refine frz_stepC hS3 hW (by simp only [B0, reduceIte, reduceEqDiff]) (fun h5 hS6 => ?_)
  simp only [run_frz_nil, x41_29, run_seq, run_reg, run_fa, put1_some, Nat.reduceAdd, Nat.zero_add, Nat.add_zero, xfa_ref, run_ld, B0, reduceIte, reduceEqDiff]
  refine put1_eq (v := .int .i64 v_1.Kind) rfl ?_
  simp only [run_bin, put1_some, xneq, run_mv, B0, reduceIte, reduceEqDiff]
  refine ops_j 4 (fun fr' h' => Sep h' lo ([Blk1 pb0 [pv0_0, pv0_1, pv0_2, .int .i64 v_0.Sent,
      .int .i64 v_0.Total] 30] ++ (pc0_0 ++ (pc0_1 ++ (pc0_2 ++ (S0))))) ∧ fr' 16 = .bool ((decide (v_1.Kind ≠ 1)) && (decide
      (v_1.N ≠ 0))) ∧ fr' 0 = .ptr pb0 0 ∧ fr' 3 = .ref [.int .i64 v_1.Kind, .int .i64 v_1.K, .int .i64 v_1.N] 0) (fun Q7 hN8 => ?_) ?_
  · simp only [List.take_succ_cons, List.take_zero]
    simp only [run_guard (g := 12), B0, reduceIte, reduceEqDiff]
    refine guard_split (t := (decide (v_1.Kind ≠ 1))) (fun hg9 => ?_) (fun hg9 => ?_)
    · simp only [hg9, run_guard (g := 12), guard_true, run_fa, put1_some, Nat.reduceAdd, Nat.zero_add, Nat.add_zero, xfa_ref, run_ld, B0, reduceIte, reduceEqDiff]
      refine put1_eq (v := .int .i64 v_1.N) rfl ?_
      simp only [hg9, run_guard (g := 12), guard_true, run_bin, put1_some, xneq, run_pick, xpick_t, run_ops_nil, run_nil, B0, reduceIte, reduceEqDiff]
      exact hN8 _ _ ⟨(Sep.m3 (Sep.m3 (Sep.m3 (Sep.m3 hS6)))), by rw [andT hg9]; simp only [B0, reduceIte, reduceEqDiff], zf0, rfl⟩
    · simp only [hg9, run_guard (g := 12), guard_off, run_pick, put1_some, xpick_f, run_ops_nil, run_nil, B0, reduceIte, reduceEqDiff]
      exact hN8 _ _ ⟨(Sep.m3 (Sep.m3 (Sep.m3 (Sep.m3 hS6)))), by rw [andF hg9]; simp only [B0, reduceIte, reduceEqDiff], zf0, rfl⟩
  rintro fr10 h14 ⟨hS15, f11, f12, f13⟩
  simp only [List.drop_succ_cons, List.drop_zero]
  simp only [run_ops_nil, f11, run_cond, B0, reduceIte, reduceEqDiff]
  refine cond_split (t := ((decide (v_1.Kind ≠ 1)) && (decide (v_1.N ≠ 0)))) (fun hc16 => ?_) (fun hc16 => ?_)
  · rw [iteT hc16] at hF
    simp only [run_seq, run_reg, run_mv, run_ops_nil, run_ret, B0, reduceIte, reduceEqDiff]
    have he := some_inj hF
    subst he
    simp only [end_ret1, B0, reduceIte, reduceEqDiff]
    exact ⟨pc0_0, pc0_1, pc0_2, by first | trivial | rfl, ph0_0, ph0_1, ph0_2, (Sep.m3 (Sep.m3 (Sep.m3 (Sep.m3 hS15))))⟩
  rw [iteF hc16] at hF
  simp only [run_skip, x41_28, run_seq, run_reg, f13, run_fa, put1_some, Nat.reduceAdd, Nat.zero_add, Nat.add_zero, xfa_ref, run_ld, B0, reduceIte, reduceEqDiff]
  refine put1_eq (v := .int .i64 v_1.Kind) rfl ?_
  simp only [run_bin, put1_some, xeql, run_ops_nil, x41_2, run_cond, B0, reduceIte, reduceEqDiff]
  refine cond_split (t := (decide (v_1.Kind = 3))) (fun hc17 => ?_) (fun hc17 => ?_)
  · rw [iteT hc17] at hF
    simp only [x41_1, run_seq, run_draw, f13, d4_fa, put1d_some, Nat.reduceAdd, Nat.zero_add, Nat.add_zero, xfa_ref, d4_ld, B0, reduceIte, reduceEqDiff]
    refine put1d_eq (v := .int .i64 v_1.K) rfl ?_
    simp only [f12, d4_mv, put1d_some, d4_chk, xchk_ptr, d4_fa, Nat.reduceAdd, Nat.zero_add, Nat.add_zero, xfa_ptr, d4_ld, B0, reduceIte, reduceEqDiff]
    refine put1d_eq (v := pv0_0) ((xld_b (Sep.bk _ _ _ hS15)).trans rfl) ?_
    simp only [d4_len, put1d_some, SlF.plen ph0_0, d4_bin, xsub, run_d3_call, B0, reduceIte, reduceEqDiff]
    refine call1d rfl (mapM1 snap_int (mapM1 snap_int (mapM1 snap_int mapM0))) (impl_in_x (fun b hb => decide_eq_true hb) v_1.K 0 (IntKind.wrap .i64
        ((List.length v_0.Amounts : Int) - 1)) _ rfl) ?_
    simp only [d4_mv, put1d_some, B0, reduceIte, reduceEqDiff]
    obtain ⟨v21, hx22, hF23⟩ := bind_some' hF
    refine draw_j 11 (fun fr' h' => Sep h' lo ([Blk1 pb0 [pv0_0, pv0_1, pv0_2, .int .i64 v_0.Sent,
        .int .i64 v_0.Total] 30] ++ (pc0_0 ++ (pc0_1 ++ (pc0_2 ++ (S0))))) ∧ fr' 40 = .bool v21 ∧ fr' 0 = .ptr pb0 0 ∧ fr' 3 = .ref [.int .i64 v_1.Kind, .int .i64 v_1.K,
        .int .i64 v_1.N] 0) rfl (fun Q18 hN19 => ?_) ?_
    · simp only [List.take_succ_cons, List.take_zero]
      simp only [run_guardd (g := 29), B0, reduceIte, reduceEqDiff]
      refine guardd_split (t := (impl_in v_1.K 0 (IntKind.wrap .i64 ((List.length v_0.Amounts : Int) - 1)))) (fun hg20 => ?_) (fun hg20 => ?_)
      · rw [iteT hg20] at hx22
        simp only [hg20, run_guardd (g := 29), guardd_true, f12, d4_mv, put1d_some, d4_chk, xchk_ptr, d4_fa, Nat.reduceAdd, Nat.zero_add, Nat.add_zero, xfa_ptr, d4_ld, B0,
            reduceIte, reduceEqDiff]
        refine put1d_eq (v := pv0_2) ((xld_b (Sep.bk _ _ _ hS15)).trans rfl) ?_
        simp only [hg20, run_guardd (g := 29), guardd_true, f13, d4_fa, put1d_some, Nat.reduceAdd, Nat.zero_add, Nat.add_zero, xfa_ref, d4_ld, B0, reduceIte, reduceEqDiff]
        refine put1d_eq (v := .int .i64 v_1.K) rfl ?_
        obtain ⟨x24, hx25, hF26⟩ := bind_some' hx22
        simp only [hg20, run_guardd (g := 29), guardd_true, d4_ia, B0, reduceIte, reduceEqDiff]
        obtain ⟨b27, hb28⟩ := SlN.isrow ph0_2 (geti_ne hx25)
        refine put1d_eq (SlN.ia ph0_2 hb28 hx25) ?_
        obtain ⟨c29, cs30, os31, hv32, hR33, hS34⟩ := SlG.opn (SlN.toG ph0_2 hb28 Picture.RO.len) hx25 hk_nil Picture.RO.len (Sep.m3 hS15)
        obtain ⟨v36, c37, v40, c41, hv38, hv42, rfl, rfl⟩ := hR33
        have hS35 := Sep.no2 hS34
        simp only [hg20, run_guardd (g := 29), guardd_true, d4_fa, put1d_some, Nat.reduceAdd, Nat.zero_add, Nat.add_zero, xfa_ptr, d4_ld, B0, reduceIte, reduceEqDiff]
        refine put1d_eq (v := .bool x24.Taken) ((SlG.ld (o := 0) hv32 rfl hx25 hS35 (Nat.le_of_ble_eq_true rfl)).trans rfl) ?_
        simp only [hg20, run_guardd (g := 29), guardd_true, d4_un, put1d_some, xnot, d4_pick, xpick_t, run_draw_nil, run_nil, B0, reduceIte, reduceEqDiff]
        have e44 := some_inj hF26
        exact hN19 _ _ ⟨(Sep.m3 (Sep.m3 (Sep.m3 (Sep.m3 hS15)))), by rw [← e44]; simp only [B0, reduceIte, reduceEqDiff], f12, f13⟩
      · rw [iteF hg20] at hx22
        simp only [hg20, run_guardd (g := 29), guardd_off, d4_pick, put1d_some, xpick_f, run_draw_nil, run_nil, B0, reduceIte, reduceEqDiff]
        have e45 := some_inj hx22
        exact hN19 _ _ ⟨(Sep.m3 (Sep.m3 (Sep.m3 (Sep.m3 hS15)))), by rw [← e45]; simp only [B0, reduceIte, reduceEqDiff], f12, f13⟩
    rintro fr46 h50 ⟨hS51, f47, f48, f49⟩
    simp only [List.drop_succ_cons, List.drop_zero]
    simp only [f47, d4_mv, put1d_some, B0, reduceIte, reduceEqDiff]
    simp only [run_guardd (g := 41), B0, reduceIte, reduceEqDiff]
    refine guardd_split (t := v21) (fun hg52 => ?_) (fun hg52 => ?_)
    · rw [iteT hg52] at hF23
      simp only [hg52, run_guardd (g := 41), guardd_true, f48, d4_mv, put1d_some, f49, d4_fa, Nat.reduceAdd, Nat.zero_add, Nat.add_zero, xfa_ref, d4_ld, B0, reduceIte,
          reduceEqDiff]
      refine put1d_eq (v := .int .i64 v_1.K) rfl ?_
      obtain ⟨v53, hx54, hF55⟩ := bind_some' hF23
      simp only [hg52, run_guardd (g := 41), guardd_true, run_d3_call, B0, reduceIte, reduceEqDiff]
      refine call0d rfl (impl_Snap_take_x hW pb0 v_0 pv0_0 pc0_0 ph0_0 pv0_1 pc0_1 ph0_1 pv0_2 pc0_2 ph0_2 v_1.K v53 hx54 (Sep.m3 (Sep.m3 (Sep.m3 (Sep.m3 hS51))))) ?_
      rintro _ h62 ⟨c56, c58, c60, rfl, hv57, hv59, hv61, hS63⟩
      simp only [hg52, d4_pick, put1d_some, xpick_t, d4_mv, run_draw_nil, run_ret, B0, reduceIte, reduceEqDiff]
      have he := some_inj hF55
      subst he
      simp only [end_ret1, B0, reduceIte, reduceEqDiff]
      exact ⟨c56, c58, c60, by first | trivial | rfl, hv57, hv59, hv61, (Sep.m3 (Sep.m3 (Sep.m3 (Sep.m3 hS63))))⟩
    rw [iteF hg52] at hF23
    simp only [hg52, run_guardd (g := 41), guardd_off, d4_pick, put1d_some, xpick_f, d4_mv, run_draw_nil, run_ret, B0, reduceIte, reduceEqDiff]
    have he := some_inj hF23
    subst he
    simp only [end_ret1, B0, reduceIte, reduceEqDiff]
    exact ⟨pc0_0, pc0_1, pc0_2, by first | trivial | rfl, ph0_0, ph0_1, ph0_2, (Sep.m3 (Sep.m3 (Sep.m3 (Sep.m3 hS51))))⟩
  rw [iteF hc17] at hF
  simp only [run_skip, x41_27, run_seq, run_draw, f13, d4_fa, put1d_some, Nat.reduceAdd, Nat.zero_add, Nat.add_zero, xfa_ref, d4_ld, B0, reduceIte, reduceEqDiff]
  refine put1d_eq (v := .int .i64 v_1.K) rfl ?_
  simp only [f12, d4_mv, put1d_some, d4_chk, xchk_ptr, d4_fa, Nat.reduceAdd, Nat.zero_add, Nat.add_zero, xfa_ptr, d4_ld, B0, reduceIte, reduceEqDiff]
  refine put1d_eq (v := pv0_1) ((xld_b (Sep.bk _ _ _ hS15)).trans rfl) ?_
  simp only [d4_len, put1d_some, SlN.len ph0_1, d4_bin, xsub, run_d3_call, B0, reduceIte, reduceEqDiff]
  refine call1d rfl (mapM1 snap_int (mapM1 snap_int (mapM1 snap_int mapM0))) (impl_in_x (fun b hb => decide_eq_true hb) v_1.K 0 (IntKind.wrap .i64
      ((List.length v_0.Chans : Int) - 1)) _ rfl) ?_
  simp only [d4_un, put1d_some, xnot, run_draw_nil, run_cond, B0, reduceIte, reduceEqDiff]
  refine cond_split (t := (!(impl_in v_1.K 0 (IntKind.wrap .i64 ((List.length v_0.Chans : Int) - 1))))) (fun hc64 => ?_) (fun hc64 => ?_)
  · rw [iteT hc64] at hF
    simp only [run_seq, run_reg, run_mv, run_ops_nil, run_ret, B0, reduceIte, reduceEqDiff]
    have he := some_inj hF
    subst he
    simp only [end_ret1, B0, reduceIte, reduceEqDiff]
    exact ⟨pc0_0, pc0_1, pc0_2, by first | trivial | rfl, ph0_0, ph0_1, ph0_2, (Sep.m3 (Sep.m3 (Sep.m3 (Sep.m3 hS15))))⟩
  rw [iteF hc64] at hF
  simp only [run_skip, x41_26, run_seq, run_draw, f12, d4_mv, put1d_some, d4_chk, xchk_ptr, d4_fa, Nat.reduceAdd, Nat.zero_add, Nat.add_zero, xfa_ptr, d4_ld, B0, reduceIte,
      reduceEqDiff]
  refine put1d_eq (v := pv0_1) ((xld_b (Sep.bk _ _ _ hS15)).trans rfl) ?_
  simp only [f13, d4_fa, put1d_some, Nat.reduceAdd, Nat.zero_add, Nat.add_zero, xfa_ref, d4_ld, B0, reduceIte, reduceEqDiff]
  refine put1d_eq (v := .int .i64 v_1.K) rfl ?_
  obtain ⟨x65, hx66, hF67⟩ := bind_some' hF
  simp only [d4_ia, B0, reduceIte, reduceEqDiff]
  obtain ⟨b68, hb69⟩ := SlN.isrow ph0_1 (geti_ne hx66)
  refine put1d_eq (SlN.ia ph0_1 hb69 hx66) ?_
  simp only [d4_mv, put1d_some, run_draw_nil, x41_25, run_seq, run_draw, f12, d4_chk, xchk_ptr, d4_fa, Nat.reduceAdd, Nat.zero_add, Nat.add_zero, xfa_ptr, d4_ld, B0, reduceIte,
      reduceEqDiff]
  refine put1d_eq (v := pv0_2) ((xld_b (Sep.bk _ _ _ hS15)).trans rfl) ?_
  obtain ⟨c70, cs71, os72, hv73, hR74, hS75⟩ := SlG.opn (SlN.toG ph0_1 hb69 Chan.RO.len) hx66 hk_nil Chan.RO.len (Sep.m2 hS15)
  obtain ⟨v77, c78, hv79, rfl, rfl⟩ := hR74
  have hS76 := Sep.no1 hS75
  simp only [d4_mv, put1d_some, d4_chk, xchk_ptr, d4_fa, Nat.reduceAdd, Nat.zero_add, Nat.add_zero, xfa_ptr, d4_ld, B0, reduceIte, reduceEqDiff]
  refine put1d_eq (v := .int .i64 x65.To) ((SlG.ld (o := 1) hv73 rfl hx66 hS76 (Nat.le_of_ble_eq_true rfl)).trans rfl) ?_
  obtain ⟨x81, hx82, hF83⟩ := bind_some' hF67
  simp only [d4_ia, B0, reduceIte, reduceEqDiff]
  obtain ⟨b84, hb85⟩ := SlN.isrow ph0_2 (geti_ne hx82)
  refine put1d_eq (SlN.ia ph0_2 hb85 hx82) ?_
  simp only [d4_mv, put1d_some, run_draw_nil, x41_24, run_seq, run_reg, f13, run_fa, put1_some, Nat.reduceAdd, Nat.zero_add, Nat.add_zero, xfa_ref, run_ld, B0, reduceIte,
      reduceEqDiff]
  refine put1_eq (v := .int .i64 v_1.Kind) rfl ?_
  simp only [run_ops_nil, x41_23, run_block, x41_22, run_seq, run_reg, run_bin, put1_some, xeql, run_mv, x41_21, run_cond, B0, reduceIte, reduceEqDiff]
  refine cond_split (t := (decide (v_1.Kind = 1))) (fun hc86 => ?_) (fun hc86 => ?_)
  · rw [iteT hc86] at hF83
    simp only [x41_6, run_seq, run_draw, f13, d4_fa, put1d_some, Nat.reduceAdd, Nat.zero_add, Nat.add_zero, xfa_ref, d4_ld, B0, reduceIte, reduceEqDiff]
    refine put1d_eq (v := .int .i64 v_1.N) rfl ?_
    simp only [f12, d4_mv, put1d_some, d4_chk, xchk_ptr, d4_fa, Nat.reduceAdd, Nat.zero_add, Nat.add_zero, xfa_ptr, d4_ld, B0, reduceIte, reduceEqDiff]
    refine put1d_eq (v := pv0_0) ((xld_b (Sep.bk _ _ _ (Sep.m2 hS76))).trans rfl) ?_
    simp only [d4_mv, put1d_some, d4_chk, xchk_ptr, d4_fa, Nat.reduceAdd, Nat.zero_add, Nat.add_zero, xfa_ptr, d4_ld, B0, reduceIte, reduceEqDiff]
    refine put1d_eq (v := .int .i64 x65.From) ((SlG.ld (o := 0) hv73 rfl hx66 hS76 (Nat.le_of_ble_eq_true rfl)).trans rfl) ?_
    obtain ⟨x87, hx88, hF89⟩ := bind_some' hF83
    simp only [d4_ia, B0, reduceIte, reduceEqDiff]
    obtain ⟨b90, hb91⟩ := SlF.isrow ph0_0 (geti_ne hx88)
    refine put1d_eq (SlF.ia ph0_0 hb91 hx88) ?_
    simp only [d4_ld, B0, reduceIte, reduceEqDiff]
    refine put1d_eq (v := .int .i64 x87) ((SlF.ld (o := 0) ph0_0 (Sep.m3 hS76) hb91 hx88 (fun _ => rfl) (Nat.le_of_ble_eq_true rfl)).trans rfl) ?_
    simp only [run_d3_call, B0, reduceIte, reduceEqDiff]
    refine call1d rfl (mapM1 snap_int (mapM1 snap_int (mapM1 snap_int mapM0))) (impl_in_x (fun b hb => decide_eq_true hb) v_1.N 1 x87 _ rfl) ?_
    simp only [d4_un, put1d_some, xnot, d4_mv, B0, reduceIte, reduceEqDiff]
    refine draw_j 7 (fun fr' h' => Sep h' lo ([Blk1 pb0 [pv0_0, pv0_1, pv0_2, .int .i64 v_0.Sent,
        .int .i64 v_0.Total] 30] ++ (c70 ++ (pc0_0 ++ (pc0_2 ++ (c78 ++ (S0)))))) ∧ fr' 98 = .bool ((!(impl_in v_1.N 1 x87)) || (decide
        ((List.length x65.Way : Int) = 8))) ∧ fr' 0 = .ptr pb0 0 ∧ fr' 3 = .ref [.int .i64 v_1.Kind, .int .i64 v_1.K,
        .int .i64 v_1.N] 0 ∧ fr' 5 = .ptr b68 (v_1.K.toNat * 3)) rfl (fun Q92 hN93 => ?_) ?_
    · simp only [List.take_succ_cons, List.take_zero]
      simp only [run_guardd (g := 91), B0, reduceIte, reduceEqDiff]
      refine guardd_split (t := (!(impl_in v_1.N 1 x87))) (fun hg94 => ?_) (fun hg94 => ?_)
      · simp only [hg94, run_guardd (g := 91), guardd_off', d4_pick, put1d_some, xpick_t, run_draw_nil, run_nil, B0, reduceIte, reduceEqDiff]
        exact hN93 _ _ ⟨(Sep.m4 (Sep.m3 (Sep.m4 (Sep.m4 (Sep.m1 hS76))))), by rw [orT hg94]; simp only [B0, reduceIte, reduceEqDiff], f12, f13, rfl⟩
      · simp only [hg94, run_guardd (g := 91), guardd_false, d4_mv, put1d_some, d4_chk, xchk_ptr, d4_fa, Nat.reduceAdd, Nat.zero_add, Nat.add_zero, xfa_ptr, d4_ld, B0, reduceIte,
          reduceEqDiff]
        refine put1d_eq (v := v77) ((SlG.ld (o := 2) hv73 rfl hx66 hS76 (Nat.le_of_ble_eq_true rfl)).trans rfl) ?_
        simp only [hg94, run_guardd (g := 91), guardd_false, d4_len, put1d_some, SlF.plen hv79, d4_bin, xeql, d4_pick, xpick_f, run_draw_nil, run_nil, B0, reduceIte, reduceEqDiff]
        exact hN93 _ _ ⟨(Sep.m4 (Sep.m3 (Sep.m4 (Sep.m4 (Sep.m1 hS76))))), by rw [orF hg94]; simp only [B0, reduceIte, reduceEqDiff], f12, f13, rfl⟩
    rintro fr95 h100 ⟨hS101, f96, f97, f98, f99⟩
    simp only [List.drop_succ_cons, List.drop_zero]
    simp only [f96, d4_mv, put1d_some, B0, reduceIte, reduceEqDiff]
    refine draw_j 6 (fun fr' h' => Sep h' lo ([Blk1 pb0 [pv0_0, pv0_1, pv0_2, .int .i64 v_0.Sent,
        .int .i64 v_0.Total] 30] ++ (c70 ++ (pc0_0 ++ (pc0_2 ++ (c78 ++ (S0)))))) ∧ fr' 105 = .bool (((!(impl_in v_1.N 1 x87)) || (decide ((List.length x65.Way : Int) = 8))) ||
        (decide (v_0.Sent = 1000))) ∧ fr' 0 = .ptr pb0 0 ∧ fr' 3 = .ref [.int .i64 v_1.Kind, .int .i64 v_1.K,
        .int .i64 v_1.N] 0 ∧ fr' 5 = .ptr b68 (v_1.K.toNat * 3)) rfl (fun Q102 hN103 => ?_) ?_
    · simp only [List.take_succ_cons, List.take_zero]
      simp only [run_guardd (g := 99), B0, reduceIte, reduceEqDiff]
      refine guardd_split (t := ((!(impl_in v_1.N 1 x87)) || (decide ((List.length x65.Way : Int) = 8)))) (fun hg104 => ?_) (fun hg104 => ?_)
      · simp only [hg104, run_guardd (g := 99), guardd_off', d4_pick, put1d_some, xpick_t, run_draw_nil, run_nil, B0, reduceIte, reduceEqDiff]
        exact hN103 _ _ ⟨(Sep.m4 (Sep.m4 (Sep.m4 (Sep.m4 (Sep.m4 hS101))))), by rw [orT hg104]; simp only [B0, reduceIte, reduceEqDiff], f97, f98, f99⟩
      · simp only [hg104, run_guardd (g := 99), guardd_false, f97, d4_mv, put1d_some, d4_chk, xchk_ptr, d4_fa, Nat.reduceAdd, Nat.zero_add, Nat.add_zero, xfa_ptr, d4_ld, B0,
          reduceIte, reduceEqDiff]
        refine put1d_eq (v := .int .i64 v_0.Sent) ((xld_b (Sep.bk _ _ _ hS101)).trans rfl) ?_
        simp only [hg104, run_guardd (g := 99), guardd_false, d4_bin, put1d_some, xeql, d4_pick, xpick_f, run_draw_nil, run_nil, B0, reduceIte, reduceEqDiff]
        exact hN103 _ _ ⟨(Sep.m4 (Sep.m4 (Sep.m4 (Sep.m4 (Sep.m4 hS101))))), by rw [orF hg104]; simp only [B0, reduceIte, reduceEqDiff], f97, f98, f99⟩
    rintro fr105 h110 ⟨hS111, f106, f107, f108, f109⟩
    simp only [List.drop_succ_cons, List.drop_zero]
    simp only [run_draw_nil, f106, run_cond, B0, reduceIte, reduceEqDiff]
    refine cond_split (t := (((!(impl_in v_1.N 1 x87)) || (decide ((List.length x65.Way : Int) = 8))) || (decide (v_0.Sent = 1000)))) (fun hc112 => ?_) (fun hc112 => ?_)
    · rw [iteT hc112] at hF89
      simp only [run_seq, run_reg, run_mv, run_ops_nil, run_ret, B0, reduceIte, reduceEqDiff]
      obtain ⟨c113, hv114, hS115⟩ := SlG.cls0 (c := c70) (os := c78) hv73 rfl hx66 hk_nil (Chan.RI (x := x65) hv79) (Sep.m2 (Sep.m4 hS111))
      have hv116 := SlG.toN hv114
      have he := some_inj hF89
      subst he
      simp only [end_ret1, B0, reduceIte, reduceEqDiff]
      exact ⟨pc0_0, c113, pc0_2, by first | trivial | rfl, ph0_0, hv116, ph0_2, (Sep.m3 (Sep.m3 (Sep.m1 (Sep.m3 hS115))))⟩
    rw [iteF hc112] at hF89
    simp only [run_skip, x41_5, run_seq, run_draw, f107, d4_mv, put1d_some, d4_chk, xchk_ptr, d4_fa, Nat.reduceAdd, Nat.zero_add, Nat.add_zero, xfa_ptr, d4_ld, B0, reduceIte,
        reduceEqDiff]
    refine put1d_eq (v := pv0_0) ((xld_b (Sep.bk _ _ _ hS111)).trans rfl) ?_
    simp only [f109, d4_mv, put1d_some, d4_chk, xchk_ptr, d4_fa, Nat.reduceAdd, Nat.zero_add, Nat.add_zero, xfa_ptr, d4_ld, B0, reduceIte, reduceEqDiff]
    refine put1d_eq (v := .int .i64 x65.From) ((SlG.ld (o := 0) hv73 rfl hx66 (Sep.m1 hS111) (Nat.le_of_ble_eq_true rfl)).trans rfl) ?_
    simp only [d4_ia, B0, reduceIte, reduceEqDiff]
    refine put1d_eq (SlF.ia ph0_0 hb91 hx88) ?_
    simp only [d4_ld, B0, reduceIte, reduceEqDiff]
    refine put1d_eq (v := .int .i64 x87) ((SlF.ld (o := 0) ph0_0 (Sep.m2 hS111) hb91 hx88 (fun _ => rfl) (Nat.le_of_ble_eq_true rfl)).trans rfl) ?_
    simp only [f108, d4_fa, put1d_some, Nat.reduceAdd, Nat.zero_add, Nat.add_zero, xfa_ref, d4_ld, B0, reduceIte, reduceEqDiff]
    refine put1d_eq (v := .int .i64 v_1.N) rfl ?_
    simp only [d4_bin, put1d_some, xsub, d4_ia, B0, reduceIte, reduceEqDiff]
    refine put1d_eq (SlF.ia ph0_0 hb91 hx88) ?_
    simp only [d3_st, B0, reduceIte, reduceEqDiff]
    refine put2d_stF (f := cI) (x' := (IntKind.wrap .i64 (x87 - v_1.N))) (o := 0) ph0_0 (Sep.m2 hS111) hW hb91 hx88 (fun _ => rfl) rfl rfl (Nat.le_of_ble_eq_true rfl) rfl
        (fun c119 h117 hv120 hS118 => ?_)
    have hx121 := geti_set (x' := (IntKind.wrap .i64 (x87 - v_1.N))) hx88
    simp only [run_draw_nil, x41_4, run_seq, run_draw, f109, d1_mv, put1d_some, d4_mv, d4_chk, xchk_ptr, d4_fa, Nat.reduceAdd, Nat.zero_add, Nat.add_zero, xfa_ptr, d4_ld, B0,
        reduceIte, reduceEqDiff]
    refine put1d_eq (v := v77) ((SlG.ld (o := 2) hv73 rfl hx66 (Sep.m2 hS118) (Nat.le_of_ble_eq_true rfl)).trans rfl) ?_
    simp only [f108, d4_fa, put1d_some, Nat.reduceAdd, Nat.zero_add, Nat.add_zero, xfa_ref, d4_ld, B0, reduceIte, reduceEqDiff]
    refine put1d_eq (v := .int .i64 v_1.N) rfl ?_
    simp only [d4_buildS, evp, B0, reduceIte, reduceEqDiff]
    refine put2d_buildSF (n := 1) (f := cI) [v_1.N] hS118 rfl rfl (fun v122 c123 h124 hv125 hS126 => ?_)
    simp only [d3_app, B0, reduceIte, reduceEqDiff]
    obtain ⟨l128, hx129, hF130⟩ := bind_some' hF89
    refine put2d_appF (f := cI) hv79 (Sep.m5 hS126) hW (fun _ => rfl) (fun _ => rfl) (SlF.first hv125 hS126 (fun _ => rfl)) hx129 (fun v131 c132 h133 hv134 hS135 => ?_)
    simp only [d4_chk, put1d_some, xchk_ptr, d4_fa, Nat.reduceAdd, Nat.zero_add, Nat.add_zero, xfa_ptr, d3_st, B0, reduceIte, reduceEqDiff]
    refine put2d_stGx (us := [v131]) (o := 2) (cs' := [.int .i64 x65.From, .int .i64 x65.To,
        v131]) (cells_one (SlF.one hv134)) hv73 rfl hx66 (Sep.m4 hS135) hW rfl (all_c (SlF.one hv134) all_n) (Nat.le_of_ble_eq_true rfl) rfl (fun c139 h137 hv140 hS138 => ?_)
    simp only [run_draw_nil, x41_3, run_seq, run_reg, f107, run_mv, run_chk, put1_some, xchk_ptr, run_fa, Nat.reduceAdd, Nat.zero_add, Nat.add_zero, xfa_ptr, run_ld, B0,
        reduceIte, reduceEqDiff]
    refine put1_eq (v := .int .i64 v_0.Sent) ((xld_b (Sep.bk _ _ _ (Sep.m4 hS138))).trans rfl) ?_
    simp only [run_bin, put1_some, xadd, run_chk, xchk_ptr, run_fa, Nat.reduceAdd, Nat.zero_add, Nat.add_zero, xfa_ptr, run_st, B0, reduceIte, reduceEqDiff]
    refine put2_stCx (us := [.int .i64 (IntKind.wrap .i64 (v_0.Sent + 1))]) rfl (cs' := [pv0_0, pv0_1, pv0_2, .int .i64 (IntKind.wrap .i64 (v_0.Sent + 1)),
        .int .i64 v_0.Total]) (Sep.m4 hS138) hW rfl rfl (Nat.le_of_ble_eq_true rfl) rfl (fun h141 hS142 => ?_)
    simp only [run_ops_nil, run_seq, run_reg, run_mv, run_ret, B0, reduceIte, reduceEqDiff]
    obtain ⟨c143, hv144, hS145⟩ := SlG.cls (e' := (Chan.mk x65.From x65.To l128)) (c := c139) (os := c132) hv140 rfl hx66 hk_nil (Chan.RI (x :=
        (Chan.mk x65.From x65.To l128)) hv134) (Sep.m2 (Sep.m2 hS142))
    have hx146 := geti_set (x' := (Chan.mk x65.From x65.To l128)) hx66
    have hv147 := SlG.toN hv144
    have he := some_inj hF130
    subst he
    simp only [end_ret1, B0, reduceIte, reduceEqDiff]
    exact ⟨c119, c143, pc0_2, by first | trivial | rfl, hv120, hv147, ph0_2, (Sep.m3 (Sep.m3 (Sep.m1 (Sep.m3 (Sep.dc (Sep.m2 hS145))))))⟩
  rw [iteF hc86] at hF83
  simp only [x41_20, run_seq, run_reg, run_bin, put1_some, xeql, run_mv, run_ops_nil, x41_19, run_cond, B0, reduceIte, reduceEqDiff]
  refine cond_split (t := (decide (v_1.Kind = 2))) (fun hc148 => ?_) (fun hc148 => ?_)
  · rw [iteT hc148] at hF83
    simp only [x41_18, run_seq, run_reg, run_mv, run_chk, put1_some, xchk_ptr, run_fa, Nat.reduceAdd, Nat.zero_add, Nat.add_zero, xfa_ptr, run_ld, B0, reduceIte, reduceEqDiff]
    refine put1_eq (v := v77) ((SlG.ld (o := 2) hv73 rfl hx66 hS76 (Nat.le_of_ble_eq_true rfl)).trans rfl) ?_
    simp only [run_len, put1_some, SlF.plen hv79, run_bin, xeql, run_ops_nil, run_cond, B0, reduceIte, reduceEqDiff]
    refine cond_split (t := (decide ((List.length x65.Way : Int) = 0))) (fun hc149 => ?_) (fun hc149 => ?_)
    · rw [iteT hc149] at hF83
      simp only [run_seq, run_reg, run_mv, run_ops_nil, run_ret, B0, reduceIte, reduceEqDiff]
      obtain ⟨c150, hv151, hS152⟩ := SlG.cls0 (c := c70) (os := c78) hv73 rfl hx66 hk_nil (Chan.RI (x := x65) hv79) (Sep.m1 (Sep.m1 hS76))
      have hv153 := SlG.toN hv151
      have he := some_inj hF83
      subst he
      simp only [end_ret1, B0, reduceIte, reduceEqDiff]
      exact ⟨pc0_0, c150, pc0_2, by first | trivial | rfl, ph0_0, hv153, ph0_2, (Sep.m3 (Sep.m3 (Sep.m1 (Sep.m3 hS152))))⟩
    rw [iteF hc149] at hF83
    simp only [run_skip, x41_17, run_seq, run_reg, run_mv, run_chk, put1_some, xchk_ptr, run_fa, Nat.reduceAdd, Nat.zero_add, Nat.add_zero, xfa_ptr, run_ld, B0, reduceIte,
        reduceEqDiff]
    refine put1_eq (v := v77) ((SlG.ld (o := 2) hv73 rfl hx66 hS76 (Nat.le_of_ble_eq_true rfl)).trans rfl) ?_
    obtain ⟨x154, hx155, hF156⟩ := bind_some' hF83
    simp only [run_ia, B0, reduceIte, reduceEqDiff]
    obtain ⟨b157, hb158⟩ := SlF.isrow hv79 (geti_ne hx155)
    refine put1_eq (SlF.ia hv79 hb158 hx155) ?_
    simp only [run_ld, B0, reduceIte, reduceEqDiff]
    refine put1_eq (v := .int .i64 x154) ((SlF.ld (o := 0) hv79 (Sep.m1 hS76) hb158 hx155 (fun _ => rfl) (Nat.le_of_ble_eq_true rfl)).trans rfl) ?_
    simp only [run_mv, run_ops_nil, x41_16, run_seq, run_draw, d4_mv, put1d_some, d4_bin, xgtr, B0, reduceIte, reduceEqDiff]
    refine draw_j 5 (fun fr' h' => Sep h' lo ([Blk1 pb0 [pv0_0, pv0_1, pv0_2, .int .i64 v_0.Sent,
        .int .i64 v_0.Total] 30] ++ (c70 ++ (pc0_2 ++ (pc0_0 ++ (c78 ++ (S0)))))) ∧ fr' 159 = .bool ((decide
        ((0 : Int) < x154)) && x81.Taken) ∧ fr' 0 = .ptr pb0 0 ∧ fr' 5 = .ptr b68 (v_1.K.toNat * 3) ∧ fr' 6 = .ptr b84 (x65.To.toNat * 4) ∧ fr' 7 = .int .i64 x154) rfl
        (fun Q159 hN160 => ?_) ?_
    · simp only [List.take_succ_cons, List.take_zero]
      simp only [run_guardd (g := 154), B0, reduceIte, reduceEqDiff]
      refine guardd_split (t := (decide ((0 : Int) < x154))) (fun hg161 => ?_) (fun hg161 => ?_)
      · obtain ⟨c162, cs163, os164, hv165, hR166, hS167⟩ := SlG.opn (SlN.toG ph0_2 hb85 Picture.RO.len) hx82 hk_nil Picture.RO.len (Sep.m4 hS76)
        obtain ⟨v169, c170, v173, c174, hv171, hv175, rfl, rfl⟩ := hR166
        have hS168 := Sep.no2 hS167
        simp only [hg161, run_guardd (g := 154), guardd_true, d4_mv, put1d_some, d4_chk, xchk_ptr, d4_fa, Nat.reduceAdd, Nat.zero_add, Nat.add_zero, xfa_ptr, d4_ld, B0, reduceIte,
            reduceEqDiff]
        refine put1d_eq (v := .bool x81.Taken) ((SlG.ld (o := 0) hv165 rfl hx82 hS168 (Nat.le_of_ble_eq_true rfl)).trans rfl) ?_
        simp only [hg161, d4_pick, put1d_some, xpick_t, run_draw_nil, run_nil, B0, reduceIte, reduceEqDiff]
        exact hN160 _ _ ⟨(Sep.m4 (Sep.m3 (Sep.m4 (Sep.m3 (Sep.m1 hS76))))), by rw [andT hg161]; simp only [B0, reduceIte, reduceEqDiff], f12, rfl, rfl, rfl⟩
      · simp only [hg161, run_guardd (g := 154), guardd_off, d4_pick, put1d_some, xpick_f, run_draw_nil, run_nil, B0, reduceIte, reduceEqDiff]
        exact hN160 _ _ ⟨(Sep.m4 (Sep.m3 (Sep.m4 (Sep.m3 (Sep.m1 hS76))))), by rw [andF hg161]; simp only [B0, reduceIte, reduceEqDiff], f12, rfl, rfl, rfl⟩
    rintro fr177 h183 ⟨hS184, f178, f179, f180, f181, f182⟩
    simp only [List.drop_succ_cons, List.drop_zero]
    simp only [f178, d4_mv, put1d_some, B0, reduceIte, reduceEqDiff]
    obtain ⟨v188, hx189, hF190⟩ := bind_some' hF156
    refine draw_j 12 (fun fr' h' => Sep h' lo ([Blk1 pb0 [pv0_0, pv0_1, pv0_2, .int .i64 v_0.Sent,
        .int .i64 v_0.Total] 30] ++ (c70 ++ (pc0_2 ++ (pc0_0 ++ (c78 ++ (S0)))))) ∧ fr' 172 = .bool v188 ∧ fr' 0 = .ptr pb0 0 ∧ fr' 5 = .ptr b68
        (v_1.K.toNat * 3) ∧ fr' 6 = .ptr b84 (x65.To.toNat * 4) ∧ fr' 7 = .int .i64 x154) rfl (fun Q185 hN186 => ?_) ?_
    · simp only [List.take_succ_cons, List.take_zero]
      simp only [run_guardd (g := 160), B0, reduceIte, reduceEqDiff]
      refine guardd_split (t := ((decide ((0 : Int) < x154)) && x81.Taken)) (fun hg187 => ?_) (fun hg187 => ?_)
      · rw [iteT hg187] at hx189
        obtain ⟨c191, cs192, os193, hv194, hR195, hS196⟩ := SlG.opn (SlN.toG ph0_2 hb85 Picture.RO.len) hx82 hk_nil Picture.RO.len (Sep.m2 hS184)
        obtain ⟨v198, c199, v202, c203, hv200, hv204, rfl, rfl⟩ := hR195
        have hS197 := Sep.no2 hS196
        simp only [hg187, run_guardd (g := 160), guardd_true, f181, d4_mv, put1d_some, d4_chk, xchk_ptr, d4_fa, Nat.reduceAdd, Nat.zero_add, Nat.add_zero, xfa_ptr, d4_ld, B0,
            reduceIte, reduceEqDiff]
        refine put1d_eq (v := v202) ((SlG.ld (o := 3) hv194 rfl hx82 hS197 (Nat.le_of_ble_eq_true rfl)).trans rfl) ?_
        simp only [hg187, run_guardd (g := 160), guardd_true, f180, d4_mv, put1d_some, d4_chk, xchk_ptr, d4_fa, Nat.reduceAdd, Nat.zero_add, Nat.add_zero, xfa_ptr, d4_ld, B0,
            reduceIte, reduceEqDiff]
        refine put1d_eq (v := .int .i64 x65.From) ((SlG.ld (o := 0) hv73 rfl hx66 (Sep.m4 hS197) (Nat.le_of_ble_eq_true rfl)).trans rfl) ?_
        obtain ⟨x206, hx207, hF208⟩ := bind_some' hx189
        simp only [hg187, run_guardd (g := 160), guardd_true, d4_ia, B0, reduceIte, reduceEqDiff]
        obtain ⟨b209, hb210⟩ := SlF.isrow hv204 (geti_ne hx207)
        refine put1d_eq (SlF.ia hv204 hb210 hx207) ?_
        simp only [hg187, run_guardd (g := 160), guardd_true, d4_ld, B0, reduceIte, reduceEqDiff]
        refine put1d_eq (v := .bool x206) ((SlF.ld (o := 0) hv204 (Sep.m2 hS197) hb210 hx207 (fun _ => rfl) (Nat.le_of_ble_eq_true rfl)).trans rfl) ?_
        simp only [hg187, run_guardd (g := 160), guardd_true, d4_un, put1d_some, xnot, d4_pick, xpick_t, run_draw_nil, run_nil, B0, reduceIte, reduceEqDiff]
        have e211 := some_inj hF208
        exact hN186 _ _ ⟨(Sep.m4 (Sep.m4 (Sep.m4 (Sep.m4 (Sep.m4 hS184))))), by rw [← e211]; simp only [B0, reduceIte, reduceEqDiff], f179, f180, f181, f182⟩
      · rw [iteF hg187] at hx189
        simp only [hg187, run_guardd (g := 160), guardd_off, d4_pick, put1d_some, xpick_f, run_draw_nil, run_nil, B0, reduceIte, reduceEqDiff]
        have e212 := some_inj hx189
        exact hN186 _ _ ⟨(Sep.m4 (Sep.m4 (Sep.m4 (Sep.m4 (Sep.m4 hS184))))), by rw [← e212]; simp only [B0, reduceIte, reduceEqDiff], f179, f180, f181, f182⟩
    rintro fr213 h219 ⟨hS220, f214, f215, f216, f217, f218⟩
    simp only [List.drop_succ_cons, List.drop_zero]
    simp only [f214, d4_mv, put1d_some, run_draw_nil, x41_15, run_seq, run_draw, B0, reduceIte, reduceEqDiff]
    obtain ⟨v224, hx225, hF226⟩ := bind_some' hF190
    refine draw_j 14 (fun fr' h' => Sep h' lo ([Blk1 pb0 [pv0_0, pv0_1, pv0_2, .int .i64 v_0.Sent,
        .int .i64 v_0.Total] 30] ++ (c70 ++ (pc0_2 ++ (pc0_0 ++ (c78 ++ (S0)))))) ∧ fr' 188 = .bool v224 ∧ fr' 0 = .ptr pb0 0 ∧ fr' 5 = .ptr b68
        (v_1.K.toNat * 3) ∧ fr' 6 = .ptr b84 (x65.To.toNat * 4) ∧ fr' 7 = .int .i64 x154 ∧ fr' 8 = .bool v188) rfl (fun Q221 hN222 => ?_) ?_
    · simp only [List.take_succ_cons, List.take_zero]
      simp only [run_guardd (g := 174), B0, reduceIte, reduceEqDiff]
      refine guardd_split (t := v188) (fun hg223 => ?_) (fun hg223 => ?_)
      · rw [iteT hg223] at hx225
        obtain ⟨c227, cs228, os229, hv230, hR231, hS232⟩ := SlG.opn (SlN.toG ph0_2 hb85 Picture.RO.len) hx82 hk_nil Picture.RO.len (Sep.m2 hS220)
        obtain ⟨v234, c235, v238, c239, hv236, hv240, rfl, rfl⟩ := hR231
        have hS233 := Sep.no2 hS232
        simp only [hg223, run_guardd (g := 174), guardd_true, f217, d4_mv, put1d_some, d4_chk, xchk_ptr, d4_fa, Nat.reduceAdd, Nat.zero_add, Nat.add_zero, xfa_ptr, d4_ld, B0,
            reduceIte, reduceEqDiff]
        refine put1d_eq (v := v234) ((SlG.ld (o := 2) hv230 rfl hx82 hS233 (Nat.le_of_ble_eq_true rfl)).trans rfl) ?_
        simp only [hg223, run_guardd (g := 174), guardd_true, f216, d4_mv, put1d_some, d4_chk, xchk_ptr, d4_fa, Nat.reduceAdd, Nat.zero_add, Nat.add_zero, xfa_ptr, d4_ld, B0,
            reduceIte, reduceEqDiff]
        refine put1d_eq (v := .int .i64 x65.From) ((SlG.ld (o := 0) hv73 rfl hx66 (Sep.m4 hS233) (Nat.le_of_ble_eq_true rfl)).trans rfl) ?_
        obtain ⟨x242, hx243, hF244⟩ := bind_some' hx225
        simp only [hg223, run_guardd (g := 174), guardd_true, d4_ia, B0, reduceIte, reduceEqDiff]
        obtain ⟨b245, hb246⟩ := SlF.isrow hv236 (geti_ne hx243)
        refine put1d_eq (SlF.ia hv236 hb246 hx243) ?_
        simp only [hg223, run_guardd (g := 174), guardd_true, d4_ld, B0, reduceIte, reduceEqDiff]
        refine put1d_eq (v := .int .i64 x242) ((SlF.ld (o := 0) hv236 (Sep.m1 hS233) hb246 hx243 (fun _ => rfl) (Nat.le_of_ble_eq_true rfl)).trans rfl) ?_
        simp only [hg223, run_guardd (g := 174), guardd_true, f218, d4_mv, put1d_some, d4_bin, xadd, xgtr, d4_pick, xpick_t, run_draw_nil, run_nil, B0, reduceIte, reduceEqDiff]
        have e247 := some_inj hF244
        exact hN222 _ _ ⟨(Sep.m4 (Sep.m4 (Sep.m4 (Sep.m4 (Sep.m4 hS220))))), by rw [← e247]; simp only [B0, reduceIte, reduceEqDiff], f215, f216, f217, f218, by simp only [B0,
            reduceIte, reduceEqDiff, hg223]⟩
      · rw [iteF hg223] at hx225
        simp only [hg223, run_guardd (g := 174), guardd_off, d4_pick, put1d_some, xpick_f, run_draw_nil, run_nil, B0, reduceIte, reduceEqDiff]
        have e248 := some_inj hx225
        exact hN222 _ _ ⟨(Sep.m4 (Sep.m4 (Sep.m4 (Sep.m4 (Sep.m4 hS220))))), by rw [← e248]; simp only [B0, reduceIte, reduceEqDiff], f215, f216, f217, f218, by simp only [B0,
            reduceIte, reduceEqDiff, hg223]⟩
    rintro fr249 h256 ⟨hS257, f250, f251, f252, f253, f254, f255⟩
    simp only [List.drop_succ_cons, List.drop_zero]
    simp only [f250, d4_mv, put1d_some, B0, reduceIte, reduceEqDiff]
    simp only [run_guardd (g := 189), B0, reduceIte, reduceEqDiff]
    refine guardd_split (t := v224) (fun hg258 => ?_) (fun hg258 => ?_)
    · rw [iteT hg258] at hF226
      simp only [hg258, run_guardd (g := 189), guardd_off', run_guardd (g := 192), guardd_tup, run_guardd (g := 199), d4_pick, put1d_some, xpick_t, run_draw_nil, run_cond,
          cond_true, run_seq, run_reg, run_mv, run_ops_nil, run_ret, B0, reduceIte, reduceEqDiff]
      obtain ⟨c259, hv260, hS261⟩ := SlG.cls0 (c := c70) (os := c78) hv73 rfl hx66 hk_nil (Chan.RI (x := x65) hv79) (Sep.m2 (Sep.m4 hS257))
      have hv262 := SlG.toN hv260
      have he := some_inj hF226
      subst he
      simp only [end_ret1, B0, reduceIte, reduceEqDiff]
      exact ⟨pc0_0, c259, pc0_2, by first | trivial | rfl, ph0_0, hv262, ph0_2, (Sep.m3 (Sep.m3 (Sep.m1 (Sep.m2 hS261))))⟩
    rw [iteF hg258] at hF226
    simp only [hg258, run_guardd (g := 189), guardd_false, f254, d4_mv, put1d_some, d4_bin, xeql, B0, reduceIte, reduceEqDiff]
    refine draw_j 6 (fun fr' h' => Sep h' lo ([Blk1 pb0 [pv0_0, pv0_1, pv0_2, .int .i64 v_0.Sent,
        .int .i64 v_0.Total] 30] ++ (c70 ++ (pc0_2 ++ (pc0_0 ++ (c78 ++ (S0)))))) ∧ fr' 198 = .bool ((decide (x154 = 0)) && (!x81.Taken)) ∧ fr' 0 = .ptr pb0 0 ∧ fr' 5 = .ptr b68
        (v_1.K.toNat * 3) ∧ fr' 6 = .ptr b84 (x65.To.toNat * 4) ∧ fr' 7 = .int .i64 x154 ∧ fr' 8 = .bool v188 ∧ fr' 189 = .bool v224) rfl (fun Q263 hN264 => ?_) ?_
    · simp only [List.take_succ_cons, List.take_zero]
      simp only [run_guardd (g := 192), B0, reduceIte, reduceEqDiff]
      refine guardd_split (t := (decide (x154 = 0))) (fun hg265 => ?_) (fun hg265 => ?_)
      · obtain ⟨c266, cs267, os268, hv269, hR270, hS271⟩ := SlG.opn (SlN.toG ph0_2 hb85 Picture.RO.len) hx82 hk_nil Picture.RO.len (Sep.m2 hS257)
        obtain ⟨v273, c274, v277, c278, hv275, hv279, rfl, rfl⟩ := hR270
        have hS272 := Sep.no2 hS271
        simp only [hg265, run_guardd (g := 192), guardd_true, f253, d4_mv, put1d_some, d4_chk, xchk_ptr, d4_fa, Nat.reduceAdd, Nat.zero_add, Nat.add_zero, xfa_ptr, d4_ld, B0,
            reduceIte, reduceEqDiff]
        refine put1d_eq (v := .bool x81.Taken) ((SlG.ld (o := 0) hv269 rfl hx82 hS272 (Nat.le_of_ble_eq_true rfl)).trans rfl) ?_
        simp only [hg265, run_guardd (g := 192), guardd_true, d4_un, put1d_some, xnot, hg258, run_guardd (g := 189), guardd_false, d4_pick, xpick_t, run_draw_nil, run_nil, B0,
            reduceIte, reduceEqDiff]
        exact hN264 _ _ ⟨(Sep.m4 (Sep.m4 (Sep.m4 (Sep.m4 (Sep.m4 hS257))))), by rw [andT hg265]; simp only [B0, reduceIte, reduceEqDiff], f251, f252, f253, f254, f255,
            by simp only [hg258, B0, reduceIte, reduceEqDiff]⟩
      · simp only [hg265, run_guardd (g := 192), guardd_off, hg258, run_guardd (g := 189), guardd_false, d4_pick, put1d_some, xpick_f, run_draw_nil, run_nil, B0, reduceIte,
          reduceEqDiff]
        exact hN264 _ _ ⟨(Sep.m4 (Sep.m4 (Sep.m4 (Sep.m4 (Sep.m4 hS257))))), by rw [andF hg265]; simp only [B0, reduceIte, reduceEqDiff], f251, f252, f253, f254, f255,
            by simp only [hg258, B0, reduceIte, reduceEqDiff]⟩
    rintro fr281 h289 ⟨hS290, f282, f283, f284, f285, f286, f287, f288⟩
    simp only [List.drop_succ_cons, List.drop_zero]
    simp only [f288, hg258, run_guardd (g := 189), guardd_false, f282, d4_mv, put1d_some, B0, reduceIte, reduceEqDiff]
    simp only [run_guardd (g := 199), B0, reduceIte, reduceEqDiff]
    refine guardd_split (t := ((decide (x154 = 0)) && (!x81.Taken))) (fun hg291 => ?_) (fun hg291 => ?_)
    · rw [iteT hg291] at hF226
      simp only [hg291, run_guardd (g := 199), guardd_true, f283, d4_mv, put1d_some, f284, d4_chk, xchk_ptr, d4_fa, Nat.reduceAdd, Nat.zero_add, Nat.add_zero, xfa_ptr, d4_ld, B0,
          reduceIte, reduceEqDiff]
      refine put1d_eq (v := .int .i64 x65.To) ((SlG.ld (o := 1) hv73 rfl hx66 (Sep.m1 hS290) (Nat.le_of_ble_eq_true rfl)).trans rfl) ?_
      obtain ⟨c292, hv293, hS294⟩ := SlG.cls0 (c := c70) (os := c78) hv73 rfl hx66 hk_nil (Chan.RI (x := x65) hv79) (Sep.m2 (Sep.m4 hS290))
      have hv295 := SlG.toN hv293
      obtain ⟨v296, hx297, hF298⟩ := bind_some' hF226
      simp only [hg291, run_guardd (g := 199), guardd_true, run_d3_call, B0, reduceIte, reduceEqDiff]
      refine call0d rfl (impl_Snap_take_x hW pb0 v_0 pv0_0 pc0_0 ph0_0 pv0_1 c292 hv295 pv0_2 pc0_2 ph0_2 x65.To v296 hx297 (Sep.m3 (Sep.m3 (Sep.m1 (Sep.m2 hS294))))) ?_
      rintro _ h305 ⟨c299, c301, c303, rfl, hv300, hv302, hv304, hS306⟩
      simp only [hg291, run_guardd (g := 199), guardd_true, d4_un, put1d_some, xnot, f288, hg258, run_guardd (g := 189), guardd_false, d4_pick, xpick_t, xpick_f, run_draw_nil,
          run_cond, B0, reduceIte, reduceEqDiff]
      refine cond_split (t := (!v296.1)) (fun hc307 => ?_) (fun hc307 => ?_)
      · rw [iteT hc307] at hF298
        simp only [run_seq, run_reg, run_mv, run_ops_nil, run_ret, B0, reduceIte, reduceEqDiff]
        have he := some_inj hF298
        subst he
        simp only [end_ret1, B0, reduceIte, reduceEqDiff]
        exact ⟨c299, c301, c303, by first | trivial | rfl, hv300, hv302, hv304, (Sep.m3 (Sep.m3 (Sep.m3 (Sep.m3 hS306))))⟩
      rw [iteF hc307] at hF298
      simp only [run_skip, x41_14, run_seq, run_reg, f284, run_mv, run_buildS, evp, B0, reduceIte, reduceEqDiff]
      refine put2_buildSF (n := 1) (f := cI) ([] : List Int) hS306 rfl rfl (fun v308 c309 h310 hv311 hS312 => ?_)
      obtain ⟨x314, hx315, hF316⟩ := bind_some' hF298
      obtain ⟨c317, cs318, os319, hv320, hR321, hS322⟩ := SlG.opn (SlN.toG hv302 hb69 Chan.RO.len) hx315 hk_nil Chan.RO.len (Sep.m3 hS312)
      obtain ⟨v324, c325, hv326, rfl, rfl⟩ := hR321
      have hS323 := Sep.no1 hS322
      simp only [f284, run_mv, run_chk, put1_some, xchk_ptr, run_fa, Nat.reduceAdd, Nat.zero_add, Nat.add_zero, xfa_ptr, run_ld, B0, reduceIte, reduceEqDiff]
      refine put1_eq (v := v324) ((SlG.ld (o := 2) hv320 rfl hx315 hS323 (Nat.le_of_ble_eq_true rfl)).trans rfl) ?_
      obtain ⟨l328, hx329, hF330⟩ := bind_some' hF316
      simp only [run_slc, Option.map_some, Option.map_none, B0, reduceIte, reduceEqDiff]
      obtain ⟨w331, i332, he333, hw334⟩ := SlF.win (f := cI) (ty := 3) (some (1 : Int)) none hv326 hx329 (Sep.m1 hS323)
      refine put1_eq he333 ?_
      simp only [run_app, B0, reduceIte, reduceEqDiff]
      obtain ⟨l335, hx336, hF337⟩ := bind_some' hF330
      refine put2_appF (f := cI) hv311 (Sep.m2 hS323) hW (fun _ => rfl) (fun _ => rfl) (SlW.first hw334 hv326 (Sep.m1 hS323) (fun _ => rfl)) hx336
          (fun v338 c339 h340 hv341 hS342 => ?_)
      simp only [run_chk, put1_some, xchk_ptr, run_fa, Nat.reduceAdd, Nat.zero_add, Nat.add_zero, xfa_ptr, run_st, B0, reduceIte, reduceEqDiff]
      refine put2_stGx (us := [v338]) (o := 2) (cs' := [.int .i64 x314.From, .int .i64 x314.To,
          v338]) (cells_one (SlF.one hv341)) hv320 rfl hx315 (Sep.m1 hS342) hW rfl (all_c (SlF.one hv341) all_n) (Nat.le_of_ble_eq_true rfl) rfl (fun c346 h344 hv347 hS345 => ?_)
      simp only [run_ops_nil, x41_13, run_seq, run_draw, f283, d4_mv, put1d_some, d4_chk, xchk_ptr, d4_fa, Nat.reduceAdd, Nat.zero_add, Nat.add_zero, xfa_ptr, d4_ld, B0,
          reduceIte, reduceEqDiff]
      refine put1d_eq (v := pv0_0) ((xld_b (Sep.bk _ _ _ (Sep.m3 hS345))).trans rfl) ?_
      simp only [f284, d4_mv, put1d_some, d4_chk, xchk_ptr, d4_fa, Nat.reduceAdd, Nat.zero_add, Nat.add_zero, xfa_ptr, d4_ld, B0, reduceIte, reduceEqDiff]
      refine put1d_eq (v := .int .i64 x314.To) ((SlG.ld (o := 1) hv347 rfl hx315 hS345 (Nat.le_of_ble_eq_true rfl)).trans rfl) ?_
      obtain ⟨x348, hx349, hF350⟩ := bind_some' hF337
      simp only [d4_ia, B0, reduceIte, reduceEqDiff]
      obtain ⟨b351, hb352⟩ := SlF.isrow hv300 (geti_ne hx349)
      refine put1d_eq (SlF.ia hv300 hb352 hx349) ?_
      simp only [d4_ld, B0, reduceIte, reduceEqDiff]
      refine put1d_eq (v := .int .i64 x348) ((SlF.ld (o := 0) hv300 (Sep.m4 hS345) hb352 hx349 (fun _ => rfl) (Nat.le_of_ble_eq_true rfl)).trans rfl) ?_
      simp only [f286, d4_mv, put1d_some, d4_bin, xadd, d4_ia, B0, reduceIte, reduceEqDiff]
      refine put1d_eq (SlF.ia hv300 hb352 hx349) ?_
      simp only [d3_st, B0, reduceIte, reduceEqDiff]
      refine put2d_stF (f := cI) (x' := (IntKind.wrap .i64 (x348 + x154))) (o := 0) hv300 (Sep.m4 hS345) hW hb352 hx349 (fun _ => rfl) rfl rfl (Nat.le_of_ble_eq_true rfl) rfl
          (fun c355 h353 hv356 hS354 => ?_)
      have hx357 := geti_set (x' := (IntKind.wrap .i64 (x348 + x154))) hx349
      simp only [run_draw_nil, x41_12, run_seq, run_reg, f287, run_mv, run_ops_nil, x41_8, run_cond, B0, reduceIte, reduceEqDiff]
      obtain ⟨c358, hv359, hS360⟩ := SlG.cls (e' := (Chan.mk x314.From x314.To l335)) (c := c346) (os := c339) hv347 rfl hx315 hk_nil (Chan.RI (x :=
          (Chan.mk x314.From x314.To l335)) hv341) (Sep.m2 (Sep.m2 hS354))
      have hx361 := geti_set (x' := (Chan.mk x314.From x314.To l335)) hx315
      have hv362 := SlG.toN hv359
      obtain ⟨sv372, hX370, hk371⟩ := bind_some' hF350
      refine cond_j (t := v188) (fun fr' h' => ∃ c364 c367,
          fr' 5 = .ptr b68 (v_1.K.toNat * 3) ∧ fr' 6 = .ptr b84
          (x65.To.toNat * 4) ∧ fr' 7 = .int .i64 x154 ∧ SlN Chan.R 3 74 pv0_1 sv372.1 c364 ∧ SlN Picture.R 4 76 pv0_2 sv372.2 c367 ∧ Sep h' lo (c364 ++ (c367 ++ ([Blk1 pb0 [pv0_0,
          pv0_1, pv0_2, .int .i64 v296.2.Sent, .int .i64 v296.2.Total] 30] ++ (c355 ++ (S0)))))) (fun Q373 hN374 hR375 hE376 => ⟨fun hc377 => ?_, fun hc377 => ?_⟩) ?_
      · rw [iteT hc377] at hX370
        obtain ⟨x378, hx379, hF380⟩ := bind_some' hX370
        obtain ⟨c381, cs382, os383, hv384, hR385, hS386⟩ := SlG.opn (SlN.toG hv304 hb85 Picture.RO.len) hx379 hk_nil Picture.RO.len (Sep.m4 hS360)
        obtain ⟨v388, c389, v392, c393, hv390, hv394, rfl, rfl⟩ := hR385
        have hS387 := Sep.no2 hS386
        simp only [x41_7, run_draw, f285, d4_mv, put1d_some, d4_chk, xchk_ptr, d4_fa, Nat.reduceAdd, Nat.zero_add, Nat.add_zero, xfa_ptr, d4_ld, B0, reduceIte, reduceEqDiff]
        refine put1d_eq (v := v388) ((SlG.ld (o := 2) hv384 rfl hx379 hS387 (Nat.le_of_ble_eq_true rfl)).trans rfl) ?_
        obtain ⟨c396, cs397, os398, hv399, hR400, hS401⟩ := SlG.opn (SlN.toG hv362 hb69 Chan.RO.len) hx361 hk_nil Chan.RO.len (Sep.m3 hS387)
        obtain ⟨v403, c404, hv405, rfl, rfl⟩ := hR400
        have hS402 := Sep.no1 hS401
        simp only [f284, d4_mv, put1d_some, d4_chk, xchk_ptr, d4_fa, Nat.reduceAdd, Nat.zero_add, Nat.add_zero, xfa_ptr, d4_ld, B0, reduceIte, reduceEqDiff]
        refine put1d_eq (v := .int .i64 ((Chan.mk x314.From x314.To l335).From)) ((SlG.ld (o := 0) hv399 rfl hx361 hS402 (Nat.le_of_ble_eq_true rfl)).trans rfl) ?_
        obtain ⟨x407, hx408, hF409⟩ := bind_some' hF380
        simp only [d4_ia, B0, reduceIte, reduceEqDiff]
        obtain ⟨b410, hb411⟩ := SlF.isrow hv390 (geti_ne hx408)
        refine put1d_eq (SlF.ia hv390 hb411 hx408) ?_
        simp only [d4_ld, B0, reduceIte, reduceEqDiff]
        refine put1d_eq (v := .int .i64 x407) ((SlF.ld (o := 0) hv390 (Sep.m3 hS402) hb411 hx408 (fun _ => rfl) (Nat.le_of_ble_eq_true rfl)).trans rfl) ?_
        simp only [f286, d4_mv, put1d_some, d4_bin, xadd, d4_ia, B0, reduceIte, reduceEqDiff]
        refine put1d_eq (SlF.ia hv390 hb411 hx408) ?_
        simp only [d3_st, B0, reduceIte, reduceEqDiff]
        refine put2d_stF (f := cI) (x' := (IntKind.wrap .i64 (x407 + x154))) (o := 0) hv390 (Sep.m3 hS402) hW hb411 hx408 (fun _ => rfl) rfl rfl (Nat.le_of_ble_eq_true rfl) rfl
            (fun c414 h412 hv415 hS413 => ?_)
        have hx416 := geti_set (x' := (IntKind.wrap .i64 (x407 + x154))) hx408
        simp only [run_draw_nil, run_nil, B0, reduceIte, reduceEqDiff]
        obtain ⟨c417, hv418, hS419⟩ := SlG.cls0 (c := c396) (os := c404) hv399 rfl hx361 hk_nil (Chan.RI (x := (Chan.mk x314.From x314.To l335)) hv405) (Sep.m2 (Sep.m2 hS413))
        have hv420 := SlG.toN hv418
        obtain ⟨c421, hv422, hS423⟩ := SlG.cls (e' := (Picture.mk x378.Taken x378.Amount (List.set x378.In ((Chan.mk x314.From x314.To l335).From).toNat (IntKind.wrap .i64
            (x407 + x154))) x378.Closed)) (c := c381) (os := c414 ++ (c393)) hv384 rfl hx379 hk_nil (Picture.RI (x := (Picture.mk x378.Taken x378.Amount (List.set x378.In
            ((Chan.mk x314.From x314.To l335).From).toNat (IntKind.wrap .i64 (x407 + x154))) x378.Closed)) hv415 hv394) (Sep.ni2 (c1 := c414) (c2 := c393) (Sep.m3 (Sep.m2
            (Sep.m3 hS419))))
        have hx424 := geti_set (x' := (Picture.mk x378.Taken x378.Amount (List.set x378.In ((Chan.mk x314.From x314.To l335).From).toNat (IntKind.wrap .i64
            (x407 + x154))) x378.Closed)) hx379
        have hv425 := SlG.toN hv422
        have e426 := some_inj hF409
        subst e426
        exact hN374 _ _ ⟨c417, c421, f284, f285, f286, hv420, hv425, (Sep.m3 (Sep.m2 (Sep.m3 (Sep.m2 (Sep.dc (Sep.m3 hS423))))))⟩
      · rw [iteF hc377] at hX370
        simp only [run_skip, run_nil, B0, reduceIte, reduceEqDiff]
        have e427 := some_inj hX370
        subst e427
        exact hN374 _ _ ⟨c358, c303, f284, f285, f286, hv362, hv304, (Sep.m3 (Sep.m3 (Sep.m2 (Sep.m1 (Sep.dc (Sep.m2 hS360))))))⟩
      rintro fr428 h429 ⟨c364, c367, f431, f432, f433, hv365, hv368, hS430⟩
      obtain ⟨s363, s366⟩ := sv372
      dsimp only at *
      unfold impl_Snap_step_j1 at hk371
      simp only [x41_11, run_seq, run_reg, f433, run_mv, run_bin, put1_some, xeql, run_ops_nil, x41_10, run_cond, B0, reduceIte, reduceEqDiff]
      refine cond_split (t := (decide (x154 = 0))) (fun hc434 => ?_) (fun hc434 => ?_)
      · rw [iteT hc434] at hk371
        obtain ⟨x435, hx436, hF437⟩ := bind_some' hk371
        obtain ⟨c438, cs439, os440, hv441, hR442, hS443⟩ := SlG.opn (SlN.toG hv368 hb85 Picture.RO.len) hx436 hk_nil Picture.RO.len (Sep.m1 hS430)
        obtain ⟨v445, c446, v449, c450, hv447, hv451, rfl, rfl⟩ := hR442
        have hS444 := Sep.no2 hS443
        simp only [x41_9, run_draw, f432, d4_mv, put1d_some, d4_chk, xchk_ptr, d4_fa, Nat.reduceAdd, Nat.zero_add, Nat.add_zero, xfa_ptr, d4_ld, B0, reduceIte, reduceEqDiff]
        refine put1d_eq (v := v449) ((SlG.ld (o := 3) hv441 rfl hx436 hS444 (Nat.le_of_ble_eq_true rfl)).trans rfl) ?_
        obtain ⟨x453, hx454, hF455⟩ := bind_some' hF437
        obtain ⟨c456, cs457, os458, hv459, hR460, hS461⟩ := SlG.opn (SlN.toG hv365 hb69 Chan.RO.len) hx454 hk_nil Chan.RO.len (Sep.m3 hS444)
        obtain ⟨v463, c464, hv465, rfl, rfl⟩ := hR460
        have hS462 := Sep.no1 hS461
        simp only [f431, d4_mv, put1d_some, d4_chk, xchk_ptr, d4_fa, Nat.reduceAdd, Nat.zero_add, Nat.add_zero, xfa_ptr, d4_ld, B0, reduceIte, reduceEqDiff]
        refine put1d_eq (v := .int .i64 x453.From) ((SlG.ld (o := 0) hv459 rfl hx454 hS462 (Nat.le_of_ble_eq_true rfl)).trans rfl) ?_
        obtain ⟨x467, hx468, hF469⟩ := bind_some' hF455
        simp only [d4_ia, B0, reduceIte, reduceEqDiff]
        obtain ⟨b470, hb471⟩ := SlF.isrow hv451 (geti_ne hx468)
        refine put1d_eq (SlF.ia hv451 hb471 hx468) ?_
        simp only [d3_st, B0, reduceIte, reduceEqDiff]
        refine put2d_stF (f := cB) (x' := true) (o := 0) hv451 (Sep.m4 hS462) hW hb471 hx468 (fun _ => rfl) rfl rfl (Nat.le_of_ble_eq_true rfl) rfl
            (fun c474 h472 hv475 hS473 => ?_)
        have hx476 := geti_set (x' := true) hx468
        simp only [run_draw_nil, run_seq, run_reg, run_mv, run_ops_nil, run_ret, B0, reduceIte, reduceEqDiff]
        obtain ⟨c477, hv478, hS479⟩ := SlG.cls0 (c := c456) (os := c464) hv459 rfl hx454 hk_nil (Chan.RI (x := x453) hv465) (Sep.m2 (Sep.m2 hS473))
        have hv480 := SlG.toN hv478
        obtain ⟨c481, hv482, hS483⟩ := SlG.cls (e' := (Picture.mk x435.Taken x435.Amount x435.In (List.set x435.Closed x453.From.toNat true))) (c := c438) (os := c446 ++
            (c474)) hv441 rfl hx436 hk_nil (Picture.RI (x := (Picture.mk x435.Taken x435.Amount x435.In (List.set x435.Closed x453.From.toNat true))) hv447 hv475) (Sep.ni2
            (c1 := c446) (c2 := c474) (Sep.m3 (Sep.m3 (Sep.m1 hS479))))
        have hx484 := geti_set (x' := (Picture.mk x435.Taken x435.Amount x435.In (List.set x435.Closed x453.From.toNat true))) hx436
        have hv485 := SlG.toN hv482
        have he := some_inj hF469
        subst he
        simp only [end_ret1, B0, reduceIte, reduceEqDiff]
        exact ⟨c355, c477, c481, by first | trivial | rfl, hv356, hv480, hv485, (Sep.m3 (Sep.m3 (Sep.m1 hS483)))⟩
      rw [iteF hc434] at hk371
      simp only [run_skip, run_seq, run_reg, run_mv, run_ops_nil, run_ret, B0, reduceIte, reduceEqDiff]
      have he := some_inj hk371
      subst he
      simp only [end_ret1, B0, reduceIte, reduceEqDiff]
      exact ⟨c355, c364, c367, by first | trivial | rfl, hv356, hv365, hv368, (Sep.m3 (Sep.m3 (Sep.m1 (Sep.m1 hS430))))⟩
    rw [iteF hg291] at hF226
    simp only [hg291, run_guardd (g := 199), guardd_off, f288, hg258, run_guardd (g := 189), guardd_false, d4_pick, put1d_some, xpick_f, run_draw_nil, run_cond, cond_false,
        run_skip, x41_14, run_seq, run_reg, f284, run_mv, run_buildS, evp, B0, reduceIte, reduceEqDiff]
    refine put2_buildSF (n := 1) (f := cI) ([] : List Int) hS290 rfl rfl (fun v487 c488 h489 hv490 hS491 => ?_)
    simp only [f284, run_mv, run_chk, put1_some, xchk_ptr, run_fa, Nat.reduceAdd, Nat.zero_add, Nat.add_zero, xfa_ptr, run_ld, B0, reduceIte, reduceEqDiff]
    refine put1_eq (v := v77) ((SlG.ld (o := 2) hv73 rfl hx66 (Sep.m2 hS491) (Nat.le_of_ble_eq_true rfl)).trans rfl) ?_
    obtain ⟨l493, hx494, hF495⟩ := bind_some' hF226
    simp only [run_slc, Option.map_some, Option.map_none, B0, reduceIte, reduceEqDiff]
    obtain ⟨w496, i497, he498, hw499⟩ := SlF.win (f := cI) (ty := 3) (some (1 : Int)) none hv79 hx494 (Sep.m5 hS491)
    refine put1_eq he498 ?_
    simp only [run_app, B0, reduceIte, reduceEqDiff]
    obtain ⟨l500, hx501, hF502⟩ := bind_some' hF495
    refine put2_appF (f := cI) hv490 hS491 hW (fun _ => rfl) (fun _ => rfl) (SlW.first hw499 hv79 (Sep.m5 hS491) (fun _ => rfl)) hx501 (fun v503 c504 h505 hv506 hS507 => ?_)
    simp only [run_chk, put1_some, xchk_ptr, run_fa, Nat.reduceAdd, Nat.zero_add, Nat.add_zero, xfa_ptr, run_st, B0, reduceIte, reduceEqDiff]
    refine put2_stGx (us := [v503]) (o := 2) (cs' := [.int .i64 x65.From, .int .i64 x65.To,
        v503]) (cells_one (SlF.one hv506)) hv73 rfl hx66 (Sep.m2 hS507) hW rfl (all_c (SlF.one hv506) all_n) (Nat.le_of_ble_eq_true rfl) rfl (fun c511 h509 hv512 hS510 => ?_)
    simp only [run_ops_nil, x41_13, run_seq, run_draw, f283, d4_mv, put1d_some, d4_chk, xchk_ptr, d4_fa, Nat.reduceAdd, Nat.zero_add, Nat.add_zero, xfa_ptr, d4_ld, B0, reduceIte,
        reduceEqDiff]
    refine put1d_eq (v := pv0_0) ((xld_b (Sep.bk _ _ _ (Sep.m2 hS510))).trans rfl) ?_
    simp only [f284, d4_mv, put1d_some, d4_chk, xchk_ptr, d4_fa, Nat.reduceAdd, Nat.zero_add, Nat.add_zero, xfa_ptr, d4_ld, B0, reduceIte, reduceEqDiff]
    refine put1d_eq (v := .int .i64 x65.To) ((SlG.ld (o := 1) hv512 rfl hx66 hS510 (Nat.le_of_ble_eq_true rfl)).trans rfl) ?_
    obtain ⟨x513, hx514, hF515⟩ := bind_some' hF502
    simp only [d4_ia, B0, reduceIte, reduceEqDiff]
    obtain ⟨b516, hb517⟩ := SlF.isrow ph0_0 (geti_ne hx514)
    refine put1d_eq (SlF.ia ph0_0 hb517 hx514) ?_
    simp only [d4_ld, B0, reduceIte, reduceEqDiff]
    refine put1d_eq (v := .int .i64 x513) ((SlF.ld (o := 0) ph0_0 (Sep.m4 hS510) hb517 hx514 (fun _ => rfl) (Nat.le_of_ble_eq_true rfl)).trans rfl) ?_
    simp only [f286, d4_mv, put1d_some, d4_bin, xadd, d4_ia, B0, reduceIte, reduceEqDiff]
    refine put1d_eq (SlF.ia ph0_0 hb517 hx514) ?_
    simp only [d3_st, B0, reduceIte, reduceEqDiff]
    refine put2d_stF (f := cI) (x' := (IntKind.wrap .i64 (x513 + x154))) (o := 0) ph0_0 (Sep.m4 hS510) hW hb517 hx514 (fun _ => rfl) rfl rfl (Nat.le_of_ble_eq_true rfl) rfl
        (fun c520 h518 hv521 hS519 => ?_)
    have hx522 := geti_set (x' := (IntKind.wrap .i64 (x513 + x154))) hx514
    simp only [run_draw_nil, x41_12, run_seq, run_reg, f287, run_mv, run_ops_nil, x41_8, run_cond, B0, reduceIte, reduceEqDiff]
    obtain ⟨c523, hv524, hS525⟩ := SlG.cls (e' := (Chan.mk x65.From x65.To l500)) (c := c511) (os := c504) hv512 rfl hx66 hk_nil (Chan.RI (x :=
        (Chan.mk x65.From x65.To l500)) hv506) (Sep.m2 (Sep.m2 hS519))
    have hx526 := geti_set (x' := (Chan.mk x65.From x65.To l500)) hx66
    have hv527 := SlG.toN hv524
    obtain ⟨sv537, hX535, hk536⟩ := bind_some' hF515
    refine cond_j (t := v188) (fun fr' h' => ∃ c529 c532,
        fr' 5 = .ptr b68 (v_1.K.toNat * 3) ∧ fr' 6 = .ptr b84
        (x65.To.toNat * 4) ∧ fr' 7 = .int .i64 x154 ∧ SlN Chan.R 3 74 pv0_1 sv537.1 c529 ∧ SlN Picture.R 4 76 pv0_2 sv537.2 c532 ∧ Sep h' lo (c529 ++ (c532 ++ ([Blk1 pb0 [pv0_0,
        pv0_1, pv0_2, .int .i64 v_0.Sent, .int .i64 v_0.Total] 30] ++ (c520 ++ (S0)))))) (fun Q538 hN539 hR540 hE541 => ⟨fun hc542 => ?_, fun hc542 => ?_⟩) ?_
    · rw [iteT hc542] at hX535
      obtain ⟨c543, cs544, os545, hv546, hR547, hS548⟩ := SlG.opn (SlN.toG ph0_2 hb85 Picture.RO.len) hx82 hk_nil Picture.RO.len (Sep.m3 hS525)
      obtain ⟨v550, c551, v554, c555, hv552, hv556, rfl, rfl⟩ := hR547
      have hS549 := Sep.no2 hS548
      simp only [x41_7, run_draw, f285, d4_mv, put1d_some, d4_chk, xchk_ptr, d4_fa, Nat.reduceAdd, Nat.zero_add, Nat.add_zero, xfa_ptr, d4_ld, B0, reduceIte, reduceEqDiff]
      refine put1d_eq (v := v550) ((SlG.ld (o := 2) hv546 rfl hx82 hS549 (Nat.le_of_ble_eq_true rfl)).trans rfl) ?_
      obtain ⟨c558, cs559, os560, hv561, hR562, hS563⟩ := SlG.opn (SlN.toG hv527 hb69 Chan.RO.len) hx526 hk_nil Chan.RO.len (Sep.m3 hS549)
      obtain ⟨v565, c566, hv567, rfl, rfl⟩ := hR562
      have hS564 := Sep.no1 hS563
      simp only [f284, d4_mv, put1d_some, d4_chk, xchk_ptr, d4_fa, Nat.reduceAdd, Nat.zero_add, Nat.add_zero, xfa_ptr, d4_ld, B0, reduceIte, reduceEqDiff]
      refine put1d_eq (v := .int .i64 ((Chan.mk x65.From x65.To l500).From)) ((SlG.ld (o := 0) hv561 rfl hx526 hS564 (Nat.le_of_ble_eq_true rfl)).trans rfl) ?_
      obtain ⟨x569, hx570, hF571⟩ := bind_some' hX535
      simp only [d4_ia, B0, reduceIte, reduceEqDiff]
      obtain ⟨b572, hb573⟩ := SlF.isrow hv552 (geti_ne hx570)
      refine put1d_eq (SlF.ia hv552 hb573 hx570) ?_
      simp only [d4_ld, B0, reduceIte, reduceEqDiff]
      refine put1d_eq (v := .int .i64 x569) ((SlF.ld (o := 0) hv552 (Sep.m3 hS564) hb573 hx570 (fun _ => rfl) (Nat.le_of_ble_eq_true rfl)).trans rfl) ?_
      simp only [f286, d4_mv, put1d_some, d4_bin, xadd, d4_ia, B0, reduceIte, reduceEqDiff]
      refine put1d_eq (SlF.ia hv552 hb573 hx570) ?_
      simp only [d3_st, B0, reduceIte, reduceEqDiff]
      refine put2d_stF (f := cI) (x' := (IntKind.wrap .i64 (x569 + x154))) (o := 0) hv552 (Sep.m3 hS564) hW hb573 hx570 (fun _ => rfl) rfl rfl (Nat.le_of_ble_eq_true rfl) rfl
          (fun c576 h574 hv577 hS575 => ?_)
      have hx578 := geti_set (x' := (IntKind.wrap .i64 (x569 + x154))) hx570
      simp only [run_draw_nil, run_nil, B0, reduceIte, reduceEqDiff]
      obtain ⟨c579, hv580, hS581⟩ := SlG.cls0 (c := c558) (os := c566) hv561 rfl hx526 hk_nil (Chan.RI (x := (Chan.mk x65.From x65.To l500)) hv567) (Sep.m2 (Sep.m2 hS575))
      have hv582 := SlG.toN hv580
      obtain ⟨c583, hv584, hS585⟩ := SlG.cls (e' := (Picture.mk x81.Taken x81.Amount (List.set x81.In ((Chan.mk x65.From x65.To l500).From).toNat (IntKind.wrap .i64
          (x569 + x154))) x81.Closed)) (c := c543) (os := c576 ++ (c555)) hv546 rfl hx82 hk_nil (Picture.RI (x := (Picture.mk x81.Taken x81.Amount (List.set x81.In
          ((Chan.mk x65.From x65.To l500).From).toNat (IntKind.wrap .i64 (x569 + x154))) x81.Closed)) hv577 hv556) (Sep.ni2 (c1 := c576) (c2 := c555) (Sep.m3 (Sep.m2
          (Sep.m3 hS581))))
      have hx586 := geti_set (x' := (Picture.mk x81.Taken x81.Amount (List.set x81.In ((Chan.mk x65.From x65.To l500).From).toNat (IntKind.wrap .i64
          (x569 + x154))) x81.Closed)) hx82
      have hv587 := SlG.toN hv584
      have e588 := some_inj hF571
      subst e588
      exact hN539 _ _ ⟨c579, c583, f284, f285, f286, hv582, hv587, (Sep.m3 (Sep.m2 (Sep.m3 (Sep.m2 (Sep.dc (Sep.m4 hS585))))))⟩
    · rw [iteF hc542] at hX535
      simp only [run_skip, run_nil, B0, reduceIte, reduceEqDiff]
      have e589 := some_inj hX535
      subst e589
      exact hN539 _ _ ⟨c523, pc0_2, f284, f285, f286, hv527, ph0_2, (Sep.m3 (Sep.m3 (Sep.m2 (Sep.m1 (Sep.dc (Sep.m4 hS525))))))⟩
    rintro fr590 h591 ⟨c529, c532, f593, f594, f595, hv530, hv533, hS592⟩
    obtain ⟨s528, s531⟩ := sv537
    dsimp only at *
    unfold impl_Snap_step_j2 at hk536
    simp only [x41_11, run_seq, run_reg, f595, run_mv, run_bin, put1_some, xeql, run_ops_nil, x41_10, run_cond, B0, reduceIte, reduceEqDiff]
    refine cond_split (t := (decide (x154 = 0))) (fun hc596 => ?_) (fun hc596 => ?_)
    · rw [iteT hc596] at hk536
      obtain ⟨x597, hx598, hF599⟩ := bind_some' hk536
      obtain ⟨c600, cs601, os602, hv603, hR604, hS605⟩ := SlG.opn (SlN.toG hv533 hb85 Picture.RO.len) hx598 hk_nil Picture.RO.len (Sep.m1 hS592)
      obtain ⟨v607, c608, v611, c612, hv609, hv613, rfl, rfl⟩ := hR604
      have hS606 := Sep.no2 hS605
      simp only [x41_9, run_draw, f594, d4_mv, put1d_some, d4_chk, xchk_ptr, d4_fa, Nat.reduceAdd, Nat.zero_add, Nat.add_zero, xfa_ptr, d4_ld, B0, reduceIte, reduceEqDiff]
      refine put1d_eq (v := v611) ((SlG.ld (o := 3) hv603 rfl hx598 hS606 (Nat.le_of_ble_eq_true rfl)).trans rfl) ?_
      obtain ⟨x615, hx616, hF617⟩ := bind_some' hF599
      obtain ⟨c618, cs619, os620, hv621, hR622, hS623⟩ := SlG.opn (SlN.toG hv530 hb69 Chan.RO.len) hx616 hk_nil Chan.RO.len (Sep.m3 hS606)
      obtain ⟨v625, c626, hv627, rfl, rfl⟩ := hR622
      have hS624 := Sep.no1 hS623
      simp only [f593, d4_mv, put1d_some, d4_chk, xchk_ptr, d4_fa, Nat.reduceAdd, Nat.zero_add, Nat.add_zero, xfa_ptr, d4_ld, B0, reduceIte, reduceEqDiff]
      refine put1d_eq (v := .int .i64 x615.From) ((SlG.ld (o := 0) hv621 rfl hx616 hS624 (Nat.le_of_ble_eq_true rfl)).trans rfl) ?_
      obtain ⟨x629, hx630, hF631⟩ := bind_some' hF617
      simp only [d4_ia, B0, reduceIte, reduceEqDiff]
      obtain ⟨b632, hb633⟩ := SlF.isrow hv613 (geti_ne hx630)
      refine put1d_eq (SlF.ia hv613 hb633 hx630) ?_
      simp only [d3_st, B0, reduceIte, reduceEqDiff]
      refine put2d_stF (f := cB) (x' := true) (o := 0) hv613 (Sep.m4 hS624) hW hb633 hx630 (fun _ => rfl) rfl rfl (Nat.le_of_ble_eq_true rfl) rfl (fun c636 h634 hv637 hS635 => ?_)
      have hx638 := geti_set (x' := true) hx630
      simp only [run_draw_nil, run_seq, run_reg, run_mv, run_ops_nil, run_ret, B0, reduceIte, reduceEqDiff]
      obtain ⟨c639, hv640, hS641⟩ := SlG.cls0 (c := c618) (os := c626) hv621 rfl hx616 hk_nil (Chan.RI (x := x615) hv627) (Sep.m2 (Sep.m2 hS635))
      have hv642 := SlG.toN hv640
      obtain ⟨c643, hv644, hS645⟩ := SlG.cls (e' := (Picture.mk x597.Taken x597.Amount x597.In (List.set x597.Closed x615.From.toNat true))) (c := c600) (os := c608 ++
          (c636)) hv603 rfl hx598 hk_nil (Picture.RI (x := (Picture.mk x597.Taken x597.Amount x597.In (List.set x597.Closed x615.From.toNat true))) hv609 hv637) (Sep.ni2
          (c1 := c608) (c2 := c636) (Sep.m3 (Sep.m3 (Sep.m1 hS641))))
      have hx646 := geti_set (x' := (Picture.mk x597.Taken x597.Amount x597.In (List.set x597.Closed x615.From.toNat true))) hx598
      have hv647 := SlG.toN hv644
      have he := some_inj hF631
      subst he
      simp only [end_ret1, B0, reduceIte, reduceEqDiff]
      exact ⟨c520, c639, c643, by first | trivial | rfl, hv521, hv642, hv647, (Sep.m3 (Sep.m3 (Sep.m1 hS645)))⟩
    rw [iteF hc596] at hk536
    simp only [run_skip, run_seq, run_reg, run_mv, run_ops_nil, run_ret, B0, reduceIte, reduceEqDiff]
    have he := some_inj hk536
    subst he
    simp only [end_ret1, B0, reduceIte, reduceEqDiff]
    exact ⟨c520, c529, c532, by first | trivial | rfl, hv521, hv530, hv533, (Sep.m3 (Sep.m3 (Sep.m1 (Sep.m1 hS592))))⟩
  rw [iteF hc148] at hF83
  simp only [run_skip, run_blk, run_seq, run_reg, run_mv, run_ops_nil, run_ret, B0, reduceIte, reduceEqDiff]
  obtain ⟨c649, hv650, hS651⟩ := SlG.cls0 (c := c70) (os := c78) hv73 rfl hx66 hk_nil (Chan.RI (x := x65) hv79) (Sep.m1 (Sep.m1 hS76))
  have hv652 := SlG.toN hv650
  have he := some_inj hF83
  subst he
  simp only [end_ret1, B0, reduceIte, reduceEqDiff]
  exact ⟨pc0_0, c649, pc0_2, by first | trivial | rfl, ph0_0, hv652, ph0_2, (Sep.m3 (Sep.m3 (Sep.m1 (Sep.m3 hS651))))⟩
end Go.Proofs.Ytpkiieniipenjaa.X
namespace Go.Proofs.Ytpkiieniipenjaa.X
open Go
open Nat (reduceEqDiff)
theorem impl_PlaySnap_x {W : Nat → Bool} {h : Heap} (hW : ∀ b,
    (geL h.length) b → W b = true) (procs_0 : Int) (amount_1 : Int) (l_2 : List SnapStep) (r : Snap × (List Bool) × Bool)
    (hF : impl_PlaySnap procs_0 amount_1 l_2 = some r) : Ret E W 7 [.int .i64 procs_0, .int .i64 amount_1,
    lst SnapStep.cells l_2] h (fun v h' => ∃ rv0_0 rc0_0 rv0_1 rc0_1 rv0_2 rc0_2 rv1 rc1, v = .tup [.agg [rv0_0, rv0_1, rv0_2, .int .i64 r.1.Sent, .int .i64 r.1.Total], rv1,
    .bool r.2.2] ∧ SlF cI 1 3 rv0_0 r.1.Amounts rc0_0 ∧ SlN Chan.R 3 74 rv0_1 r.1.Chans rc0_1 ∧ SlN Picture.R 4 76 rv0_2 r.1.Pictures rc0_2 ∧ SlF cB 1 4 rv1 r.2.1 rc1 ∧ Sep h'
    (geL h.length) (rc0_0 ++ (rc0_1 ++ (rc0_2 ++ (rc1 ++ ([])))))) := by
  refine Ret.of (fn := x7) rfl (Run.of ?_)
  unfold impl_PlaySnap at hF
  have zf0 : argFr [.int .i64 procs_0, .int .i64 amount_1, lst SnapStep.cells l_2] 0 = .int .i64 procs_0 := rfl
  have zf1 : argFr [.int .i64 procs_0, .int .i64 amount_1, lst SnapStep.cells l_2] 1 = .int .i64 amount_1 := rfl
  have zf2 : argFr [.int .i64 procs_0, .int .i64 amount_1, lst SnapStep.cells l_2] 2 = lst SnapStep.cells l_2 := rfl
  generalize argFr [.int .i64 procs_0, .int .i64 amount_1, lst SnapStep.cells l_2] = fr0 at zf0 zf1 zf2 ⊢
  have hS : Sep h (geL h.length) [] := Sep.nil h
  simp only [x7, run_seq, run_reg, run_new, B0, reduceIte, reduceEqDiff]
  refine put2_newC hS (fun b1 h2 hS3 => ?_)
  simp only [run_mv, run_ops_nil, x7_11, run_seq, run_reg, zf0, run_call, B0, reduceIte, reduceEqDiff]
  refine call1 rfl (mapM1 snap_int (mapM1 snap_int (mapM1 snap_int mapM0))) (impl_in_x (fun b hb => decide_eq_true hb) procs_0 2 4 _ rfl) ?_
  simp only [run_un, put1_some, xnot, run_mv, B0, reduceIte, reduceEqDiff]
  refine ops_j 4 (fun fr' h' => Sep h' (geL h.length) ([Blk1 b1 [.nil, .nil, .nil, .int .i64 0,
      .int .i64 0] 30] ++ ([])) ∧ fr' 20 = .bool ((!(impl_in procs_0 2 4)) ||
      (!(impl_in amount_1 0 250))) ∧ fr' 0 = .int .i64 procs_0 ∧ fr' 1 = .int .i64 amount_1 ∧ fr' 2 = lst SnapStep.cells l_2 ∧ fr' 6 = .ptr b1 0) (fun Q5 hN6 => ?_) ?_
  · simp only [List.take_succ_cons, List.take_zero]
    simp only [run_guard (g := 16), B0, reduceIte, reduceEqDiff]
    refine guard_split (t := (!(impl_in procs_0 2 4))) (fun hg7 => ?_) (fun hg7 => ?_)
    · simp only [hg7, run_guard (g := 16), guard_off', run_pick, put1_some, xpick_t, run_ops_nil, run_nil, B0, reduceIte, reduceEqDiff]
      exact hN6 _ _ ⟨hS3, by rw [orT hg7]; simp only [B0, reduceIte, reduceEqDiff], zf0, zf1, zf2, rfl⟩
    · simp only [hg7, run_guard (g := 16), guard_false, zf1, run_mv, run_call, B0, reduceIte, reduceEqDiff]
      refine call1 rfl (mapM1 snap_int (mapM1 snap_int (mapM1 snap_int mapM0))) (impl_in_x (fun b hb => decide_eq_true hb) amount_1 0 250 _ rfl) ?_
      simp only [hg7, run_guard (g := 16), guard_false, run_un, put1_some, xnot, run_pick, xpick_f, run_ops_nil, run_nil, B0, reduceIte, reduceEqDiff]
      exact hN6 _ _ ⟨hS3, by rw [orF hg7]; simp only [B0, reduceIte, reduceEqDiff], zf0, zf1, zf2, rfl⟩
  rintro fr8 h14 ⟨hS15, f9, f10, f11, f12, f13⟩
  simp only [List.drop_succ_cons, List.drop_zero]
  simp only [f9, run_mv, B0, reduceIte, reduceEqDiff]
  refine ops_j 4 (fun fr' h' => Sep h' (geL h.length) ([Blk1 b1 [.nil, .nil, .nil, .int .i64 0,
      .int .i64 0] 30] ++ ([])) ∧ fr' 25 = .bool (((!(impl_in procs_0 2 4)) || (!(impl_in amount_1 0 250))) || (decide ((80 : Int) <
      (List.length l_2 : Int)))) ∧ fr' 0 = .int .i64 procs_0 ∧ fr' 1 = .int .i64 amount_1 ∧ fr' 2 = lst SnapStep.cells l_2 ∧ fr' 6 = .ptr b1 0) (fun Q16 hN17 => ?_) ?_
  · simp only [List.take_succ_cons, List.take_zero]
    simp only [run_guard (g := 21), B0, reduceIte, reduceEqDiff]
    refine guard_split (t := ((!(impl_in procs_0 2 4)) || (!(impl_in amount_1 0 250)))) (fun hg18 => ?_) (fun hg18 => ?_)
    · simp only [hg18, run_guard (g := 21), guard_off', run_pick, put1_some, xpick_t, run_ops_nil, run_nil, B0, reduceIte, reduceEqDiff]
      exact hN17 _ _ ⟨hS15, by rw [orT hg18]; simp only [B0, reduceIte, reduceEqDiff], f10, f11, f12, f13⟩
    · simp only [hg18, run_guard (g := 21), guard_false, f12, run_mv, run_len, put1_some, xlen_lst, run_bin, xgtr, run_pick, xpick_f, run_ops_nil, run_nil, B0, reduceIte,
        reduceEqDiff]
      exact hN17 _ _ ⟨hS15, by rw [orF hg18]; simp only [B0, reduceIte, reduceEqDiff], f10, f11, f12, f13⟩
  rintro fr19 h25 ⟨hS26, f20, f21, f22, f23, f24⟩
  simp only [List.drop_succ_cons, List.drop_zero]
  simp only [run_ops_nil, x7_2, f20, run_cond, B0, reduceIte, reduceEqDiff]
  refine cond_split (t := (((!(impl_in procs_0 2 4)) || (!(impl_in amount_1 0 250))) || (decide ((80 : Int) < (List.length l_2 : Int))))) (fun hc27 => ?_) (fun hc27 => ?_)
  · rw [iteT hc27] at hF
    simp only [x7_1, run_seq, run_reg, run_build, evp, B0, reduceIte, reduceEqDiff]
    refine put1_eq (v := .agg [.nil, .nil, .nil, .int .i64 0, .int .i64 0]) rfl ?_
    simp only [f24, run_st, B0, reduceIte, reduceEqDiff]
    refine put2_stCx (us := [.nil, .nil, .nil, .int .i64 0, .int .i64 0]) rfl (cs' := [.nil, .nil, .nil, .int .i64 0,
        .int .i64 0]) hS26 hW rfl rfl (Nat.le_of_ble_eq_true rfl) rfl (fun h28 hS29 => ?_)
    simp only [run_mv, run_ops_nil, run_ret, B0, reduceIte, reduceEqDiff]
    have he := some_inj hF
    subst he
    refine end_ret_m (mapM1 (res_cell (bb := b1) (oo := 0) (v := .agg [.nil, .nil, .nil, .int .i64 0,
        .int .i64 0]) (f24) ((xld_bs (Sep.bk _ _ _ hS29)).trans rfl)) (mapM1 (res_t (v := .nil) (rfl)) (mapM1 (res_t (v := .bool false) (rfl)) mapM0))) ?_
    exact ⟨.nil, [], .nil, [], .nil, [], .nil, [], by first | trivial | rfl, SlF.nil, SlN.nil, SlN.nil, SlF.nil, ((Sep.dc (hS29)) : Sep _ (geL h.length) ([]))⟩
  rw [iteF hc27] at hF
  obtain ⟨v30, hx31, hF32⟩ := bind_some' hF
  simp only [run_skip, x7_10, run_seq, run_reg, f21, run_mv, f22, run_call, B0, reduceIte, reduceEqDiff]
  refine call2 rfl hS26 (mapM1 snap_int (mapM1 snap_int mapM0)) (impl_newSnap_x (fun b hb => decide_eq_true hb) procs_0 amount_1 v30 hx31) ?_
  rintro _ h45 ⟨v33, c34, v37, c38, v41, c42, rfl, hv35, hv39, hv43, hS46⟩
  refine ⟨_, free_a (all_c (SlF.free1 hv35) (all_c (SlN.free1 hv39) (all_c (SlN.free1 hv43) (all_c rfl (all_c rfl all_n))))), hS46,
      (pf_app (SlF.pf hv35 (fun _ => rfl)) (pf_app (SlN.pf hv39 Chan.RO) (pf_app (SlN.pf hv43 Picture.RO) pf_nil))), fun h47 hS48 => ?_⟩
  have hS49 : Sep h47 (geL h.length) (c34 ++ (c38 ++ (c42 ++ ([Blk1 b1 [.nil, .nil, .nil, .int .i64 0, .int .i64 0] 30] ++ ([]))))) := by simpa only [List.append_assoc,
      List.nil_append] using hS48
  simp only [run_new, B0, reduceIte, reduceEqDiff]
  refine put2_newC hS49 (fun b50 h51 hS52 => ?_)
  simp only [run_st, B0, reduceIte, reduceEqDiff]
  refine put2_stCx (us := [v33, v37, v41, .int .i64 v30.Sent, .int .i64 v30.Total]) rfl (cs' := [v33, v37, v41, .int .i64 v30.Sent,
      .int .i64 v30.Total]) hS52 hW rfl (all_c (SlF.one hv35) (all_c (SlN.one hv39) (all_c (SlN.one hv43) (all_c rfl (all_c rfl all_n))))) (Nat.le_of_ble_eq_true rfl) rfl
      (fun h54 hS55 => ?_)
  simp only [run_ops_nil, x7_9, run_seq, run_reg, run_buildS, evp, B0, reduceIte, reduceEqDiff]
  refine put2_buildSF (n := 1) (f := cB) ([] : List Bool) hS55 rfl rfl (fun v56 c57 h58 hv59 hS60 => ?_)
  simp only [run_mv, run_ops_nil, x7_8, run_seq, run_reg, f23, run_len, put1_some, xlen_lst, B0, reduceIte, reduceEqDiff]
  obtain ⟨oc94, hX96, hk97⟩ := jn_some hF32
  simp only [x7_6]
  refine rangeL_j (σ := (List Bool) × Snap × (List Int) × (List Chan) × (List Picture)) l_2
      (fun i92 x93 s151 => impl_PlaySnap_b1 i92 x93 s151.1 s151.2.1 s151.2.2.1 s151.2.2.2.1 s151.2.2.2.2) (fun s fr' h' => ∃ v79 c80 c84 c87 c90,
      fr' 6 = .ptr b1 0 ∧ fr' 9 = .ptr b50 0 ∧ fr' 10 = v79 ∧ fr' 31 = lst SnapStep.cells l_2 ∧ SlF cB 1 4 v79 s.1 c80 ∧ SlF cI 1 3 v33 s.2.2.1 c84 ∧ SlN Chan.R 3 74 v37 s.2.2.2.1 c87 ∧ SlN Picture.R 4 76 v41 s.2.2.2.2 c90 ∧ Sep h'
      (geL h.length) ([Blk1 b1 [.nil, .nil, .nil, .int .i64 0, .int .i64 0] 30] ++ ([Blk1 b50 [v33, v37, v41, .int .i64 s.2.1.Sent,
      .int .i64 s.2.1.Total] 30] ++ (c80 ++ (c84 ++ (c87 ++ (c90 ++ ([])))))))) hX96 ⟨v56, c57, c34, c38, c42, f24, rfl, rfl, rfl, hv59, hv35, hv39, hv43,
      (Sep.m5 (Sep.m4 (Sep.m3 (Sep.m4 (Sep.m4 (Sep.m4 hS60))))))⟩ (by simp only [B0, reduceIte, reduceEqDiff]) (by simp only [B0, reduceIte,
      reduceEqDiff]) (fun _ _ _ h => h) rfl rfl (fun _ _ _ _ h => h) (fun _ _ _ _ h => h) (fun _ _ _ _ h => h) (by decide) ?_ ?_
  · rintro i92 x93 ⟨s77, s82, s83, s86, s89⟩ fr106 h107 hx113 ⟨v79, c80, c84, c87, c90, f109, f110, f111, f112, hv81, hv85, hv88, hv91,
      hS108⟩ f114 f115 oc95 hF98 hr99 Q100 hN101 hB105 hK102 hR103 hE104
    dsimp only at *
    unfold impl_PlaySnap_b1 at hF98
    simp only [x7_4, run_seq, run_reg, f112, f114, run_ia, B0, reduceIte, reduceEqDiff]
    refine put1_eq (v := .ref (SnapStep.cells x93) 0) (xia_lstN hx113 rfl) ?_
    simp only [run_ld, B0, reduceIte, reduceEqDiff]
    refine put1_eq (v := .agg [.int .i64 x93.Kind, .int .i64 x93.K, .int .i64 x93.N]) rfl ?_
    simp only [run_new, B0, reduceIte, reduceEqDiff]
    refine put2_newC hS108 (fun b116 h117 hS118 => ?_)
    simp only [run_st, B0, reduceIte, reduceEqDiff]
    refine put2_stCx (us := [.int .i64 x93.Kind, .int .i64 x93.K, .int .i64 x93.N]) rfl (cs' := [.int .i64 x93.Kind, .int .i64 x93.K,
        .int .i64 x93.N]) hS118 hW rfl rfl (Nat.le_of_ble_eq_true rfl) rfl (fun h120 hS121 => ?_)
    simp only [run_ops_nil, B0, reduceIte, reduceEqDiff]
    refine frz_stepC hS121 hW (by simp only [B0, reduceIte, reduceEqDiff]) (fun h122 hS123 => ?_)
    simp only [run_frz_nil, x7_3, run_reg, f111, run_mv, run_ld, B0, reduceIte, reduceEqDiff]
    refine put1_eq (v := .agg [.int .i64 x93.Kind, .int .i64 x93.K, .int .i64 x93.N]) rfl ?_
    obtain ⟨v124, hx125, hF126⟩ := bind_some' hF98
    simp only [f110, run_call, B0, reduceIte, reduceEqDiff]
    refine call0 rfl (impl_Snap_step_x hW b50 (Snap.mk s83 s86 s89 s82.Sent s82.Total) v33 c84 hv85 v37 c87 hv88 v41 c90 hv91 x93 v124 hx125 (Sep.m4 (Sep.m5 (Sep.m5
        (Sep.m5 hS123))))) ?_
    rintro _ h133 ⟨c127, c129, c131, rfl, hv128, hv130, hv132, hS134⟩
    simp only [run_buildS, evp, B0, reduceIte, reduceEqDiff]
    refine put2_buildSF (n := 1) (f := cB) [v124.1] hS134 rfl rfl (fun v135 c136 h137 hv138 hS139 => ?_)
    simp only [run_app, B0, reduceIte, reduceEqDiff]
    obtain ⟨l141, hx142, hF143⟩ := bind_some' hF126
    refine put2_appF (f := cB) hv81 (Sep.m6 hS139) hW (fun _ => rfl) (fun _ => rfl) (SlF.first hv138 hS139 (fun _ => rfl)) hx142 (fun v144 c145 h146 hv147 hS148 => ?_)
    simp only [run_mv, run_ops_nil, run_nil, B0, reduceIte, reduceEqDiff]
    have e150 := some_inj hF143
    exact hN101 _ _ _ e150.symm ⟨v144, c145, c127, c129, c131, f109, f110, rfl, f112, hv147, hv128, hv130, hv132,
        (Sep.m5 (Sep.m4 (Sep.m3 (Sep.m4 (Sep.m4 (Sep.m4 (Sep.dc (Sep.m1 hS148))))))))⟩ (f114) (f115)
  rintro ⟨s152, s157, s158, s161, s164⟩ fr167 h168 rfl ⟨v154, c155, c159, c162, c165, f170, f171, f172, f173, hv156, hv160, hv163, hv166, hS169⟩
  dsimp only [jnO] at hk97
  dsimp only at *
  unfold impl_PlaySnap_j1 at hk97
  simp only [x7_7, run_seq, run_reg, f171, run_ld, B0, reduceIte, reduceEqDiff]
  refine put1_eq (v := .agg [v33, v37, v41, .int .i64 s157.Sent, .int .i64 s157.Total]) ((xld_bs (Sep.bk _ _ _ (Sep.m1 hS169))).trans rfl) ?_
  simp only [f172, run_mv, f170, run_st, B0, reduceIte, reduceEqDiff]
  refine put2_stCx (us := [v33, v37, v41, .int .i64 s157.Sent, .int .i64 s157.Total]) rfl (cs' := [v33, v37, v41, .int .i64 s157.Sent,
      .int .i64 s157.Total]) hS169 hW rfl (all_c (SlF.one hv160) (all_c (SlN.one hv163) (all_c (SlN.one hv166) (all_c rfl (all_c rfl all_n))))) (Nat.le_of_ble_eq_true rfl) rfl
      (fun h174 hS175 => ?_)
  simp only [run_mv, run_ops_nil, run_ret, B0, reduceIte, reduceEqDiff]
  have he := some_inj hk97
  subst he
  refine end_ret_m (mapM1 (res_cell (bb := b1) (oo := 0) (v := .agg [v33, v37, v41, .int .i64 s157.Sent,
      .int .i64 s157.Total]) (f170) ((xld_bs (Sep.bk _ _ _ hS175)).trans rfl)) (mapM1 (res_t (v := v154) (rfl)) (mapM1 (res_t (v := .bool true) (rfl)) mapM0))) ?_
  exact ⟨v33, c159, v37, c162, v41, c165, v154, c155, by first | trivial | rfl, hv160, hv163, hv166, hv156, (Sep.m3 (Sep.m3 (Sep.m3 (Sep.dc ((Sep.dc (hS175)))))))⟩
theorem spec_l8Chans_x {W : Nat → Bool} {h : Heap} (hW : ∀ b,
    (geL h.length) b → W b = true) (k : Nat) (procs_0 : Int) (r : List Chan) (hF : spec_l8Chans k procs_0 = some r) : Ret E W 65 [.int .i64 procs_0] h (fun v h' => ∃ rv0 rc0,
    v = rv0 ∧ SlN Chan.R 3 74 rv0 r rc0 ∧ Sep h' (geL h.length) (rc0 ++ ([]))) := by
  refine Ret.of (fn := x65) rfl (Run.of ?_)
  unfold spec_l8Chans at hF
  have zf0 : argFr [.int .i64 procs_0] 0 = .int .i64 procs_0 := rfl
  generalize argFr [.int .i64 procs_0] = fr0 at zf0 ⊢
  have hS : Sep h (geL h.length) [] := Sep.nil h
  simp only [x65, run_seq, run_reg, run_mv, run_ops_nil, x65_14, x65_13, B0, reduceIte, reduceEqDiff]
  obtain ⟨oc15, hX17, hk18⟩ := jn_some hF
  simp only [x65_12]
  refine loopF_j (σ := (List Chan) × Int) (fun s106 => spec_l8Chans_b2 k procs_0 s106.1 s106.2) (fun s fr' h' => ∃ v9 c10,
      fr' 0 = .int .i64 procs_0 ∧ fr' 3 = v9 ∧ fr' 4 = .int .i64 s.2 ∧ SlN Chan.R 3 74 v9 s.1 c10 ∧ Sep h' (geL h.length) (c10 ++ ([]))) hX17 ⟨.nil, [], zf0, rfl, rfl, SlN.nil,
      (hS : Sep _ (geL h.length) ([]))⟩ (fun _ _ _ h => h) ?_ ?_
  · rintro ⟨s7, s12⟩ fr27 h28 ⟨v9, c10, f30, f31, f32, hv11, hS29⟩ oc16 hF19 hr20 Q21 hN22 hK23 hR24 hE25
    dsimp only at *
    unfold spec_l8Chans_b2 at hF19
    simp only [x65_10, run_seq, run_reg, f32, run_mv, f30, run_bin, put1_some, xlss, run_ops_nil, run_cond, B0, reduceIte, reduceEqDiff]
    refine cond_split (t := (decide (s12 < procs_0))) (fun hc34 => ?_) (fun hc34 => ?_)
    · rw [iteT hc34] at hF19
      simp only [run_skip, x65_9, run_seq, run_block, x65_8, run_reg, run_mv, run_ops_nil, B0, reduceIte, reduceEqDiff]
      obtain ⟨oc49, hX51, hk52⟩ := jn_some hF19
      simp only [x65_7]
      refine loopF_j (σ := (List Chan) × Int) (fun s89 => spec_l8Chans_b1 procs_0 s12 s89.1 s89.2) (fun s fr' h' => ∃ v43 c44,
          fr' 0 = .int .i64 procs_0 ∧ fr' 3 = v43 ∧ fr' 4 = .int .i64 s12 ∧ fr' 5 = .int .i64 s.2 ∧ SlN Chan.R 3 74 v43 s.1 c44 ∧ Sep h' (geL h.length) (c44 ++ ([]))) hX51 ⟨v9,
          c10, f30, f31, f32, rfl, hv11, hS29⟩ (fun _ _ _ h => h) ?_ ?_
      · rintro ⟨s41, s46⟩ fr61 h62 ⟨v43, c44, f64, f65, f66, f67, hv45, hS63⟩ oc50 hF53 hr54 Q55 hN56 hK57 hR58 hE59
        dsimp only at *
        unfold spec_l8Chans_b1 at hF53
        simp only [x65_5, run_seq, run_reg, f67, run_mv, f64, run_bin, put1_some, xlss, run_ops_nil, run_cond, B0, reduceIte, reduceEqDiff]
        refine cond_split (t := (decide (s46 < procs_0))) (fun hc69 => ?_) (fun hc69 => ?_)
        · rw [iteT hc69] at hF53
          simp only [run_skip, x65_4, run_seq, run_block, x65_3, run_reg, f66, run_mv, f67, run_bin, put1_some, xneq, run_ops_nil, x65_2, run_cond, B0, reduceIte, reduceEqDiff]
          refine cond_split (t := (decide (s12 ≠ s46))) (fun hc70 => ?_) (fun hc70 => ?_)
          · rw [iteT hc70] at hF53
            simp only [x65_1, run_reg, f65, run_mv, f66, f67, run_build, evp, B0, reduceIte, reduceEqDiff]
            refine put1_eq (v := .agg [.int .i64 s12, .int .i64 s46, .nil]) rfl ?_
            simp only [run_buildS, evp, B0, reduceIte, reduceEqDiff]
            refine put2_buildSN (R := Chan.R) (n := 3) (cs := [.int .i64 s12, .int .i64 s46,
                .nil]) (os := []) (Sep.bi1 (c1 := []) (S := (c44 ++ ([]))) (hS63 : Sep _ (geL h.length) (c44 ++ ([])))) rfl (Chan.RI (x := (Chan.mk s12 s46 [])) SlF.nil) rfl
                (fun v71 c72 h73 hv74 hS75 => ?_)
            simp only [run_app, B0, reduceIte, reduceEqDiff]
            obtain ⟨l77, hx78, hF79⟩ := bind_some' hF53
            refine put2_appN (R := Chan.R) (c := c44) hv45 hv74 (Sep.m1 hS75) hW Chan.RO.len Chan.RO.one hx78 (fun v80 c81 h82 hv83 hS84 => ?_)
            simp only [run_mv, run_ops_nil, run_blk, run_reg, f67, run_bin, put1_some, xadd, run_nil, B0, reduceIte, reduceEqDiff]
            have e86 := some_inj hF79
            exact hN56 _ _ _ e86.symm ⟨v80, c81, f64, rfl, f66, rfl, hv83, hS84⟩
          rw [iteF hc70] at hF53
          simp only [run_skip, run_blk, run_reg, f67, run_mv, run_bin, put1_some, xadd, run_ops_nil, run_nil, B0, reduceIte, reduceEqDiff]
          have e87 := some_inj hF53
          exact hN56 _ _ _ e87.symm ⟨v43, c44, f64, f65, f66, rfl, hv45, hS63⟩
        rw [iteF hc69] at hF53
        simp only [run_exit, out_code, out_nil, B0, reduceIte, reduceEqDiff]
        have e88 := some_inj hF53
        exact hK57 _ _ _ e88.symm ⟨v43, c44, f64, f65, f66, f67, hv45, hS63⟩
      rintro ⟨s90, s95⟩ fr96 h97 rfl ⟨v92, c93, f99, f100, f101, f102, hv94, hS98⟩
      dsimp only [jnO] at hk52
      dsimp only at *
      unfold spec_l8Chans_j1 at hk52
      simp only [run_blk, run_reg, f101, run_mv, run_bin, put1_some, xadd, run_ops_nil, run_nil, B0, reduceIte, reduceEqDiff]
      have e103 := some_inj hk52
      exact hN22 _ _ _ e103.symm ⟨v92, c93, f99, f100, rfl, hv94, hS98⟩
    rw [iteF hc34] at hF19
    simp only [run_exit, out_code, out_nil, B0, reduceIte, reduceEqDiff]
    have e105 := some_inj hF19
    exact hK23 _ _ _ e105.symm ⟨v9, c10, f30, f31, f32, hv11, hS29⟩
  rintro ⟨s107, s112⟩ fr113 h114 rfl ⟨v109, c110, f116, f117, f118, hv111, hS115⟩
  dsimp only [jnO] at hk18
  dsimp only at *
  unfold spec_l8Chans_j2 at hk18
  simp only [run_seq, run_reg, f117, run_mv, run_ops_nil, run_ret, B0, reduceIte, reduceEqDiff]
  have he := some_inj hk18
  subst he
  simp only [end_ret1, B0, reduceIte, reduceEqDiff]
  exact ⟨v109, c110, by first | trivial | rfl, hv111, hS115⟩
theorem spec_l1In_x {W : Nat → Bool} {h : Heap} (hW : ∀ b,
    (geL h.length) b → W b = true) (n_0 : Int) (lo_1 : Int) (hi_2 : Int) (r : Bool) (hF : some (spec_l1In n_0 lo_1 hi_2) = some r) : Ret E W 66 [.int .i64 n_0, .int .i64 lo_1,
    .int .i64 hi_2] h (fun v h' => cut h.length h' E.sz false 9 v = some (.bool r)) := by
  refine Ret.of (fn := x66) rfl (Run.of ?_)
  unfold spec_l1In at hF
  have zf0 : argFr [.int .i64 n_0, .int .i64 lo_1, .int .i64 hi_2] 0 = .int .i64 n_0 := rfl
  have zf1 : argFr [.int .i64 n_0, .int .i64 lo_1, .int .i64 hi_2] 1 = .int .i64 lo_1 := rfl
  have zf2 : argFr [.int .i64 n_0, .int .i64 lo_1, .int .i64 hi_2] 2 = .int .i64 hi_2 := rfl
  generalize argFr [.int .i64 n_0, .int .i64 lo_1, .int .i64 hi_2] = fr0 at zf0 zf1 zf2 ⊢
  have hS : Sep h (geL h.length) [] := Sep.nil h
  simp only [x66, run_seq, run_reg, run_mv, run_ops_nil, x66_1, zf0, zf1, run_bin, put1_some, xgeq, B0, reduceIte, reduceEqDiff]
  refine ops_j 4 (fun fr' h' => Sep h' (geL h.length) ([]) ∧ fr' 14 = .bool ((decide (lo_1 ≤ n_0)) && (decide (n_0 ≤ hi_2)))) (fun Q1 hN2 => ?_) ?_
  · simp only [List.take_succ_cons, List.take_zero]
    simp only [run_guard (g := 10), B0, reduceIte, reduceEqDiff]
    refine guard_split (t := (decide (lo_1 ≤ n_0))) (fun hg3 => ?_) (fun hg3 => ?_)
    · simp only [hg3, run_guard (g := 10), guard_true, zf0, run_mv, zf2, run_bin, put1_some, xleq, run_pick, xpick_t, run_ops_nil, run_nil, B0, reduceIte, reduceEqDiff]
      exact hN2 _ _ ⟨hS, by rw [andT hg3]; simp only [B0, reduceIte, reduceEqDiff]⟩
    · simp only [hg3, run_guard (g := 10), guard_off, run_pick, put1_some, xpick_f, run_ops_nil, run_nil, B0, reduceIte, reduceEqDiff]
      exact hN2 _ _ ⟨hS, by rw [andF hg3]; simp only [B0, reduceIte, reduceEqDiff]⟩
  rintro fr4 h6 ⟨hS7, f5⟩
  simp only [List.drop_succ_cons, List.drop_zero]
  simp only [f5, run_mv, run_ops_nil, run_ret, B0, reduceIte, reduceEqDiff]
  have he := some_inj hF
  subst he
  simp only [end_ret1, B0, reduceIte, reduceEqDiff]
  exact rfl
theorem spec_NewSnap_x {W : Nat → Bool} {h : Heap} (hW : ∀ b,
    (geL h.length) b → W b = true) (k : Nat) (procs_0 : Int) (amount_1 : Int) (r : Snap × Bool) (hF : spec_NewSnap k procs_0 amount_1 = some r) : Ret E W 35 [.int .i64 procs_0,
    .int .i64 amount_1] h (fun v h' => ∃ rv0_0 rc0_0 rv0_1 rc0_1 rv0_2 rc0_2, v = .tup [.agg [rv0_0, rv0_1, rv0_2, .int .i64 r.1.Sent, .int .i64 r.1.Total],
    .bool r.2] ∧ SlF cI 1 3 rv0_0 r.1.Amounts rc0_0 ∧ SlN Chan.R 3 74 rv0_1 r.1.Chans rc0_1 ∧ SlN Picture.R 4 76 rv0_2 r.1.Pictures rc0_2 ∧ Sep h' (geL h.length) (rc0_0 ++
    (rc0_1 ++ (rc0_2 ++ ([]))))) := by
  refine Ret.of (fn := x35) rfl (Run.of ?_)
  unfold spec_NewSnap at hF
  have zf0 : argFr [.int .i64 procs_0, .int .i64 amount_1] 0 = .int .i64 procs_0 := rfl
  have zf1 : argFr [.int .i64 procs_0, .int .i64 amount_1] 1 = .int .i64 amount_1 := rfl
  generalize argFr [.int .i64 procs_0, .int .i64 amount_1] = fr0 at zf0 zf1 ⊢
  have hS : Sep h (geL h.length) [] := Sep.nil h
  simp only [x35, run_seq, run_reg, run_new, B0, reduceIte, reduceEqDiff]
  refine put2_newC hS (fun b1 h2 hS3 => ?_)
  simp only [run_mv, run_ops_nil, x35_10, run_seq, run_reg, zf0, run_call, B0, reduceIte, reduceEqDiff]
  refine call1 rfl (mapM1 snap_int (mapM1 snap_int (mapM1 snap_int mapM0))) (spec_l1In_x (fun b hb => decide_eq_true hb) procs_0 2 4 _ rfl) ?_
  simp only [run_un, put1_some, xnot, run_mv, B0, reduceIte, reduceEqDiff]
  refine ops_j 4 (fun fr' h' => Sep h' (geL h.length) ([Blk1 b1 [.nil, .nil, .nil, .int .i64 0,
      .int .i64 0] 30] ++ ([])) ∧ fr' 15 = .bool ((!(spec_l1In procs_0 2 4)) ||
      (!(spec_l1In amount_1 0 250))) ∧ fr' 0 = .int .i64 procs_0 ∧ fr' 1 = .int .i64 amount_1 ∧ fr' 4 = .ptr b1 0) (fun Q5 hN6 => ?_) ?_
  · simp only [List.take_succ_cons, List.take_zero]
    simp only [run_guard (g := 11), B0, reduceIte, reduceEqDiff]
    refine guard_split (t := (!(spec_l1In procs_0 2 4))) (fun hg7 => ?_) (fun hg7 => ?_)
    · simp only [hg7, run_guard (g := 11), guard_off', run_pick, put1_some, xpick_t, run_ops_nil, run_nil, B0, reduceIte, reduceEqDiff]
      exact hN6 _ _ ⟨hS3, by rw [orT hg7]; simp only [B0, reduceIte, reduceEqDiff], zf0, zf1, rfl⟩
    · simp only [hg7, run_guard (g := 11), guard_false, zf1, run_mv, run_call, B0, reduceIte, reduceEqDiff]
      refine call1 rfl (mapM1 snap_int (mapM1 snap_int (mapM1 snap_int mapM0))) (spec_l1In_x (fun b hb => decide_eq_true hb) amount_1 0 250 _ rfl) ?_
      simp only [hg7, run_guard (g := 11), guard_false, run_un, put1_some, xnot, run_pick, xpick_f, run_ops_nil, run_nil, B0, reduceIte, reduceEqDiff]
      exact hN6 _ _ ⟨hS3, by rw [orF hg7]; simp only [B0, reduceIte, reduceEqDiff], zf0, zf1, rfl⟩
  rintro fr8 h13 ⟨hS14, f9, f10, f11, f12⟩
  simp only [List.drop_succ_cons, List.drop_zero]
  simp only [run_ops_nil, x35_1, f9, run_cond, B0, reduceIte, reduceEqDiff]
  refine cond_split (t := ((!(spec_l1In procs_0 2 4)) || (!(spec_l1In amount_1 0 250)))) (fun hc15 => ?_) (fun hc15 => ?_)
  · rw [iteT hc15] at hF
    simp only [run_seq, run_reg, run_build, evp, B0, reduceIte, reduceEqDiff]
    refine put1_eq (v := .agg [.nil, .nil, .nil, .int .i64 0, .int .i64 0]) rfl ?_
    simp only [f12, run_st, B0, reduceIte, reduceEqDiff]
    refine put2_stCx (us := [.nil, .nil, .nil, .int .i64 0, .int .i64 0]) rfl (cs' := [.nil, .nil, .nil, .int .i64 0,
        .int .i64 0]) hS14 hW rfl rfl (Nat.le_of_ble_eq_true rfl) rfl (fun h16 hS17 => ?_)
    simp only [run_mv, run_ops_nil, run_ret, B0, reduceIte, reduceEqDiff]
    have he := some_inj hF
    subst he
    refine end_ret_m (mapM1 (res_cell (bb := b1) (oo := 0) (v := .agg [.nil, .nil, .nil, .int .i64 0,
        .int .i64 0]) (f12) ((xld_bs (Sep.bk _ _ _ hS17)).trans rfl)) (mapM1 (res_t (v := .bool false) (rfl)) mapM0)) ?_
    exact ⟨.nil, [], .nil, [], .nil, [], by first | trivial | rfl, SlF.nil, SlN.nil, SlN.nil, ((Sep.dc (hS17)) : Sep _ (geL h.length) ([]))⟩
  rw [iteF hc15] at hF
  obtain ⟨v18, hx19, hF20⟩ := bind_some' hF
  simp only [run_skip, x35_9, run_seq, run_reg, f10, run_mv, run_call, B0, reduceIte, reduceEqDiff]
  refine call2 rfl hS14 (mapM1 snap_int mapM0) (spec_l8Chans_x (fun b hb => decide_eq_true hb) k procs_0 v18 hx19) ?_
  rintro v21 h25 ⟨_, c22, rfl, hv23, hS26⟩
  refine ⟨_, free_1 (SlN.free1 hv23), hS26, (pf_app (SlN.pf hv23 Chan.RO) pf_nil), fun h27 hS28 => ?_⟩
  have hS29 : Sep h27 (geL h.length) (c22 ++ ([Blk1 b1 [.nil, .nil, .nil, .int .i64 0, .int .i64 0] 30] ++ ([]))) := by simpa only [List.append_assoc, List.nil_append] using hS28
  simp only [f10, run_mv, f11, run_bin, put1_some, xmul, run_build, evp, B0, reduceIte, reduceEqDiff]
  refine put1_eq (v := .agg [.nil, v21, .nil, .int .i64 0, .int .i64 (IntKind.wrap .i64 (procs_0 * amount_1))]) (pbuild_some (fill1 (us := [v21]) (vs := [.nil, v21, .nil,
      .int .i64 0, .int .i64 0]) (cells_one (SlN.one hv23)) rfl (Nat.le_of_ble_eq_true rfl) (all_c (SlN.one hv23) all_n) rfl (fill1 (us := [.int .i64 (IntKind.wrap .i64
      (procs_0 * amount_1))]) (vs := [.nil, v21, .nil, .int .i64 0, .int .i64 (IntKind.wrap .i64 (procs_0 * amount_1))]) rfl rfl (Nat.le_of_ble_eq_true rfl) rfl rfl fill0))) ?_
  simp only [run_new, B0, reduceIte, reduceEqDiff]
  refine put2_newC hS29 (fun b30 h31 hS32 => ?_)
  simp only [run_st, B0, reduceIte, reduceEqDiff]
  refine put2_stCx (us := [.nil, v21, .nil, .int .i64 0, .int .i64 (IntKind.wrap .i64 (procs_0 * amount_1))]) rfl (cs' := [.nil, v21, .nil, .int .i64 0,
      .int .i64 (IntKind.wrap .i64 (procs_0 * amount_1))]) hS32 hW rfl (all_c rfl (all_c (SlN.one hv23) (all_c rfl (all_c rfl (all_c rfl all_n)))))
      (Nat.le_of_ble_eq_true rfl) rfl (fun h34 hS35 => ?_)
  simp only [run_ops_nil, x35_8, run_seq, run_reg, run_mv, B0, reduceIte, reduceEqDiff]
  obtain ⟨oc58, hX60, hk61⟩ := jn_some hF20
  simp only [x35_7]
  refine loopF_j (σ := Int × Snap) (fun s134 => spec_NewSnap_b1 procs_0 amount_1 v18 s134.1 s134.2) (fun s fr' h' => ∃ v49 c50 v53 c54,
      fr' 0 = .int .i64 procs_0 ∧ fr' 1 = .int .i64 amount_1 ∧ fr' 4 = .ptr b1 0 ∧ fr' 6 = .ptr b30 0 ∧ fr' 7 = .int .i64 s.1 ∧ SlF cI 1 3 v49 s.2.Amounts c50 ∧ SlN Picture.R 4 76 v53 s.2.Pictures c54 ∧ Sep h'
      (geL h.length) ([Blk1 b1 [.nil, .nil, .nil, .int .i64 0, .int .i64 0] 30] ++ ([Blk1 b30 [v49, v21, v53, .int .i64 s.2.Sent,
      .int .i64 s.2.Total] 30] ++ (c50 ++ (c22 ++ (c54 ++ ([]))))))) hX60 ⟨.nil, [], .nil, [], f10, f11, f12, rfl, rfl, SlF.nil, SlN.nil,
      ((Sep.m2 (Sep.m1 (Sep.m1 hS35))) : Sep _ (geL h.length) ([Blk1 b1 [.nil, .nil, .nil, .int .i64 0, .int .i64 0] 30] ++ ([Blk1 b30 [.nil, v21, .nil, .int .i64 0,
      .int .i64 (IntKind.wrap .i64 (procs_0 * amount_1))] 30] ++ (c22 ++ ([])))))⟩ (fun _ _ _ h => h) ?_ ?_
  · rintro ⟨s46, s47⟩ fr70 h71 ⟨v49, c50, v53, c54, f73, f74, f75, f76, f77, hv51, hv55, hS72⟩ oc59 hF62 hr63 Q64 hN65 hK66 hR67 hE68
    dsimp only at *
    unfold spec_NewSnap_b1 at hF62
    simp only [x35_5, run_seq, run_reg, f77, run_mv, f73, run_bin, put1_some, xlss, run_ops_nil, run_cond, B0, reduceIte, reduceEqDiff]
    refine cond_split (t := (decide (s46 < procs_0))) (fun hc79 => ?_) (fun hc79 => ?_)
    · rw [iteT hc79] at hF62
      simp only [run_skip, x35_4, run_seq, run_block, x35_3, run_reg, f76, run_fa, put1_some, Nat.reduceAdd, Nat.zero_add, Nat.add_zero, xfa_ptr, run_ld, B0, reduceIte,
          reduceEqDiff]
      refine put1_eq (v := v49) ((xld_b (Sep.bk _ _ _ (Sep.m1 hS72))).trans rfl) ?_
      simp only [f74, run_mv, run_buildS, evp, B0, reduceIte, reduceEqDiff]
      refine put2_buildSF (n := 1) (f := cI) [amount_1] hS72 rfl rfl (fun v80 c81 h82 hv83 hS84 => ?_)
      simp only [run_app, B0, reduceIte, reduceEqDiff]
      obtain ⟨l86, hx87, hF88⟩ := bind_some' hF62
      refine put2_appF (f := cI) hv51 (Sep.m3 hS84) hW (fun _ => rfl) (fun _ => rfl) (SlF.first hv83 hS84 (fun _ => rfl)) hx87 (fun v89 c90 h91 hv92 hS93 => ?_)
      simp only [f76, run_fa, put1_some, Nat.reduceAdd, Nat.zero_add, Nat.add_zero, xfa_ptr, run_st, B0, reduceIte, reduceEqDiff]
      refine put2_stCx (us := [v89]) (cells_one (SlF.one hv92)) (cs' := [v89, v21, v53, .int .i64 s47.Sent,
          .int .i64 s47.Total]) (Sep.m3 hS93) hW rfl (all_c (SlF.one hv92) all_n) (Nat.le_of_ble_eq_true rfl) rfl (fun h95 hS96 => ?_)
      simp only [run_ops_nil, x35_2, run_draw, f76, d4_fa, put1d_some, Nat.reduceAdd, Nat.zero_add, Nat.add_zero, xfa_ptr, d4_ld, B0, reduceIte, reduceEqDiff]
      refine put1d_eq (v := v53) ((xld_b (Sep.bk _ _ _ hS96)).trans rfl) ?_
      obtain ⟨l97, hx98, hF99⟩ := bind_some' hF88
      simp only [f73, d4_mv, put1d_some, d4_mkS, B0, reduceIte, reduceEqDiff]
      refine put2d_mkSF (f := cI) (z := (0 : Int)) hS96 hx98 rfl (fun v100 c101 h102 hv103 hS104 => ?_)
      obtain ⟨l106, hx107, hF108⟩ := bind_some' hF99
      simp only [f73, d4_mv, put1d_some, d4_mkS, B0, reduceIte, reduceEqDiff]
      refine put2d_mkSF (f := cB) (z := false) hS104 hx107 rfl (fun v109 c110 h111 hv112 hS113 => ?_)
      simp only [d4_build, evp, B0, reduceIte, reduceEqDiff]
      refine put1d_eq (v := .agg [.bool false, .int .i64 0, v100, v109]) (pbuild_some (fill1 (us := [v100]) (vs := [.bool false, .int .i64 0, v100,
          .nil]) (cells_one (SlF.one hv103)) rfl (Nat.le_of_ble_eq_true rfl) (all_c (SlF.one hv103) all_n) rfl (fill1 (us := [v109]) (vs := [.bool false, .int .i64 0, v100,
          v109]) (cells_one (SlF.one hv112)) rfl (Nat.le_of_ble_eq_true rfl) (all_c (SlF.one hv112) all_n) rfl fill0))) ?_
      simp only [d4_buildS, evp, B0, reduceIte, reduceEqDiff]
      refine put2d_buildSN (R := Picture.R) (n := 4) (cs := [.bool false, .int .i64 0, v100,
          v109]) (os := c101 ++ (c110)) (Sep.bi2 (c1 := c101) (c2 := c110) (Sep.m1 hS113)) (fill1 (us := [.bool false, .int .i64 0, v100, v109]) (vs := [.bool false, .int .i64 0,
          v100, v109]) rfl rfl (Nat.le_of_ble_eq_true rfl) (all_c rfl (all_c rfl (all_c (SlF.one hv103) (all_c (SlF.one hv112) all_n)))) rfl fill0) (Picture.RI (x :=
          (Picture.mk false 0 l97 l106)) hv103 hv112) rfl (fun v115 c116 h117 hv118 hS119 => ?_)
      simp only [d3_app, B0, reduceIte, reduceEqDiff]
      obtain ⟨l121, hx122, hF123⟩ := bind_some' hF108
      refine put2d_appN (R := Picture.R) (c := c54) hv55 hv118 (Sep.m6 hS119) hW Picture.RO.len Picture.RO.one hx122 (fun v124 c125 h126 hv127 hS128 => ?_)
      simp only [f76, d4_fa, put1d_some, Nat.reduceAdd, Nat.zero_add, Nat.add_zero, xfa_ptr, d3_st, B0, reduceIte, reduceEqDiff]
      refine put2d_stCx (us := [v124]) (cells_one (SlN.one hv127)) (cs' := [v89, v21, v124, .int .i64 s47.Sent,
          .int .i64 s47.Total]) (Sep.m1 hS128) hW rfl (all_c (SlN.one hv127) all_n) (Nat.le_of_ble_eq_true rfl) rfl (fun h130 hS131 => ?_)
      simp only [run_draw_nil, run_blk, run_reg, f77, run_mv, run_bin, put1_some, xadd, run_ops_nil, run_nil, B0, reduceIte, reduceEqDiff]
      have e132 := some_inj hF123
      exact hN65 _ _ _ e132.symm ⟨v89, c90, v124, c125, f73, f74, f75, f76, rfl, hv92, hv127, (Sep.m4 (Sep.m3 (Sep.m3 (Sep.m4 (Sep.m1 (Sep.dc (Sep.m3 hS131)))))))⟩
    rw [iteF hc79] at hF62
    simp only [run_exit, out_code, out_nil, B0, reduceIte, reduceEqDiff]
    have e133 := some_inj hF62
    exact hK66 _ _ _ e133.symm ⟨v49, c50, v53, c54, f73, f74, f75, f76, f77, hv51, hv55, (Sep.m4 (Sep.m4 (Sep.m4 (Sep.m4 (Sep.m4 hS72)))))⟩
  rintro ⟨s135, s136⟩ fr145 h146 rfl ⟨v138, c139, v142, c143, f148, f149, f150, f151, f152, hv140, hv144, hS147⟩
  dsimp only [jnO] at hk61
  dsimp only at *
  unfold spec_NewSnap_j1 at hk61
  simp only [run_seq, run_reg, f151, run_ld, B0, reduceIte, reduceEqDiff]
  refine put1_eq (v := .agg [v138, v21, v142, .int .i64 s136.Sent, .int .i64 s136.Total]) ((xld_bs (Sep.bk _ _ _ (Sep.m1 hS147))).trans rfl) ?_
  simp only [f150, run_st, B0, reduceIte, reduceEqDiff]
  refine put2_stCx (us := [v138, v21, v142, .int .i64 s136.Sent, .int .i64 s136.Total]) rfl (cs' := [v138, v21, v142, .int .i64 s136.Sent,
      .int .i64 s136.Total]) hS147 hW rfl (all_c (SlF.one hv140) (all_c (SlN.one hv23) (all_c (SlN.one hv144) (all_c rfl (all_c rfl all_n))))) (Nat.le_of_ble_eq_true rfl) rfl
      (fun h153 hS154 => ?_)
  simp only [run_mv, run_ops_nil, run_ret, B0, reduceIte, reduceEqDiff]
  have he := some_inj hk61
  subst he
  refine end_ret_m (mapM1 (res_cell (bb := b1) (oo := 0) (v := .agg [v138, v21, v142, .int .i64 s136.Sent,
      .int .i64 s136.Total]) (f150) ((xld_bs (Sep.bk _ _ _ hS154)).trans rfl)) (mapM1 (res_t (v := .bool true) (rfl)) mapM0)) ?_
  exact ⟨v138, c139, v21, c22, v142, c143, by first | trivial | rfl, hv140, hv23, hv144, (Sep.m2 (Sep.m2 (Sep.m2 (Sep.dc ((Sep.dc (hS154)))))))⟩
theorem spec_l8Take_x {W : Nat → Bool} {h : Heap} {lo : Nat → Prop} {S0 : List Obj} (hW : ∀ b,
    lo b → W b = true) (v_0 : Snap) (pv0_0 : XV) (pc0_0 : List Obj) (ph0_0 : SlF cI 1 3 pv0_0 v_0.Amounts pc0_0) (pv0_1 : XV) (pc0_1 : List Obj)
    (ph0_1 : SlN Chan.R 3 74 pv0_1 v_0.Chans pc0_1) (pv0_2 : XV) (pc0_2 : List Obj) (ph0_2 : SlN Picture.R 4 76 pv0_2 v_0.Pictures pc0_2) (v_1 : Int) (r : Snap × Bool)
    (hF : spec_l8Take v_0 v_1 = some r) (hS : Sep h lo (pc0_0 ++ (pc0_1 ++ (pc0_2 ++ (S0))))) : Ret E W 71 [.agg [pv0_0, pv0_1, pv0_2, .int .i64 v_0.Sent, .int .i64 v_0.Total],
    .int .i64 v_1] h (fun v h' => ∃ rc0_0 rc0_1 rc0_2, v = .tup [.agg [pv0_0, pv0_1, pv0_2, .int .i64 r.1.Sent, .int .i64 r.1.Total],
    .bool r.2] ∧ SlF cI 1 3 pv0_0 r.1.Amounts rc0_0 ∧ SlN Chan.R 3 74 pv0_1 r.1.Chans rc0_1 ∧ SlN Picture.R 4 76 pv0_2 r.1.Pictures rc0_2 ∧ Sep h' lo (rc0_0 ++ (rc0_1 ++
    (rc0_2 ++ (S0))))) := by
  refine Ret.of (fn := x71) rfl (Run.of ?_)
  unfold spec_l8Take at hF
  have zf0 : argFr [.agg [pv0_0, pv0_1, pv0_2, .int .i64 v_0.Sent, .int .i64 v_0.Total], .int .i64 v_1] 0 = .agg [pv0_0, pv0_1, pv0_2, .int .i64 v_0.Sent,
      .int .i64 v_0.Total] := rfl
  have zf1 : argFr [.agg [pv0_0, pv0_1, pv0_2, .int .i64 v_0.Sent, .int .i64 v_0.Total], .int .i64 v_1] 1 = .int .i64 v_1 := rfl
  generalize argFr [.agg [pv0_0, pv0_1, pv0_2, .int .i64 v_0.Sent, .int .i64 v_0.Total], .int .i64 v_1] = fr0 at zf0 zf1 ⊢
  simp only [x71, run_seq, run_reg, run_box, zf0, B0, reduceIte, reduceEqDiff]
  refine put2_boxC (cs := [pv0_0, pv0_1, pv0_2, .int .i64 v_0.Sent,
      .int .i64 v_0.Total]) hS rfl rfl (all_c (SlF.one ph0_0) (all_c (SlN.one ph0_1) (all_c (SlN.one ph0_2) (all_c rfl (all_c rfl all_n))))) (fun b1 h2 hS3 => ?_)
  simp only [run_new, B0, reduceIte, reduceEqDiff]
  refine put2_newC hS3 (fun b5 h6 hS7 => ?_)
  simp only [run_mv, run_ops_nil, B0, reduceIte, reduceEqDiff]
  refine frz_stepC (Sep.m1 hS7) hW (by simp only [B0, reduceIte, reduceEqDiff]) (fun h9 hS10 => ?_)
  simp only [run_frz_nil, x71_16, run_seq, run_reg, run_fa, put1_some, Nat.reduceAdd, Nat.zero_add, Nat.add_zero, xfa_ref, run_ld, B0, reduceIte, reduceEqDiff]
  refine put1_eq (v := pv0_1) rfl ?_
  simp only [run_len, put1_some, SlN.len ph0_1, run_mv, run_ops_nil, B0, reduceIte, reduceEqDiff]
  obtain ⟨oc19, hX21, hk22⟩ := jn_some hF
  simp only [x71_5]
  refine rangeN_j (σ := (List Chan)) (fun i17 s93 => spec_l8Take_b1 v_0 v_1 i17 s93) (fun s fr' h' => ∃ c15, fr' 1 = .int .i64 v_1 ∧ fr' 2 = .ref [pv0_0, pv0_1, pv0_2,
      .int .i64 v_0.Sent, .int .i64 v_0.Total] 0 ∧ fr' 4 = .ptr b5 0 ∧ fr' 11 = pv0_1 ∧ SlN Chan.R 3 74 pv0_1 s c15 ∧ Sep h' lo (pc0_0 ++ (c15 ++ (pc0_2 ++ ([Blk1 b5 [.nil, .nil,
      .nil, .int .i64 0, .int .i64 0] 30] ++ (S0)))))) hX21 ⟨pc0_1, zf1, rfl, rfl, rfl, ph0_1, (Sep.m3 (Sep.m3 (Sep.m3 hS10)))⟩ (by simp only [B0, reduceIte,
      reduceEqDiff]) (by simp only [B0, reduceIte, reduceEqDiff]) (fun _ _ _ h => h) rfl rfl (fun _ _ _ _ h => h) (fun _ _ _ _ h => h) (fun _ _ _ _ h => h) (by decide) ?_ ?_
  · rintro i17 s14 fr31 h32 hx38 ⟨c15, f34, f35, f36, f37, hv16, hS33⟩ f39 f40 oc20 hF23 hr24 Q25 hN26 hB30 hK27 hR28 hE29
    unfold spec_l8Take_b1 at hF23
    obtain ⟨x41, hx42, hF43⟩ := bind_some' hF23
    simp only [x71_3, run_seq, run_reg, f37, f39, run_ia, B0, reduceIte, reduceEqDiff]
    obtain ⟨b44, hb45⟩ := SlN.isrow hv16 (geti_ne hx42)
    refine put1_eq (SlN.ia hv16 hb45 hx42) ?_
    obtain ⟨c46, cs47, os48, hv49, hR50, hS51⟩ := SlG.opn (SlN.toG hv16 hb45 Chan.RO.len) hx42 hk_nil Chan.RO.len (Sep.m1 hS33)
    obtain ⟨v53, c54, hv55, rfl, rfl⟩ := hR50
    have hS52 := Sep.no1 hS51
    simp only [run_ld, B0, reduceIte, reduceEqDiff]
    refine put1_eq (v := .agg [.int .i64 x41.From, .int .i64 x41.To, v53]) ((SlG.lds (o := 0) hv49 rfl hx42 hS52 (Nat.le_of_ble_eq_true rfl)).trans rfl) ?_
    simp only [run_new, B0, reduceIte, reduceEqDiff]
    refine put2_newC hS52 (fun b57 h58 hS59 => ?_)
    simp only [run_st, B0, reduceIte, reduceEqDiff]
    refine put2_stCx (us := [.int .i64 x41.From, .int .i64 x41.To, v53]) rfl (cs' := [.int .i64 x41.From, .int .i64 x41.To,
        v53]) hS59 hW rfl (all_c rfl (all_c rfl (all_c (SlF.one hv55) all_n))) (Nat.le_of_ble_eq_true rfl) rfl (fun h61 hS62 => ?_)
    simp only [run_ops_nil, B0, reduceIte, reduceEqDiff]
    refine frz_stepC hS62 hW (by simp only [B0, reduceIte, reduceEqDiff]) (fun h63 hS64 => ?_)
    simp only [run_frz_nil, x71_2, run_seq, run_reg, run_fa, put1_some, Nat.reduceAdd, Nat.zero_add, Nat.add_zero, xfa_ref, run_ld, B0, reduceIte, reduceEqDiff]
    refine put1_eq (v := .int .i64 x41.From) rfl ?_
    simp only [f34, run_mv, run_bin, put1_some, xeql, B0, reduceIte, reduceEqDiff]
    refine ops_j 5 (fun fr' h' => Sep h' lo (pc0_0 ++ (c46 ++ (pc0_2 ++ ([Blk1 b5 [.nil, .nil, .nil, .int .i64 0,
        .int .i64 0] 30] ++ (c54 ++ (S0)))))) ∧ fr' 26 = .bool ((decide (x41.From = v_1)) && (decide
        ((List.length x41.Way : Int) = 8))) ∧ fr' 1 = .int .i64 v_1 ∧ fr' 2 = .ref [pv0_0, pv0_1, pv0_2, .int .i64 v_0.Sent,
        .int .i64 v_0.Total] 0 ∧ fr' 4 = .ptr b5 0 ∧ fr' 11 = pv0_1 ∧ fr' 12 = .int .i64 (List.length v_0.Chans : Int) ∧ fr' 13 = .int .i64 (i17 : Int)) (fun Q65 hN66 => ?_) ?_
    · simp only [List.take_succ_cons, List.take_zero]
      simp only [run_guard (g := 21), B0, reduceIte, reduceEqDiff]
      refine guard_split (t := (decide (x41.From = v_1))) (fun hg67 => ?_) (fun hg67 => ?_)
      · simp only [hg67, run_guard (g := 21), guard_true, run_fa, put1_some, Nat.reduceAdd, Nat.zero_add, Nat.add_zero, xfa_ref, run_ld, B0, reduceIte, reduceEqDiff]
        refine put1_eq (v := v53) rfl ?_
        simp only [hg67, run_guard (g := 21), guard_true, run_len, put1_some, SlF.plen hv55, run_bin, xeql, run_pick, xpick_t, run_ops_nil, run_nil, B0, reduceIte, reduceEqDiff]
        exact hN66 _ _ ⟨(Sep.m4 (Sep.m3 (Sep.m4 (Sep.m4 (Sep.m1 hS64))))), by rw [andT hg67]; simp only [B0, reduceIte, reduceEqDiff], f34, f35, f36, f37, f40, f39⟩
      · simp only [hg67, run_guard (g := 21), guard_off, run_pick, put1_some, xpick_f, run_ops_nil, run_nil, B0, reduceIte, reduceEqDiff]
        exact hN66 _ _ ⟨(Sep.m4 (Sep.m3 (Sep.m4 (Sep.m4 (Sep.m1 hS64))))), by rw [andF hg67]; simp only [B0, reduceIte, reduceEqDiff], f34, f35, f36, f37, f40, f39⟩
    rintro fr68 h76 ⟨hS77, f69, f70, f71, f72, f73, f74, f75⟩
    simp only [List.drop_succ_cons, List.drop_zero]
    simp only [run_ops_nil, x71_1, f69, run_cond, B0, reduceIte, reduceEqDiff]
    refine cond_split (t := ((decide (x41.From = v_1)) && (decide ((List.length x41.Way : Int) = 8)))) (fun hc78 => ?_) (fun hc78 => ?_)
    · rw [iteT hc78] at hF43
      simp only [run_seq, run_reg, f71, run_ld, B0, reduceIte, reduceEqDiff]
      refine put1_eq (v := .agg [pv0_0, pv0_1, pv0_2, .int .i64 v_0.Sent, .int .i64 v_0.Total]) rfl ?_
      simp only [f72, run_st, B0, reduceIte, reduceEqDiff]
      refine put2_stCx (us := [pv0_0, pv0_1, pv0_2, .int .i64 v_0.Sent, .int .i64 v_0.Total]) rfl (cs' := [pv0_0, pv0_1, pv0_2, .int .i64 v_0.Sent,
          .int .i64 v_0.Total]) (Sep.m3 hS77) hW rfl (all_c (SlF.one ph0_0) (all_c (SlG.one hv49) (all_c (SlN.one ph0_2) (all_c rfl (all_c rfl all_n)))))
          (Nat.le_of_ble_eq_true rfl) rfl (fun h79 hS80 => ?_)
      simp only [run_mv, run_ops_nil, run_ret, B0, reduceIte, reduceEqDiff]
      have e81 := some_inj hF43
      subst e81
      have ho82 := hr24 _ rfl
      have hk83 := hk22
      rw [ho82] at hk83
      dsimp only [jnO] at hk83
      apply hR28
      obtain ⟨c84, hv85, hS86⟩ := SlG.cls0 (c := c46) (os := c54) hv49 rfl hx42 hk_nil (Chan.RI (x := x41) hv55) (Sep.m3 (Sep.m4 hS80))
      have hv87 := SlG.toN hv85
      have he := some_inj hk83
      subst he
      refine end_ret_m (mapM1 (res_cell (bb := b5) (oo := 0) (v := .agg [pv0_0, pv0_1, pv0_2, .int .i64 v_0.Sent,
          .int .i64 v_0.Total]) (f72) ((xld_bs (Sep.bk _ _ _ (Sep.m1 hS86))).trans rfl)) (mapM1 (res_t (v := .bool false) (rfl)) mapM0)) ?_
      exact ⟨pc0_0, c84, pc0_2, by first | trivial | rfl, ph0_0, hv87, ph0_2, (Sep.m2 (Sep.m1 (Sep.m2 (Sep.dc (Sep.m1 hS86)))))⟩
    rw [iteF hc78] at hF43
    simp only [run_skip, run_nil, B0, reduceIte, reduceEqDiff]
    obtain ⟨c88, hv89, hS90⟩ := SlG.cls0 (c := c46) (os := c54) hv49 rfl hx42 hk_nil (Chan.RI (x := x41) hv55) (Sep.m2 (Sep.m4 hS77))
    have hv91 := SlG.toN hv89
    have e92 := some_inj hF43
    exact hN26 _ _ _ e92.symm ⟨c88, f70, f71, f72, f73, hv91, (Sep.m3 (Sep.m2 (Sep.m3 (Sep.m3 hS90))))⟩ (f75) (f74)
  rintro s94 fr97 h98 rfl ⟨c95, f100, f101, f102, f103, hv96, hS99⟩
  dsimp only [jnO] at hk22
  unfold spec_l8Take_j2 at hk22
  simp only [x71_15, run_seq, run_reg, f101, run_fa, put1_some, Nat.reduceAdd, Nat.zero_add, Nat.add_zero, xfa_ref, run_ld, B0, reduceIte, reduceEqDiff]
  refine put1_eq (v := pv0_1) rfl ?_
  simp only [run_len, put1_some, SlN.len hv96, run_mv, run_ops_nil, B0, reduceIte, reduceEqDiff]
  obtain ⟨oc112, hX114, hk115⟩ := jn_some hk22
  simp only [x71_11]
  refine rangeN_j (σ := (List Chan)) (fun i110 s189 => spec_l8Take_b2 v_1 i110 s189) (fun s fr' h' => ∃ c108, fr' 1 = .int .i64 v_1 ∧ fr' 2 = .ref [pv0_0, pv0_1, pv0_2,
      .int .i64 v_0.Sent, .int .i64 v_0.Total] 0 ∧ fr' 4 = .ptr b5 0 ∧ fr' 30 = pv0_1 ∧ SlN Chan.R 3 74 pv0_1 s c108 ∧ Sep h' lo (pc0_0 ++ (c108 ++ (pc0_2 ++ ([Blk1 b5 [.nil,
      .nil, .nil, .int .i64 0, .int .i64 0] 30] ++ (S0)))))) hX114 ⟨c95, f100, f101, f102, rfl, hv96, (Sep.m3 (Sep.m3 (Sep.m3 (Sep.m3 hS99))))⟩ (by simp only [B0, reduceIte,
      reduceEqDiff]) (by simp only [B0, reduceIte, reduceEqDiff]) (fun _ _ _ h => h) rfl rfl (fun _ _ _ _ h => h) (fun _ _ _ _ h => h) (fun _ _ _ _ h => h) (by decide) ?_ ?_
  · rintro i110 s107 fr124 h125 hx131 ⟨c108, f127, f128, f129, f130, hv109, hS126⟩ f132 f133 oc113 hF116 hr117 Q118 hN119 hB123 hK120 hR121 hE122
    unfold spec_l8Take_b2 at hF116
    obtain ⟨x134, hx135, hF136⟩ := bind_some' hF116
    simp only [x71_9, run_seq, run_reg, f132, run_mv, f130, run_ia, B0, reduceIte, reduceEqDiff]
    obtain ⟨b137, hb138⟩ := SlN.isrow hv109 (geti_ne hx135)
    refine put1_eq (SlN.ia hv109 hb138 hx135) ?_
    obtain ⟨c139, cs140, os141, hv142, hR143, hS144⟩ := SlG.opn (SlN.toG hv109 hb138 Chan.RO.len) hx135 hk_nil Chan.RO.len (Sep.m1 hS126)
    obtain ⟨v146, c147, hv148, rfl, rfl⟩ := hR143
    have hS145 := Sep.no1 hS144
    simp only [run_ld, B0, reduceIte, reduceEqDiff]
    refine put1_eq (v := .agg [.int .i64 x134.From, .int .i64 x134.To, v146]) ((SlG.lds (o := 0) hv142 rfl hx135 hS145 (Nat.le_of_ble_eq_true rfl)).trans rfl) ?_
    simp only [run_new, B0, reduceIte, reduceEqDiff]
    refine put2_newC hS145 (fun b150 h151 hS152 => ?_)
    simp only [run_mv, run_st, B0, reduceIte, reduceEqDiff]
    refine put2_stCx (us := [.int .i64 x134.From, .int .i64 x134.To, v146]) rfl (cs' := [.int .i64 x134.From, .int .i64 x134.To,
        v146]) hS152 hW rfl (all_c rfl (all_c rfl (all_c (SlF.one hv148) all_n))) (Nat.le_of_ble_eq_true rfl) rfl (fun h154 hS155 => ?_)
    simp only [run_ops_nil, B0, reduceIte, reduceEqDiff]
    refine frz_stepC hS155 hW (by simp only [B0, reduceIte, reduceEqDiff]) (fun h156 hS157 => ?_)
    simp only [run_frz_nil, x71_8, run_seq, run_reg, run_fa, put1_some, Nat.reduceAdd, Nat.zero_add, Nat.add_zero, xfa_ref, run_ld, B0, reduceIte, reduceEqDiff]
    refine put1_eq (v := .int .i64 x134.From) rfl ?_
    simp only [f127, run_mv, run_bin, put1_some, xeql, run_ops_nil, x71_7, run_cond, B0, reduceIte, reduceEqDiff]
    refine cond_split (t := (decide (x134.From = v_1))) (fun hc158 => ?_) (fun hc158 => ?_)
    · rw [iteT hc158] at hF136
      simp only [x71_6, run_draw, f128, d1_fa, put1d_some, Nat.reduceAdd, Nat.zero_add, Nat.add_zero, xfa_ref, d1_ld, ldd_ref, B0, reduceIte, reduceEqDiff]
      refine put1d_eq (v := pv0_1) rfl ?_
      simp only [d1_mv, put1d_some, f128, d4_fa, Nat.reduceAdd, Nat.zero_add, Nat.add_zero, xfa_ref, d4_ld, B0, reduceIte, reduceEqDiff]
      refine put1d_eq (v := pv0_1) rfl ?_
      simp only [d4_mv, put1d_some, d4_ia, B0, reduceIte, reduceEqDiff]
      refine put1d_eq (SlG.ia hv142 hx135) ?_
      simp only [d4_fa, put1d_some, Nat.reduceAdd, Nat.zero_add, Nat.add_zero, xfa_ptr, d4_ld, B0, reduceIte, reduceEqDiff]
      refine put1d_eq (v := v146) ((SlG.ld (o := 2) hv142 rfl hx135 hS157 (Nat.le_of_ble_eq_true rfl)).trans rfl) ?_
      simp only [d4_buildS, evp, B0, reduceIte, reduceEqDiff]
      refine put2d_buildSF (n := 1) (f := cI) [0] hS157 rfl rfl (fun v159 c160 h161 hv162 hS163 => ?_)
      simp only [d2_appQ, B0, reduceIte, reduceEqDiff]
      obtain ⟨l165, hx166, hF167⟩ := bind_some' hF136
      refine q_app disjR0 ?_
      refine put2d_appF (f := cI) hv148 (Sep.m2 hS163) hW (fun _ => rfl) (fun _ => rfl) (SlF.first hv162 hS163 (fun _ => rfl)) hx166 (fun v168 c169 h170 hv171 hS172 => ?_)
      simp only [d4_ia, B0, reduceIte, reduceEqDiff]
      refine put1d_eq (SlG.ia hv142 hx135) ?_
      simp only [d4_fa, put1d_some, Nat.reduceAdd, Nat.zero_add, Nat.add_zero, xfa_ptr, d3_st, B0, reduceIte, reduceEqDiff]
      refine put2d_stGx (us := [v168]) (o := 2) (cs' := [.int .i64 x134.From, .int .i64 x134.To,
          v168]) (cells_one (SlF.one hv171)) hv142 rfl hx135 (Sep.m2 hS172) hW rfl (all_c (SlF.one hv171) all_n) (Nat.le_of_ble_eq_true rfl) rfl (fun c176 h174 hv177 hS175 => ?_)
      simp only [run_draw_nil, run_nil, B0, reduceIte, reduceEqDiff]
      obtain ⟨c178, hv179, hS180⟩ := SlG.cls (e' := (Chan.mk x134.From x134.To l165)) (c := c176) (os := c169) hv177 rfl hx135 hk_nil (Chan.RI (x :=
          (Chan.mk x134.From x134.To l165)) hv171) (Sep.m1 (Sep.m1 hS175))
      have hx181 := geti_set (x' := (Chan.mk x134.From x134.To l165)) hx135
      have hv182 := SlG.toN hv179
      have e183 := some_inj hF167
      exact hN119 _ _ _ e183.symm ⟨c178, f127, f128, f129, f130, hv182, (Sep.m3 (Sep.m2 (Sep.m3 (Sep.m3 (Sep.dc (Sep.m1 hS180))))))⟩ (f132) (f133)
    rw [iteF hc158] at hF136
    simp only [run_skip, run_nil, B0, reduceIte, reduceEqDiff]
    obtain ⟨c184, hv185, hS186⟩ := SlG.cls0 (c := c139) (os := c147) hv142 rfl hx135 hk_nil (Chan.RI (x := x134) hv148) (Sep.m1 (Sep.m1 hS157))
    have hv187 := SlG.toN hv185
    have e188 := some_inj hF136
    exact hN119 _ _ _ e188.symm ⟨c184, f127, f128, f129, f130, hv187, (Sep.m3 (Sep.m2 (Sep.m3 (Sep.m3 hS186))))⟩ (f132) (f133)
  rintro s190 fr193 h194 rfl ⟨c191, f196, f197, f198, f199, hv192, hS195⟩
  dsimp only [jnO] at hk115
  unfold spec_l8Take_j1 at hk115
  simp only [x71_14, run_seq, run_reg, f197, run_fa, put1_some, Nat.reduceAdd, Nat.zero_add, Nat.add_zero, xfa_ref, run_ld, B0, reduceIte, reduceEqDiff]
  refine put1_eq (v := pv0_2) rfl ?_
  obtain ⟨x200, hx201, hF202⟩ := bind_some' hk115
  simp only [f196, run_mv, run_ia, B0, reduceIte, reduceEqDiff]
  obtain ⟨b203, hb204⟩ := SlN.isrow ph0_2 (geti_ne hx201)
  refine put1_eq (SlN.ia ph0_2 hb204 hx201) ?_
  obtain ⟨c207, cs208, os209, hv210, hR211, hS212⟩ := SlG.opn (SlN.toG ph0_2 hb204 Picture.RO.len) hx201 hk_nil Picture.RO.len (Sep.m2 hS195)
  obtain ⟨v214, c215, v218, c219, hv216, hv220, rfl, rfl⟩ := hR211
  have hS213 := Sep.no2 hS212
  simp only [run_fa, put1_some, Nat.reduceAdd, Nat.zero_add, Nat.add_zero, xfa_ptr, run_st, B0, reduceIte, reduceEqDiff]
  refine put2_stGx (us := [.bool true]) (o := 0) (cs' := [.bool true, .int .i64 x200.Amount, v214,
      v218]) rfl hv210 rfl hx201 hS213 hW rfl rfl (Nat.le_of_ble_eq_true rfl) rfl (fun c222 h205 hv223 hS206 => ?_)
  simp only [run_ops_nil, x71_13, run_seq, run_draw, f197, d4_fa, put1d_some, Nat.reduceAdd, Nat.zero_add, Nat.add_zero, xfa_ref, d4_ld, B0, reduceIte, reduceEqDiff]
  refine put1d_eq (v := pv0_2) rfl ?_
  simp only [f196, d4_mv, put1d_some, f197, d4_fa, Nat.reduceAdd, Nat.zero_add, Nat.add_zero, xfa_ref, d4_ld, B0, reduceIte, reduceEqDiff]
  refine put1d_eq (v := pv0_0) rfl ?_
  obtain ⟨x224, hx225, hF226⟩ := bind_some' hF202
  simp only [f196, d4_mv, put1d_some, d4_ia, B0, reduceIte, reduceEqDiff]
  obtain ⟨b227, hb228⟩ := SlF.isrow ph0_0 (geti_ne hx225)
  refine put1d_eq (SlF.ia ph0_0 hb228 hx225) ?_
  simp only [d4_ld, B0, reduceIte, reduceEqDiff]
  refine put1d_eq (v := .int .i64 x224) ((SlF.ld (o := 0) ph0_0 (Sep.m3 hS206) hb228 hx225 (fun _ => rfl) (Nat.le_of_ble_eq_true rfl)).trans rfl) ?_
  simp only [d4_ia, B0, reduceIte, reduceEqDiff]
  refine put1d_eq (SlG.ia hv223 hx201) ?_
  simp only [d4_fa, put1d_some, Nat.reduceAdd, Nat.zero_add, Nat.add_zero, xfa_ptr, d3_st, B0, reduceIte, reduceEqDiff]
  refine put2d_stGx (us := [.int .i64 x224]) (o := 1) (cs' := [.bool true, .int .i64 x224, v214,
      v218]) rfl hv223 rfl hx201 hS206 hW rfl rfl (Nat.le_of_ble_eq_true rfl) rfl (fun c231 h229 hv232 hS230 => ?_)
  simp only [run_draw_nil, x71_12, run_seq, run_reg, f197, run_fa, put1_some, Nat.reduceAdd, Nat.zero_add, Nat.add_zero, xfa_ref, run_ld, B0, reduceIte, reduceEqDiff]
  refine put1_eq (v := pv0_2) rfl ?_
  simp only [f196, run_mv, run_ia, B0, reduceIte, reduceEqDiff]
  refine put1_eq (SlG.ia hv232 hx201) ?_
  simp only [run_fa, put1_some, Nat.reduceAdd, Nat.zero_add, Nat.add_zero, xfa_ptr, run_ld, B0, reduceIte, reduceEqDiff]
  refine put1_eq (v := v218) ((SlG.ld (o := 3) hv232 rfl hx201 hS230 (Nat.le_of_ble_eq_true rfl)).trans rfl) ?_
  obtain ⟨x233, hx234, hF235⟩ := bind_some' hF226
  simp only [f196, run_mv, run_ia, B0, reduceIte, reduceEqDiff]
  obtain ⟨b236, hb237⟩ := SlF.isrow hv220 (geti_ne hx234)
  refine put1_eq (SlF.ia hv220 hb237 hx234) ?_
  simp only [run_st, B0, reduceIte, reduceEqDiff]
  refine put2_stF (f := cB) (x' := true) (o := 0) hv220 (Sep.m2 hS230) hW hb237 hx234 (fun _ => rfl) rfl rfl (Nat.le_of_ble_eq_true rfl) rfl (fun c240 h238 hv241 hS239 => ?_)
  have hx242 := geti_set (x' := true) hx234
  simp only [run_ops_nil, run_seq, run_reg, f197, run_ld, B0, reduceIte, reduceEqDiff]
  refine put1_eq (v := .agg [pv0_0, pv0_1, pv0_2, .int .i64 v_0.Sent, .int .i64 v_0.Total]) rfl ?_
  simp only [f198, run_st, B0, reduceIte, reduceEqDiff]
  refine put2_stCx (us := [pv0_0, pv0_1, pv0_2, .int .i64 v_0.Sent, .int .i64 v_0.Total]) rfl (cs' := [pv0_0, pv0_1, pv0_2, .int .i64 v_0.Sent,
      .int .i64 v_0.Total]) (Sep.m5 hS239) hW rfl (all_c (SlF.one ph0_0) (all_c (SlN.one hv192) (all_c (SlG.one hv232) (all_c rfl (all_c rfl all_n)))))
      (Nat.le_of_ble_eq_true rfl) rfl (fun h243 hS244 => ?_)
  simp only [run_mv, run_ops_nil, run_ret, B0, reduceIte, reduceEqDiff]
  obtain ⟨c245, hv246, hS247⟩ := SlG.cls (e' := (Picture.mk true x224 x200.In (List.set x200.Closed v_1.toNat true))) (c := c231) (os := c215 ++ (c240)) hv232 rfl hx201 hk_nil
      (Picture.RI (x := (Picture.mk true x224 x200.In (List.set x200.Closed v_1.toNat true))) hv216 hv241) (Sep.ni2 (c1 := c215) (c2 := c240) (Sep.m3 (Sep.m3 (Sep.m1 hS244))))
  have hx248 := geti_set (x' := (Picture.mk true x224 x200.In (List.set x200.Closed v_1.toNat true))) hx201
  have hv249 := SlG.toN hv246
  have he := some_inj hF235
  subst he
  refine end_ret_m (mapM1 (res_cell (bb := b5) (oo := 0) (v := .agg [pv0_0, pv0_1, pv0_2, .int .i64 v_0.Sent,
      .int .i64 v_0.Total]) (f198) ((xld_bs (Sep.bk _ _ _ (Sep.m1 hS247))).trans rfl)) (mapM1 (res_t (v := .bool true) (rfl)) mapM0)) ?_
  exact ⟨pc0_0, c191, c245, by first | trivial | rfl, ph0_0, hv192, hv249, (Sep.m2 (Sep.m2 (Sep.dc (Sep.m1 hS247))))⟩
end Go.Proofs.Ytpkiieniipenjaa.X
