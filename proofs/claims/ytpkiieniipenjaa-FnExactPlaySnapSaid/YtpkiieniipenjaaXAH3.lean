/- The functions' code comes to what the plain functions say (3). -/
import Derived.Test.YtpkiieniipenjaaXAH2
set_option linter.unusedVariables false
set_option linter.unusedSimpArgs false
set_option maxRecDepth 100000
namespace Go.Proofs.Ytpkiieniipenjaa.X
open Go
open Nat (reduceEqDiff)
theorem spec_l8Step_x {W : Nat → Bool} {h : Heap} {lo : Nat} {S0 : List Obj} (hW : ∀ b,
    lo ≤ b → W b = true) (v_0 : Snap) (pv0_0 : XV) (pc0_0 : List Obj) (ph0_0 : SlF cI 1 3 pv0_0 v_0.Amounts pc0_0) (pv0_1 : XV) (pc0_1 : List Obj)
    (ph0_1 : SlN Chan.R 3 74 pv0_1 v_0.Chans pc0_1) (pv0_2 : XV) (pc0_2 : List Obj) (ph0_2 : SlN Picture.R 4 76 pv0_2 v_0.Pictures pc0_2) (v_1 : SnapStep) (r : Snap × Bool)
    (hF : spec_l8Step v_0 v_1 = some r) (hS : Sep h lo (pc0_0 ++ (pc0_1 ++ (pc0_2 ++ (S0))))) : Ret E W 42 [.agg [pv0_0, pv0_1, pv0_2, .int .i64 v_0.Sent, .int .i64 v_0.Total],
    .agg [.int .i64 v_1.Kind, .int .i64 v_1.K, .int .i64 v_1.N]] h (fun v h' => ∃ rc0_0 rc0_1 rc0_2, v = .tup [.agg [pv0_0, pv0_1, pv0_2, .int .i64 r.1.Sent, .int .i64 r.1.Total],
    .bool r.2] ∧ SlF cI 1 3 pv0_0 r.1.Amounts rc0_0 ∧ SlN Chan.R 3 74 pv0_1 r.1.Chans rc0_1 ∧ SlN Picture.R 4 76 pv0_2 r.1.Pictures rc0_2 ∧ Sep h' lo (rc0_0 ++ (rc0_1 ++
    (rc0_2 ++ (S0))))) := by
  refine Ret.of (fn := x42) rfl (Run.of ?_)
  unfold spec_l8Step at hF
  have zf0 : argFr [.agg [pv0_0, pv0_1, pv0_2, .int .i64 v_0.Sent, .int .i64 v_0.Total], .agg [.int .i64 v_1.Kind, .int .i64 v_1.K, .int .i64 v_1.N]] 0 = .agg [pv0_0, pv0_1,
      pv0_2, .int .i64 v_0.Sent, .int .i64 v_0.Total] := rfl
  have zf1 : argFr [.agg [pv0_0, pv0_1, pv0_2, .int .i64 v_0.Sent, .int .i64 v_0.Total], .agg [.int .i64 v_1.Kind, .int .i64 v_1.K, .int .i64 v_1.N]] 1 = .agg [.int .i64 v_1.Kind,
      .int .i64 v_1.K, .int .i64 v_1.N] := rfl
  generalize argFr [.agg [pv0_0, pv0_1, pv0_2, .int .i64 v_0.Sent, .int .i64 v_0.Total], .agg [.int .i64 v_1.Kind, .int .i64 v_1.K, .int .i64 v_1.N]] = fr0 at zf0 zf1 ⊢
  simp only [x42, run_seq, run_reg, run_box, zf0, B0, reduceIte, reduceEqDiff]
  refine put2_boxC (cs := [pv0_0, pv0_1, pv0_2, .int .i64 v_0.Sent,
      .int .i64 v_0.Total]) hS rfl rfl (all_c (SlF.one ph0_0) (all_c (SlN.one ph0_1) (all_c (SlN.one ph0_2) (all_c rfl (all_c rfl all_n))))) (fun b1 h2 hS3 => ?_)
  simp only [run_box, zf1, B0, reduceIte, reduceEqDiff]
  refine put2_boxC (cs := [.int .i64 v_1.Kind, .int .i64 v_1.K, .int .i64 v_1.N]) hS3 rfl rfl rfl (fun b5 h6 hS7 => ?_)
  simp only [run_new, B0, reduceIte, reduceEqDiff]
  refine put2_newC hS7 (fun b9 h10 hS11 => ?_)
  simp only [run_mv, run_ops_nil, B0, reduceIte, reduceEqDiff]
  refine frz_stepC (Sep.m1 hS11) hW (by simp only [B0, reduceIte, reduceEqDiff]) (fun h13 hS14 => ?_)
  simp only [run_frz_nil, x42_22, run_seq, run_reg, run_fa, put1_some, Nat.reduceAdd, Nat.zero_add, Nat.add_zero, xfa_ref, run_ld, B0, reduceIte, reduceEqDiff]
  refine put1_eq (v := .int .i64 v_1.Kind) rfl ?_
  simp only [run_bin, put1_some, xeql, run_ops_nil, x42_4, run_cond, B0, reduceIte, reduceEqDiff]
  refine cond_split (t := (decide (v_1.Kind = 3))) (fun hc15 => ?_) (fun hc15 => ?_)
  · rw [iteT hc15] at hF
    simp only [x42_3, run_seq, run_reg, run_fa, put1_some, Nat.reduceAdd, Nat.zero_add, Nat.add_zero, xfa_ref, run_ld, B0, reduceIte, reduceEqDiff]
    refine put1_eq (v := .int .i64 v_1.N) rfl ?_
    simp only [run_bin, put1_some, xneq, run_mv, B0, reduceIte, reduceEqDiff]
    refine ops_j 4 (fun fr' h' => Sep h' lo ([Blk1 b1 [pv0_0, pv0_1, pv0_2, .int .i64 v_0.Sent, .int .i64 v_0.Total] 30] ++ ([Blk1 b9 [.nil, .nil, .nil, .int .i64 0,
        .int .i64 0] 30] ++ (pc0_0 ++ (pc0_1 ++ (pc0_2 ++ (S0)))))) ∧ fr' 17 = .bool ((decide (v_1.N ≠ 0)) || (decide
        (v_1.K < 0))) ∧ fr' 2 = .ptr b1 0 ∧ fr' 3 = .ref [.int .i64 v_1.Kind, .int .i64 v_1.K, .int .i64 v_1.N] 0 ∧ fr' 4 = .ptr b9 0) (fun Q16 hN17 => ?_) ?_
    · simp only [List.take_succ_cons, List.take_zero]
      simp only [run_guard (g := 13), B0, reduceIte, reduceEqDiff]
      refine guard_split (t := (decide (v_1.N ≠ 0))) (fun hg18 => ?_) (fun hg18 => ?_)
      · simp only [hg18, run_guard (g := 13), guard_off', run_pick, put1_some, xpick_t, run_ops_nil, run_nil, B0, reduceIte, reduceEqDiff]
        exact hN17 _ _ ⟨(Sep.m4 (Sep.m3 (Sep.m4 (Sep.m4 (Sep.m4 hS14))))), by rw [orT hg18]; simp only [B0, reduceIte, reduceEqDiff], by simp only [B0, reduceIte, reduceEqDiff],
            by simp only [B0, reduceIte, reduceEqDiff], by simp only [B0, reduceIte, reduceEqDiff]⟩
      · simp only [hg18, run_guard (g := 13), guard_false, run_fa, put1_some, Nat.reduceAdd, Nat.zero_add, Nat.add_zero, xfa_ref, run_ld, B0, reduceIte, reduceEqDiff]
        refine put1_eq (v := .int .i64 v_1.K) rfl ?_
        simp only [hg18, run_guard (g := 13), guard_false, run_bin, put1_some, xlss, run_pick, xpick_f, run_ops_nil, run_nil, B0, reduceIte, reduceEqDiff]
        exact hN17 _ _ ⟨(Sep.m4 (Sep.m3 (Sep.m4 (Sep.m4 (Sep.m4 hS14))))), by rw [orF hg18]; simp only [B0, reduceIte, reduceEqDiff], by simp only [B0, reduceIte, reduceEqDiff],
            by simp only [B0, reduceIte, reduceEqDiff], by simp only [B0, reduceIte, reduceEqDiff]⟩
    rintro fr19 h24 ⟨hS25, f20, f21, f22, f23⟩
    simp only [List.drop_succ_cons, List.drop_zero]
    simp only [f20, run_mv, B0, reduceIte, reduceEqDiff]
    refine ops_j 7 (fun fr' h' => Sep h' lo ([Blk1 b1 [pv0_0, pv0_1, pv0_2, .int .i64 v_0.Sent, .int .i64 v_0.Total] 30] ++ ([Blk1 b9 [.nil, .nil, .nil, .int .i64 0,
        .int .i64 0] 30] ++ (pc0_0 ++ (pc0_1 ++ (pc0_2 ++ (S0)))))) ∧ fr' 25 = .bool (((decide (v_1.N ≠ 0)) || (decide (v_1.K < 0))) || (decide
        ((List.length v_0.Amounts : Int) ≤ v_1.K))) ∧ fr' 2 = .ptr b1 0 ∧ fr' 3 = .ref [.int .i64 v_1.Kind, .int .i64 v_1.K,
        .int .i64 v_1.N] 0 ∧ fr' 4 = .ptr b9 0) (fun Q26 hN27 => ?_) ?_
    · simp only [List.take_succ_cons, List.take_zero]
      simp only [run_guard (g := 18), B0, reduceIte, reduceEqDiff]
      refine guard_split (t := ((decide (v_1.N ≠ 0)) || (decide (v_1.K < 0)))) (fun hg28 => ?_) (fun hg28 => ?_)
      · simp only [hg28, run_guard (g := 18), guard_off', run_pick, put1_some, xpick_t, run_ops_nil, run_nil, B0, reduceIte, reduceEqDiff]
        exact hN27 _ _ ⟨(Sep.m4 (Sep.m4 (Sep.m4 (Sep.m4 (Sep.m4 hS25))))), by rw [orT hg28]; simp only [B0, reduceIte, reduceEqDiff], by simp only [f21, B0, reduceIte,
            reduceEqDiff], by simp only [f22, B0, reduceIte, reduceEqDiff], by simp only [f23, B0, reduceIte, reduceEqDiff]⟩
      · simp only [hg28, run_guard (g := 18), guard_false, f22, run_fa, put1_some, Nat.reduceAdd, Nat.zero_add, Nat.add_zero, xfa_ref, run_ld, B0, reduceIte, reduceEqDiff]
        refine put1_eq (v := .int .i64 v_1.K) rfl ?_
        simp only [hg28, run_guard (g := 18), guard_false, f21, run_fa, put1_some, Nat.reduceAdd, Nat.zero_add, Nat.add_zero, xfa_ptr, run_ld, B0, reduceIte, reduceEqDiff]
        refine put1_eq (v := pv0_0) ((xld_b (Sep.bk _ _ _ hS25)).trans rfl) ?_
        simp only [hg28, run_guard (g := 18), guard_false, run_len, put1_some, SlF.plen ph0_0, run_bin, xgeq, run_pick, xpick_f, run_ops_nil, run_nil, B0, reduceIte, reduceEqDiff]
        exact hN27 _ _ ⟨(Sep.m4 (Sep.m4 (Sep.m4 (Sep.m4 (Sep.m4 hS25))))), by rw [orF hg28]; simp only [B0, reduceIte, reduceEqDiff], by simp only [f21, B0, reduceIte,
            reduceEqDiff], by simp only [f22, B0, reduceIte, reduceEqDiff], by simp only [f23, B0, reduceIte, reduceEqDiff]⟩
    rintro fr29 h34 ⟨hS35, f30, f31, f32, f33⟩
    simp only [List.drop_succ_cons, List.drop_zero]
    simp only [f30, run_mv, B0, reduceIte, reduceEqDiff]
    obtain ⟨v39, hx40, hF41⟩ := bind_some' hF
    refine ops_j 8 (fun fr' h' => Sep h' lo ([Blk1 b1 [pv0_0, pv0_1, pv0_2, .int .i64 v_0.Sent, .int .i64 v_0.Total] 30] ++ ([Blk1 b9 [.nil, .nil, .nil, .int .i64 0,
        .int .i64 0] 30] ++ (pc0_0 ++ (pc0_1 ++ (pc0_2 ++ (S0)))))) ∧ fr' 34 = .bool v39 ∧ fr' 2 = .ptr b1 0 ∧ fr' 3 = .ref [.int .i64 v_1.Kind, .int .i64 v_1.K,
        .int .i64 v_1.N] 0 ∧ fr' 4 = .ptr b9 0) (fun Q36 hN37 => ?_) ?_
    · simp only [List.take_succ_cons, List.take_zero]
      simp only [run_guard (g := 26), B0, reduceIte, reduceEqDiff]
      refine guard_split (t := (((decide (v_1.N ≠ 0)) || (decide (v_1.K < 0))) || (decide ((List.length v_0.Amounts : Int) ≤ v_1.K)))) (fun hg38 => ?_) (fun hg38 => ?_)
      · rw [iteT hg38] at hx40
        simp only [hg38, run_guard (g := 26), guard_off', run_pick, put1_some, xpick_t, run_ops_nil, run_nil, B0, reduceIte, reduceEqDiff]
        have e42 := some_inj hx40
        exact hN37 _ _ ⟨(Sep.m4 (Sep.m4 (Sep.m4 (Sep.m4 (Sep.m4 hS35))))), by rw [← e42]; simp only [B0, reduceIte, reduceEqDiff], by simp only [f31, B0, reduceIte, reduceEqDiff],
            by simp only [f32, B0, reduceIte, reduceEqDiff], by simp only [f33, B0, reduceIte, reduceEqDiff]⟩
      · rw [iteF hg38] at hx40
        simp only [hg38, run_guard (g := 26), guard_false, f31, run_fa, put1_some, Nat.reduceAdd, Nat.zero_add, Nat.add_zero, xfa_ptr, run_ld, B0, reduceIte, reduceEqDiff]
        refine put1_eq (v := pv0_2) ((xld_b (Sep.bk _ _ _ hS35)).trans rfl) ?_
        simp only [hg38, run_guard (g := 26), guard_false, f32, run_fa, put1_some, Nat.reduceAdd, Nat.zero_add, Nat.add_zero, xfa_ref, run_ld, B0, reduceIte, reduceEqDiff]
        refine put1_eq (v := .int .i64 v_1.K) rfl ?_
        obtain ⟨x43, hx44, hF45⟩ := bind_some' hx40
        simp only [hg38, run_guard (g := 26), guard_false, run_ia, B0, reduceIte, reduceEqDiff]
        obtain ⟨b46, hb47⟩ := SlN.isrow ph0_2 (geti_ne hx44)
        refine put1_eq (SlN.ia ph0_2 hb47 hx44) ?_
        obtain ⟨c48, cs49, os50, hv51, hR52, hS53⟩ := SlG.opn (SlN.toG ph0_2 hb47 Picture.RO.len) hx44 hk_nil Picture.RO.len (Sep.m4 hS35)
        obtain ⟨v55, c56, v59, c60, hv57, hv61, rfl, rfl⟩ := hR52
        have hS54 := Sep.no2 hS53
        simp only [hg38, run_guard (g := 26), guard_false, run_fa, put1_some, Nat.reduceAdd, Nat.zero_add, Nat.add_zero, xfa_ptr, run_ld, B0, reduceIte, reduceEqDiff]
        refine put1_eq (v := .bool x43.Taken) ((SlG.ld (o := 0) hv51 rfl hx44 hS54 (Nat.le_of_ble_eq_true rfl)).trans rfl) ?_
        simp only [hg38, run_pick, put1_some, xpick_f, run_ops_nil, run_nil, B0, reduceIte, reduceEqDiff]
        have e63 := some_inj hF45
        exact hN37 _ _ ⟨(Sep.m4 (Sep.m4 (Sep.m4 (Sep.m4 (Sep.m4 hS35))))), by rw [← e63]; simp only [B0, reduceIte, reduceEqDiff], by simp only [f31, B0, reduceIte, reduceEqDiff],
            by simp only [f32, B0, reduceIte, reduceEqDiff], by simp only [f33, B0, reduceIte, reduceEqDiff]⟩
    rintro fr64 h69 ⟨hS70, f65, f66, f67, f68⟩
    simp only [List.drop_succ_cons, List.drop_zero]
    simp only [run_ops_nil, x42_1, f65, run_cond, B0, reduceIte, reduceEqDiff]
    refine cond_split (t := v39) (fun hc71 => ?_) (fun hc71 => ?_)
    · rw [iteT hc71] at hF41
      simp only [run_seq, run_reg, f66, run_ld, B0, reduceIte, reduceEqDiff]
      refine put1_eq (v := .agg [pv0_0, pv0_1, pv0_2, .int .i64 v_0.Sent, .int .i64 v_0.Total]) ((xld_bs (Sep.bk _ _ _ hS70)).trans rfl) ?_
      simp only [f68, run_st, B0, reduceIte, reduceEqDiff]
      refine put2_stCx (us := [pv0_0, pv0_1, pv0_2, .int .i64 v_0.Sent, .int .i64 v_0.Total]) rfl (cs' := [pv0_0, pv0_1, pv0_2, .int .i64 v_0.Sent,
          .int .i64 v_0.Total]) (Sep.m1 hS70) hW rfl (all_c (SlF.one ph0_0) (all_c (SlN.one ph0_1) (all_c (SlN.one ph0_2) (all_c rfl (all_c rfl all_n)))))
          (Nat.le_of_ble_eq_true rfl) rfl (fun h72 hS73 => ?_)
      simp only [run_mv, run_ops_nil, run_ret, B0, reduceIte, reduceEqDiff]
      have he := some_inj hF41
      subst he
      refine end_ret_m (mapM1 (res_cell (bb := b9) (oo := 0) (v := .agg [pv0_0, pv0_1, pv0_2, .int .i64 v_0.Sent, .int .i64 v_0.Total]) (by simp only [f68, B0, reduceIte,
          reduceEqDiff]) ((xld_bs (Sep.bk _ _ _ hS73)).trans rfl)) (mapM1 (res_t (v := .bool false) (by simp only [B0, reduceIte, reduceEqDiff])) mapM0)) ?_
      exact ⟨pc0_0, pc0_1, pc0_2, by first | trivial | rfl, ph0_0, ph0_1, ph0_2, (Sep.m2 (Sep.m2 (Sep.m2 (Sep.dc ((Sep.dc (hS73)))))))⟩
    rw [iteF hc71] at hF41
    simp only [run_skip, x42_2, run_seq, run_reg, f66, run_ld, B0, reduceIte, reduceEqDiff]
    refine put1_eq (v := .agg [pv0_0, pv0_1, pv0_2, .int .i64 v_0.Sent, .int .i64 v_0.Total]) ((xld_bs (Sep.bk _ _ _ hS70)).trans rfl) ?_
    simp only [f67, run_fa, put1_some, Nat.reduceAdd, Nat.zero_add, Nat.add_zero, xfa_ref, run_ld, B0, reduceIte, reduceEqDiff]
    refine put1_eq (v := .int .i64 v_1.K) rfl ?_
    obtain ⟨v74, hx75, hF76⟩ := bind_some' hF41
    simp only [run_call, B0, reduceIte, reduceEqDiff]
    refine call0 rfl (spec_l8Take_x hW v_0 pv0_0 pc0_0 ph0_0 pv0_1 pc0_1 ph0_1 pv0_2 pc0_2 ph0_2 v_1.K v74 hx75 (Sep.m4 (Sep.m4 (Sep.m4 hS70)))) ?_
    rintro _ h83 ⟨c77, c79, c81, rfl, hv78, hv80, hv82, hS84⟩
    simp only [run_ext, put1_some, xext_0, xext_1, f68, run_st, B0, reduceIte, reduceEqDiff]
    refine put2_stCx (us := [pv0_0, pv0_1, pv0_2, .int .i64 v74.1.Sent, .int .i64 v74.1.Total]) rfl (cs' := [pv0_0, pv0_1, pv0_2, .int .i64 v74.1.Sent,
        .int .i64 v74.1.Total]) (Sep.m4 hS84) hW rfl (all_c (SlF.one hv78) (all_c (SlN.one hv80) (all_c (SlN.one hv82) (all_c rfl (all_c rfl all_n)))))
        (Nat.le_of_ble_eq_true rfl) rfl (fun h85 hS86 => ?_)
    simp only [run_mv, run_ops_nil, run_ret, B0, reduceIte, reduceEqDiff]
    have he := some_inj hF76
    subst he
    refine end_ret_m (mapM1 (res_cell (bb := b9) (oo := 0) (v := .agg [pv0_0, pv0_1, pv0_2, .int .i64 v74.1.Sent, .int .i64 v74.1.Total]) (by simp only [f68, B0, reduceIte,
        reduceEqDiff]) ((xld_bs (Sep.bk _ _ _ hS86)).trans rfl)) (mapM1 (res_t (v := .bool v74.2) (by simp only [B0, reduceIte, reduceEqDiff])) mapM0)) ?_
    exact ⟨c77, c79, c81, by first | trivial | rfl, hv78, hv80, hv82, (Sep.m2 (Sep.m2 (Sep.m2 (Sep.dc (Sep.m3 (Sep.dc (hS86)))))))⟩
  rw [iteF hc15] at hF
  simp only [run_skip, x42_21, run_seq, run_reg, run_fa, put1_some, Nat.reduceAdd, Nat.zero_add, Nat.add_zero, xfa_ref, run_ld, B0, reduceIte, reduceEqDiff]
  refine put1_eq (v := .int .i64 v_1.K) rfl ?_
  simp only [run_bin, put1_some, xlss, run_mv, B0, reduceIte, reduceEqDiff]
  refine ops_j 7 (fun fr' h' => Sep h' lo ([Blk1 b1 [pv0_0, pv0_1, pv0_2, .int .i64 v_0.Sent, .int .i64 v_0.Total] 30] ++ ([Blk1 b9 [.nil, .nil, .nil, .int .i64 0,
      .int .i64 0] 30] ++ (pc0_0 ++ (pc0_1 ++ (pc0_2 ++ (S0)))))) ∧ fr' 52 = .bool ((decide (v_1.K < 0)) || (decide
      ((List.length v_0.Chans : Int) ≤ v_1.K))) ∧ fr' 2 = .ptr b1 0 ∧ fr' 3 = .ref [.int .i64 v_1.Kind, .int .i64 v_1.K,
      .int .i64 v_1.N] 0 ∧ fr' 4 = .ptr b9 0) (fun Q87 hN88 => ?_) ?_
  · simp only [List.take_succ_cons, List.take_zero]
    simp only [run_guard (g := 45), B0, reduceIte, reduceEqDiff]
    refine guard_split (t := (decide (v_1.K < 0))) (fun hg89 => ?_) (fun hg89 => ?_)
    · simp only [hg89, run_guard (g := 45), guard_off', run_pick, put1_some, xpick_t, run_ops_nil, run_nil, B0, reduceIte, reduceEqDiff]
      exact hN88 _ _ ⟨(Sep.m4 (Sep.m3 (Sep.m4 (Sep.m4 (Sep.m4 hS14))))), by rw [orT hg89]; simp only [B0, reduceIte, reduceEqDiff], by simp only [B0, reduceIte, reduceEqDiff],
          by simp only [B0, reduceIte, reduceEqDiff], by simp only [B0, reduceIte, reduceEqDiff]⟩
    · simp only [hg89, run_guard (g := 45), guard_false, run_fa, put1_some, Nat.reduceAdd, Nat.zero_add, Nat.add_zero, xfa_ref, run_ld, B0, reduceIte, reduceEqDiff]
      refine put1_eq (v := .int .i64 v_1.K) rfl ?_
      simp only [hg89, run_guard (g := 45), guard_false, run_fa, put1_some, Nat.reduceAdd, Nat.zero_add, Nat.add_zero, xfa_ptr, run_ld, B0, reduceIte, reduceEqDiff]
      refine put1_eq (v := pv0_1) ((xld_b (Sep.bk _ _ _ (Sep.m1 hS14))).trans rfl) ?_
      simp only [hg89, run_guard (g := 45), guard_false, run_len, put1_some, SlN.len ph0_1, run_bin, xgeq, run_pick, xpick_f, run_ops_nil, run_nil, B0, reduceIte, reduceEqDiff]
      exact hN88 _ _ ⟨(Sep.m4 (Sep.m3 (Sep.m4 (Sep.m4 (Sep.m4 hS14))))), by rw [orF hg89]; simp only [B0, reduceIte, reduceEqDiff], by simp only [B0, reduceIte, reduceEqDiff],
          by simp only [B0, reduceIte, reduceEqDiff], by simp only [B0, reduceIte, reduceEqDiff]⟩
  rintro fr90 h95 ⟨hS96, f91, f92, f93, f94⟩
  simp only [List.drop_succ_cons, List.drop_zero]
  simp only [run_ops_nil, x42_5, f91, run_cond, B0, reduceIte, reduceEqDiff]
  refine cond_split (t := ((decide (v_1.K < 0)) || (decide ((List.length v_0.Chans : Int) ≤ v_1.K)))) (fun hc97 => ?_) (fun hc97 => ?_)
  · rw [iteT hc97] at hF
    simp only [run_seq, run_reg, f92, run_ld, B0, reduceIte, reduceEqDiff]
    refine put1_eq (v := .agg [pv0_0, pv0_1, pv0_2, .int .i64 v_0.Sent, .int .i64 v_0.Total]) ((xld_bs (Sep.bk _ _ _ hS96)).trans rfl) ?_
    simp only [f94, run_st, B0, reduceIte, reduceEqDiff]
    refine put2_stCx (us := [pv0_0, pv0_1, pv0_2, .int .i64 v_0.Sent, .int .i64 v_0.Total]) rfl (cs' := [pv0_0, pv0_1, pv0_2, .int .i64 v_0.Sent,
        .int .i64 v_0.Total]) (Sep.m1 hS96) hW rfl (all_c (SlF.one ph0_0) (all_c (SlN.one ph0_1) (all_c (SlN.one ph0_2) (all_c rfl (all_c rfl all_n)))))
        (Nat.le_of_ble_eq_true rfl) rfl (fun h98 hS99 => ?_)
    simp only [run_mv, run_ops_nil, run_ret, B0, reduceIte, reduceEqDiff]
    have he := some_inj hF
    subst he
    refine end_ret_m (mapM1 (res_cell (bb := b9) (oo := 0) (v := .agg [pv0_0, pv0_1, pv0_2, .int .i64 v_0.Sent, .int .i64 v_0.Total]) (by simp only [f94, B0, reduceIte,
        reduceEqDiff]) ((xld_bs (Sep.bk _ _ _ hS99)).trans rfl)) (mapM1 (res_t (v := .bool false) (by simp only [B0, reduceIte, reduceEqDiff])) mapM0)) ?_
    exact ⟨pc0_0, pc0_1, pc0_2, by first | trivial | rfl, ph0_0, ph0_1, ph0_2, (Sep.m2 (Sep.m2 (Sep.m2 (Sep.dc ((Sep.dc (hS99)))))))⟩
  rw [iteF hc97] at hF
  simp only [run_skip, x42_20, run_seq, run_reg, f92, run_fa, put1_some, Nat.reduceAdd, Nat.zero_add, Nat.add_zero, xfa_ptr, run_ld, B0, reduceIte, reduceEqDiff]
  refine put1_eq (v := pv0_1) ((xld_b (Sep.bk _ _ _ hS96)).trans rfl) ?_
  simp only [f93, run_fa, put1_some, Nat.reduceAdd, Nat.zero_add, Nat.add_zero, xfa_ref, run_ld, B0, reduceIte, reduceEqDiff]
  refine put1_eq (v := .int .i64 v_1.K) rfl ?_
  obtain ⟨x100, hx101, hF102⟩ := bind_some' hF
  simp only [run_ia, B0, reduceIte, reduceEqDiff]
  obtain ⟨b103, hb104⟩ := SlN.isrow ph0_1 (geti_ne hx101)
  refine put1_eq (SlN.ia ph0_1 hb104 hx101) ?_
  obtain ⟨c105, cs106, os107, hv108, hR109, hS110⟩ := SlG.opn (SlN.toG ph0_1 hb104 Chan.RO.len) hx101 hk_nil Chan.RO.len (Sep.m3 hS96)
  obtain ⟨v112, c113, hv114, rfl, rfl⟩ := hR109
  have hS111 := Sep.no1 hS110
  simp only [run_ld, B0, reduceIte, reduceEqDiff]
  refine put1_eq (v := .agg [.int .i64 x100.From, .int .i64 x100.To, v112]) ((SlG.lds (o := 0) hv108 rfl hx101 hS111 (Nat.le_of_ble_eq_true rfl)).trans rfl) ?_
  simp only [run_new, B0, reduceIte, reduceEqDiff]
  refine put2_newC hS111 (fun b116 h117 hS118 => ?_)
  simp only [run_st, B0, reduceIte, reduceEqDiff]
  refine put2_stCx (us := [.int .i64 x100.From, .int .i64 x100.To, v112]) rfl (cs' := [.int .i64 x100.From, .int .i64 x100.To,
      v112]) hS118 hW rfl (all_c rfl (all_c rfl (all_c (SlF.one hv114) all_n))) (Nat.le_of_ble_eq_true rfl) rfl (fun h120 hS121 => ?_)
  simp only [run_ops_nil, B0, reduceIte, reduceEqDiff]
  refine frz_stepC hS121 hW (by simp only [B0, reduceIte, reduceEqDiff]) (fun h122 hS123 => ?_)
  simp only [run_frz_nil, x42_19, run_seq, run_reg, f93, run_fa, put1_some, Nat.reduceAdd, Nat.zero_add, Nat.add_zero, xfa_ref, run_ld, B0, reduceIte, reduceEqDiff]
  refine put1_eq (v := .int .i64 v_1.Kind) rfl ?_
  simp only [run_ops_nil, x42_18, run_block, x42_17, run_seq, run_reg, run_bin, put1_some, xeql, run_mv, x42_16, run_cond, B0, reduceIte, reduceEqDiff]
  refine cond_split (t := (decide (v_1.Kind = 1))) (fun hc124 => ?_) (fun hc124 => ?_)
  · rw [iteT hc124] at hF102
    simp only [x42_10, run_seq, run_draw, f93, d4_fa, put1d_some, Nat.reduceAdd, Nat.zero_add, Nat.add_zero, xfa_ref, d4_ld, B0, reduceIte, reduceEqDiff]
    refine put1d_eq (v := .int .i64 v_1.N) rfl ?_
    simp only [d4_bin, put1d_some, xlss, d4_mv, B0, reduceIte, reduceEqDiff]
    obtain ⟨v128, hx129, hF130⟩ := bind_some' hF102
    refine draw_j 10 (fun fr' h' => Sep h' lo ([Blk1 b1 [pv0_0, pv0_1, pv0_2, .int .i64 v_0.Sent, .int .i64 v_0.Total] 30] ++ ([Blk1 b9 [.nil, .nil, .nil, .int .i64 0,
        .int .i64 0] 30] ++ (c113 ++ (pc0_0 ++ (c105 ++ (pc0_2 ++ (S0))))))) ∧ fr' 77 = .bool v128 ∧ fr' 2 = .ptr b1 0 ∧ fr' 3 = .ref [.int .i64 v_1.Kind, .int .i64 v_1.K,
        .int .i64 v_1.N] 0 ∧ fr' 4 = .ptr b9 0 ∧ fr' 6 = .ref [.int .i64 x100.From, .int .i64 x100.To, v112] 0) rfl (fun Q125 hN126 => ?_) ?_
    · simp only [List.take_succ_cons, List.take_zero]
      simp only [run_guardd (g := 67), B0, reduceIte, reduceEqDiff]
      refine guardd_split (t := (decide (v_1.N < 1))) (fun hg127 => ?_) (fun hg127 => ?_)
      · rw [iteT hg127] at hx129
        simp only [hg127, run_guardd (g := 67), guardd_off', d4_pick, put1d_some, xpick_t, run_draw_nil, run_nil, B0, reduceIte, reduceEqDiff]
        have e131 := some_inj hx129
        exact hN126 _ _ ⟨(Sep.m5 (Sep.m5 (Sep.m3 (Sep.m5 (Sep.m1 (Sep.m5 hS123)))))), by rw [← e131]; simp only [B0, reduceIte, reduceEqDiff], by simp only [f92, B0, reduceIte,
            reduceEqDiff], by simp only [f93, B0, reduceIte, reduceEqDiff], by simp only [f94, B0, reduceIte, reduceEqDiff], by simp only [B0, reduceIte, reduceEqDiff]⟩
      · rw [iteF hg127] at hx129
        simp only [hg127, run_guardd (g := 67), guardd_false, f93, d4_fa, put1d_some, Nat.reduceAdd, Nat.zero_add, Nat.add_zero, xfa_ref, d4_ld, B0, reduceIte, reduceEqDiff]
        refine put1d_eq (v := .int .i64 v_1.N) rfl ?_
        simp only [hg127, run_guardd (g := 67), guardd_false, f92, d4_fa, put1d_some, Nat.reduceAdd, Nat.zero_add, Nat.add_zero, xfa_ptr, d4_ld, B0, reduceIte, reduceEqDiff]
        refine put1d_eq (v := pv0_0) ((xld_b (Sep.bk _ _ _ (Sep.m2 hS123))).trans rfl) ?_
        simp only [hg127, run_guardd (g := 67), guardd_false, d4_fa, put1d_some, Nat.reduceAdd, Nat.zero_add, Nat.add_zero, xfa_ref, d4_ld, B0, reduceIte, reduceEqDiff]
        refine put1d_eq (v := .int .i64 x100.From) rfl ?_
        obtain ⟨x132, hx133, hF134⟩ := bind_some' hx129
        simp only [hg127, run_guardd (g := 67), guardd_false, d4_ia, B0, reduceIte, reduceEqDiff]
        obtain ⟨b135, hb136⟩ := SlF.isrow ph0_0 (geti_ne hx133)
        refine put1d_eq (SlF.ia ph0_0 hb136 hx133) ?_
        simp only [hg127, run_guardd (g := 67), guardd_false, d4_ld, B0, reduceIte, reduceEqDiff]
        refine put1d_eq (v := .int .i64 x132) ((SlF.ld (o := 0) ph0_0 (Sep.m4 hS123) hb136 hx133 (fun _ => rfl) (Nat.le_of_ble_eq_true rfl)).trans rfl) ?_
        simp only [hg127, run_guardd (g := 67), guardd_false, d4_bin, put1d_some, xgtr, d4_pick, xpick_f, run_draw_nil, run_nil, B0, reduceIte, reduceEqDiff]
        have e137 := some_inj hF134
        exact hN126 _ _ ⟨(Sep.m5 (Sep.m5 (Sep.m3 (Sep.m5 (Sep.m1 (Sep.m5 hS123)))))), by rw [← e137]; simp only [B0, reduceIte, reduceEqDiff], by simp only [f92, B0, reduceIte,
            reduceEqDiff], by simp only [f93, B0, reduceIte, reduceEqDiff], by simp only [f94, B0, reduceIte, reduceEqDiff], by simp only [B0, reduceIte, reduceEqDiff]⟩
    rintro fr138 h144 ⟨hS145, f139, f140, f141, f142, f143⟩
    simp only [List.drop_succ_cons, List.drop_zero]
    simp only [f139, d4_mv, put1d_some, B0, reduceIte, reduceEqDiff]
    refine draw_j 5 (fun fr' h' => Sep h' lo ([Blk1 b1 [pv0_0, pv0_1, pv0_2, .int .i64 v_0.Sent, .int .i64 v_0.Total] 30] ++ ([Blk1 b9 [.nil, .nil, .nil, .int .i64 0,
        .int .i64 0] 30] ++ (c113 ++ (pc0_0 ++ (c105 ++ (pc0_2 ++ (S0))))))) ∧ fr' 83 = .bool (v128 || (decide
        ((List.length x100.Way : Int) = 8))) ∧ fr' 2 = .ptr b1 0 ∧ fr' 3 = .ref [.int .i64 v_1.Kind, .int .i64 v_1.K,
        .int .i64 v_1.N] 0 ∧ fr' 4 = .ptr b9 0 ∧ fr' 6 = .ref [.int .i64 x100.From, .int .i64 x100.To, v112] 0) rfl (fun Q146 hN147 => ?_) ?_
    · simp only [List.take_succ_cons, List.take_zero]
      simp only [run_guardd (g := 78), B0, reduceIte, reduceEqDiff]
      refine guardd_split (t := v128) (fun hg148 => ?_) (fun hg148 => ?_)
      · simp only [hg148, run_guardd (g := 78), guardd_off', d4_pick, put1d_some, xpick_t, run_draw_nil, run_nil, B0, reduceIte, reduceEqDiff]
        exact hN147 _ _ ⟨(Sep.m5 (Sep.m5 (Sep.m5 (Sep.m5 (Sep.m5 (Sep.m5 hS145)))))), by rw [orT hg148]; simp only [B0, reduceIte, reduceEqDiff], by simp only [f140, B0,
            reduceIte, reduceEqDiff], by simp only [f141, B0, reduceIte, reduceEqDiff], by simp only [f142, B0, reduceIte, reduceEqDiff], by simp only [f143, B0, reduceIte,
            reduceEqDiff]⟩
      · simp only [hg148, run_guardd (g := 78), guardd_false, f143, d4_fa, put1d_some, Nat.reduceAdd, Nat.zero_add, Nat.add_zero, xfa_ref, d4_ld, B0, reduceIte, reduceEqDiff]
        refine put1d_eq (v := v112) rfl ?_
        simp only [hg148, run_guardd (g := 78), guardd_false, d4_len, put1d_some, SlF.plen hv114, d4_bin, xeql, d4_pick, xpick_f, run_draw_nil, run_nil, B0, reduceIte,
            reduceEqDiff]
        exact hN147 _ _ ⟨(Sep.m5 (Sep.m5 (Sep.m5 (Sep.m5 (Sep.m5 (Sep.m5 hS145)))))), by rw [orF hg148]; simp only [B0, reduceIte, reduceEqDiff], by simp only [f140, B0,
            reduceIte, reduceEqDiff], by simp only [f141, B0, reduceIte, reduceEqDiff], by simp only [f142, B0, reduceIte, reduceEqDiff], by simp only [f143, B0, reduceIte,
            reduceEqDiff]⟩
    rintro fr149 h155 ⟨hS156, f150, f151, f152, f153, f154⟩
    simp only [List.drop_succ_cons, List.drop_zero]
    simp only [f150, d4_mv, put1d_some, B0, reduceIte, reduceEqDiff]
    refine draw_j 4 (fun fr' h' => Sep h' lo ([Blk1 b1 [pv0_0, pv0_1, pv0_2, .int .i64 v_0.Sent, .int .i64 v_0.Total] 30] ++ ([Blk1 b9 [.nil, .nil, .nil, .int .i64 0,
        .int .i64 0] 30] ++ (c113 ++ (pc0_0 ++ (c105 ++ (pc0_2 ++ (S0))))))) ∧ fr' 88 = .bool ((v128 || (decide ((List.length x100.Way : Int) = 8))) || (decide
        (v_0.Sent = 1000))) ∧ fr' 2 = .ptr b1 0 ∧ fr' 3 = .ref [.int .i64 v_1.Kind, .int .i64 v_1.K, .int .i64 v_1.N] 0 ∧ fr' 4 = .ptr b9 0 ∧ fr' 6 = .ref [.int .i64 x100.From,
        .int .i64 x100.To, v112] 0) rfl (fun Q157 hN158 => ?_) ?_
    · simp only [List.take_succ_cons, List.take_zero]
      simp only [run_guardd (g := 84), B0, reduceIte, reduceEqDiff]
      refine guardd_split (t := (v128 || (decide ((List.length x100.Way : Int) = 8)))) (fun hg159 => ?_) (fun hg159 => ?_)
      · simp only [hg159, run_guardd (g := 84), guardd_off', d4_pick, put1d_some, xpick_t, run_draw_nil, run_nil, B0, reduceIte, reduceEqDiff]
        exact hN158 _ _ ⟨(Sep.m5 (Sep.m5 (Sep.m5 (Sep.m5 (Sep.m5 (Sep.m5 hS156)))))), by rw [orT hg159]; simp only [B0, reduceIte, reduceEqDiff], by simp only [f151, B0,
            reduceIte, reduceEqDiff], by simp only [f152, B0, reduceIte, reduceEqDiff], by simp only [f153, B0, reduceIte, reduceEqDiff], by simp only [f154, B0, reduceIte,
            reduceEqDiff]⟩
      · simp only [hg159, run_guardd (g := 84), guardd_false, f151, d4_fa, put1d_some, Nat.reduceAdd, Nat.zero_add, Nat.add_zero, xfa_ptr, d4_ld, B0, reduceIte, reduceEqDiff]
        refine put1d_eq (v := .int .i64 v_0.Sent) ((xld_b (Sep.bk _ _ _ hS156)).trans rfl) ?_
        simp only [hg159, run_guardd (g := 84), guardd_false, d4_bin, put1d_some, xeql, d4_pick, xpick_f, run_draw_nil, run_nil, B0, reduceIte, reduceEqDiff]
        exact hN158 _ _ ⟨(Sep.m5 (Sep.m5 (Sep.m5 (Sep.m5 (Sep.m5 (Sep.m5 hS156)))))), by rw [orF hg159]; simp only [B0, reduceIte, reduceEqDiff], by simp only [f151, B0,
            reduceIte, reduceEqDiff], by simp only [f152, B0, reduceIte, reduceEqDiff], by simp only [f153, B0, reduceIte, reduceEqDiff], by simp only [f154, B0, reduceIte,
            reduceEqDiff]⟩
    rintro fr160 h166 ⟨hS167, f161, f162, f163, f164, f165⟩
    simp only [List.drop_succ_cons, List.drop_zero]
    simp only [run_draw_nil, x42_6, f161, run_cond, B0, reduceIte, reduceEqDiff]
    refine cond_split (t := ((v128 || (decide ((List.length x100.Way : Int) = 8))) || (decide (v_0.Sent = 1000)))) (fun hc168 => ?_) (fun hc168 => ?_)
    · rw [iteT hc168] at hF130
      simp only [run_seq, run_reg, f162, run_ld, B0, reduceIte, reduceEqDiff]
      refine put1_eq (v := .agg [pv0_0, pv0_1, pv0_2, .int .i64 v_0.Sent, .int .i64 v_0.Total]) ((xld_bs (Sep.bk _ _ _ hS167)).trans rfl) ?_
      simp only [f164, run_st, B0, reduceIte, reduceEqDiff]
      refine put2_stCx (us := [pv0_0, pv0_1, pv0_2, .int .i64 v_0.Sent, .int .i64 v_0.Total]) rfl (cs' := [pv0_0, pv0_1, pv0_2, .int .i64 v_0.Sent,
          .int .i64 v_0.Total]) (Sep.m1 hS167) hW rfl (all_c (SlF.one ph0_0) (all_c (SlG.one hv108) (all_c (SlN.one ph0_2) (all_c rfl (all_c rfl all_n)))))
          (Nat.le_of_ble_eq_true rfl) rfl (fun h169 hS170 => ?_)
      simp only [run_mv, run_ops_nil, run_ret, B0, reduceIte, reduceEqDiff]
      obtain ⟨c171, hv172, hS173⟩ := SlG.cls0 (c := c105) (os := c113) hv108 rfl hx101 hk_nil (Chan.RI (x := x100) hv114) (Sep.m4 (Sep.m2 hS170))
      have hv174 := SlG.toN hv172
      have he := some_inj hF130
      subst he
      refine end_ret_m (mapM1 (res_cell (bb := b9) (oo := 0) (v := .agg [pv0_0, pv0_1, pv0_2, .int .i64 v_0.Sent, .int .i64 v_0.Total]) (by simp only [f164, B0, reduceIte,
          reduceEqDiff]) ((xld_bs (Sep.bk _ _ _ (Sep.m1 hS173))).trans rfl)) (mapM1 (res_t (v := .bool false) (by simp only [B0, reduceIte, reduceEqDiff])) mapM0)) ?_
      exact ⟨pc0_0, c171, pc0_2, by first | trivial | rfl, ph0_0, hv174, ph0_2, (Sep.m2 (Sep.m1 (Sep.m2 (Sep.dc (Sep.m1 (Sep.dc (Sep.m1 hS173)))))))⟩
    rw [iteF hc168] at hF130
    simp only [run_skip, x42_9, run_seq, run_draw, f162, d4_fa, put1d_some, Nat.reduceAdd, Nat.zero_add, Nat.add_zero, xfa_ptr, d4_ld, B0, reduceIte, reduceEqDiff]
    refine put1d_eq (v := pv0_0) ((xld_b (Sep.bk _ _ _ hS167)).trans rfl) ?_
    simp only [f165, d4_fa, put1d_some, Nat.reduceAdd, Nat.zero_add, Nat.add_zero, xfa_ref, d4_ld, B0, reduceIte, reduceEqDiff]
    refine put1d_eq (v := .int .i64 x100.From) rfl ?_
    obtain ⟨x175, hx176, hF177⟩ := bind_some' hF130
    simp only [d4_ia, B0, reduceIte, reduceEqDiff]
    obtain ⟨b178, hb179⟩ := SlF.isrow ph0_0 (geti_ne hx176)
    refine put1d_eq (SlF.ia ph0_0 hb179 hx176) ?_
    simp only [d4_ld, B0, reduceIte, reduceEqDiff]
    refine put1d_eq (v := .int .i64 x175) ((SlF.ld (o := 0) ph0_0 (Sep.m3 hS167) hb179 hx176 (fun _ => rfl) (Nat.le_of_ble_eq_true rfl)).trans rfl) ?_
    simp only [f163, d4_fa, put1d_some, Nat.reduceAdd, Nat.zero_add, Nat.add_zero, xfa_ref, d4_ld, B0, reduceIte, reduceEqDiff]
    refine put1d_eq (v := .int .i64 v_1.N) rfl ?_
    simp only [d4_bin, put1d_some, xsub, d4_ia, B0, reduceIte, reduceEqDiff]
    refine put1d_eq (SlF.ia ph0_0 hb179 hx176) ?_
    simp only [d3_st, B0, reduceIte, reduceEqDiff]
    refine put2d_stF (f := cI) (x' := (IntKind.wrap .i64 (x175 - v_1.N))) (o := 0) ph0_0 (Sep.m3 hS167) hW hb179 hx176 (fun _ => rfl) rfl rfl (Nat.le_of_ble_eq_true rfl) rfl
        (fun c182 h180 hv183 hS181 => ?_)
    have hx184 := geti_set (x' := (IntKind.wrap .i64 (x175 - v_1.N))) hx176
    simp only [run_draw_nil, x42_8, run_seq, run_draw, f162, d1_fa, put1d_some, Nat.reduceAdd, Nat.zero_add, Nat.add_zero, xfa_ptr, d1_ld, B0, reduceIte, reduceEqDiff]
    refine ldd_ptr (Sep.ltk (Sep.m1 hS181)) ?_
    refine put1d_eq (v := pv0_1) ((xld_b (Sep.bk _ _ _ (Sep.m1 hS181))).trans rfl) ?_
    simp only [f163, d1_fa, put1d_some, Nat.reduceAdd, Nat.zero_add, Nat.add_zero, xfa_ref, d1_ld, ldd_ref, B0, reduceIte, reduceEqDiff]
    refine put1d_eq (v := .int .i64 v_1.K) rfl ?_
    simp only [f162, d4_fa, put1d_some, Nat.reduceAdd, Nat.zero_add, Nat.add_zero, xfa_ptr, d4_ld, B0, reduceIte, reduceEqDiff]
    refine put1d_eq (v := pv0_1) ((xld_b (Sep.bk _ _ _ (Sep.m1 hS181))).trans rfl) ?_
    simp only [f163, d4_fa, put1d_some, Nat.reduceAdd, Nat.zero_add, Nat.add_zero, xfa_ref, d4_ld, B0, reduceIte, reduceEqDiff]
    refine put1d_eq (v := .int .i64 v_1.K) rfl ?_
    simp only [d4_ia, B0, reduceIte, reduceEqDiff]
    refine put1d_eq (SlG.ia hv108 hx101) ?_
    simp only [d4_fa, put1d_some, Nat.reduceAdd, Nat.zero_add, Nat.add_zero, xfa_ptr, d4_ld, B0, reduceIte, reduceEqDiff]
    refine put1d_eq (v := v112) ((SlG.ld (o := 2) hv108 rfl hx101 (Sep.m4 hS181) (Nat.le_of_ble_eq_true rfl)).trans rfl) ?_
    simp only [f163, d4_fa, put1d_some, Nat.reduceAdd, Nat.zero_add, Nat.add_zero, xfa_ref, d4_ld, B0, reduceIte, reduceEqDiff]
    refine put1d_eq (v := .int .i64 v_1.N) rfl ?_
    simp only [d4_buildS, evp, B0, reduceIte, reduceEqDiff]
    refine put2d_buildSF (n := 1) (f := cI) [v_1.N] hS181 rfl rfl (fun v185 c186 h187 hv188 hS189 => ?_)
    simp only [d2_appQ, B0, reduceIte, reduceEqDiff]
    obtain ⟨l191, hx192, hF193⟩ := bind_some' hF177
    refine q_app (disjR1 (fun z hz => Sep.dj (Sep.m4 (Sep.m2 hS189)) blkfp (SlF.rowfp hv114 z hz)) disjR0) ?_
    refine put2d_appF (f := cI) hv114 (Sep.m4 hS189) hW (fun _ => rfl) (fun _ => rfl) (SlF.first hv188 hS189 (fun _ => rfl)) hx192 (fun v194 c195 h196 hv197 hS198 => ?_)
    simp only [d4_ia, B0, reduceIte, reduceEqDiff]
    refine put1d_eq (SlG.ia hv108 hx101) ?_
    simp only [d4_fa, put1d_some, Nat.reduceAdd, Nat.zero_add, Nat.add_zero, xfa_ptr, d3_st, B0, reduceIte, reduceEqDiff]
    refine put2d_stGx (us := [v194]) (o := 2) (cs' := [.int .i64 x100.From, .int .i64 x100.To,
        v194]) (cells_one (SlF.one hv197)) hv108 rfl hx101 (Sep.m5 hS198) hW rfl (all_c (SlF.one hv197) all_n) (Nat.le_of_ble_eq_true rfl) rfl (fun c202 h200 hv203 hS201 => ?_)
    simp only [run_draw_nil, x42_7, run_seq, run_reg, f162, run_fa, put1_some, Nat.reduceAdd, Nat.zero_add, Nat.add_zero, xfa_ptr, run_ld, B0, reduceIte, reduceEqDiff]
    refine put1_eq (v := .int .i64 v_0.Sent) ((xld_b (Sep.bk _ _ _ (Sep.m4 hS201))).trans rfl) ?_
    simp only [run_bin, put1_some, xadd, f162, run_fa, Nat.reduceAdd, Nat.zero_add, Nat.add_zero, xfa_ptr, run_st, B0, reduceIte, reduceEqDiff]
    refine put2_stCx (us := [.int .i64 (IntKind.wrap .i64 (v_0.Sent + 1))]) rfl (cs' := [pv0_0, pv0_1, pv0_2, .int .i64 (IntKind.wrap .i64 (v_0.Sent + 1)),
        .int .i64 v_0.Total]) (Sep.m4 hS201) hW rfl rfl (Nat.le_of_ble_eq_true rfl) rfl (fun h204 hS205 => ?_)
    simp only [run_ops_nil, run_seq, run_reg, f162, run_ld, B0, reduceIte, reduceEqDiff]
    refine put1_eq (v := .agg [pv0_0, pv0_1, pv0_2, .int .i64 (IntKind.wrap .i64 (v_0.Sent + 1)), .int .i64 v_0.Total]) ((xld_bs (Sep.bk _ _ _ hS205)).trans rfl) ?_
    simp only [f164, run_st, B0, reduceIte, reduceEqDiff]
    refine put2_stCx (us := [pv0_0, pv0_1, pv0_2, .int .i64 (IntKind.wrap .i64 (v_0.Sent + 1)), .int .i64 v_0.Total]) rfl (cs' := [pv0_0, pv0_1, pv0_2,
        .int .i64 (IntKind.wrap .i64 (v_0.Sent + 1)),
        .int .i64 v_0.Total]) (Sep.m5 hS205) hW rfl (all_c (SlF.one hv183) (all_c (SlG.one hv203) (all_c (SlN.one ph0_2) (all_c rfl (all_c rfl all_n)))))
        (Nat.le_of_ble_eq_true rfl) rfl (fun h206 hS207 => ?_)
    simp only [run_mv, run_ops_nil, run_ret, B0, reduceIte, reduceEqDiff]
    obtain ⟨c208, hv209, hS210⟩ := SlG.cls (e' := (Chan.mk x100.From x100.To l191)) (c := c202) (os := c195) hv203 rfl hx101 hk_nil (Chan.RI (x :=
        (Chan.mk x100.From x100.To l191)) hv197) (Sep.m3 (Sep.m3 hS207))
    have hx211 := geti_set (x' := (Chan.mk x100.From x100.To l191)) hx101
    have hv212 := SlG.toN hv209
    have he := some_inj hF193
    subst he
    refine end_ret_m (mapM1 (res_cell (bb := b9) (oo := 0) (v := .agg [pv0_0, pv0_1, pv0_2, .int .i64 (IntKind.wrap .i64 (v_0.Sent + 1)),
        .int .i64 v_0.Total]) (by simp only [f164, B0, reduceIte,
        reduceEqDiff]) ((xld_bs (Sep.bk _ _ _ (Sep.m1 hS210))).trans rfl)) (mapM1 (res_t (v := .bool true) (by simp only [B0, reduceIte, reduceEqDiff])) mapM0)) ?_
    exact ⟨c182, c208, pc0_2, by first | trivial | rfl, hv183, hv212, ph0_2, (Sep.m2 (Sep.m1 (Sep.m2 (Sep.dc (Sep.m1 (Sep.dc (Sep.m1 (Sep.dc (Sep.m1 hS210)))))))))⟩
  rw [iteF hc124] at hF102
  simp only [x42_15, run_seq, run_reg, run_bin, put1_some, xeql, run_mv, run_ops_nil, x42_14, run_cond, B0, reduceIte, reduceEqDiff]
  refine cond_split (t := (decide (v_1.Kind = 2))) (fun hc213 => ?_) (fun hc213 => ?_)
  · rw [iteT hc213] at hF102
    simp only [x42_13, run_seq, run_reg, f93, run_fa, put1_some, Nat.reduceAdd, Nat.zero_add, Nat.add_zero, xfa_ref, run_ld, B0, reduceIte, reduceEqDiff]
    refine put1_eq (v := .int .i64 v_1.N) rfl ?_
    simp only [run_bin, put1_some, xneq, run_mv, B0, reduceIte, reduceEqDiff]
    refine ops_j 5 (fun fr' h' => Sep h' lo ([Blk1 b1 [pv0_0, pv0_1, pv0_2, .int .i64 v_0.Sent, .int .i64 v_0.Total] 30] ++ ([Blk1 b9 [.nil, .nil, .nil, .int .i64 0,
        .int .i64 0] 30] ++ (pc0_0 ++ (c105 ++ (pc0_2 ++ (c113 ++ (S0))))))) ∧ fr' 132 = .bool ((decide (v_1.N ≠ 0)) || (decide
        ((List.length x100.Way : Int) = 0))) ∧ fr' 2 = .ptr b1 0 ∧ fr' 3 = .ref [.int .i64 v_1.Kind, .int .i64 v_1.K,
        .int .i64 v_1.N] 0 ∧ fr' 4 = .ptr b9 0) (fun Q214 hN215 => ?_) ?_
    · simp only [List.take_succ_cons, List.take_zero]
      simp only [run_guard (g := 127), B0, reduceIte, reduceEqDiff]
      refine guard_split (t := (decide (v_1.N ≠ 0))) (fun hg216 => ?_) (fun hg216 => ?_)
      · simp only [hg216, run_guard (g := 127), guard_off', run_pick, put1_some, xpick_t, run_ops_nil, run_nil, B0, reduceIte, reduceEqDiff]
        exact hN215 _ _ ⟨(Sep.m5 (Sep.m5 (Sep.m5 (Sep.m2 (Sep.m5 (Sep.m1 hS123)))))), by rw [orT hg216]; simp only [B0, reduceIte, reduceEqDiff], by simp only [f92, B0, reduceIte,
            reduceEqDiff], by simp only [f93, B0, reduceIte, reduceEqDiff], by simp only [f94, B0, reduceIte, reduceEqDiff]⟩
      · simp only [hg216, run_guard (g := 127), guard_false, run_fa, put1_some, Nat.reduceAdd, Nat.zero_add, Nat.add_zero, xfa_ref, run_ld, B0, reduceIte, reduceEqDiff]
        refine put1_eq (v := v112) rfl ?_
        simp only [hg216, run_guard (g := 127), guard_false, run_len, put1_some, SlF.plen hv114, run_bin, xeql, run_pick, xpick_f, run_ops_nil, run_nil, B0, reduceIte,
            reduceEqDiff]
        exact hN215 _ _ ⟨(Sep.m5 (Sep.m5 (Sep.m5 (Sep.m2 (Sep.m5 (Sep.m1 hS123)))))), by rw [orF hg216]; simp only [B0, reduceIte, reduceEqDiff], by simp only [f92, B0, reduceIte,
            reduceEqDiff], by simp only [f93, B0, reduceIte, reduceEqDiff], by simp only [f94, B0, reduceIte, reduceEqDiff]⟩
    rintro fr217 h222 ⟨hS223, f218, f219, f220, f221⟩
    simp only [List.drop_succ_cons, List.drop_zero]
    simp only [run_ops_nil, x42_11, f218, run_cond, B0, reduceIte, reduceEqDiff]
    refine cond_split (t := ((decide (v_1.N ≠ 0)) || (decide ((List.length x100.Way : Int) = 0)))) (fun hc224 => ?_) (fun hc224 => ?_)
    · rw [iteT hc224] at hF102
      simp only [run_seq, run_reg, f219, run_ld, B0, reduceIte, reduceEqDiff]
      refine put1_eq (v := .agg [pv0_0, pv0_1, pv0_2, .int .i64 v_0.Sent, .int .i64 v_0.Total]) ((xld_bs (Sep.bk _ _ _ hS223)).trans rfl) ?_
      simp only [f221, run_st, B0, reduceIte, reduceEqDiff]
      refine put2_stCx (us := [pv0_0, pv0_1, pv0_2, .int .i64 v_0.Sent, .int .i64 v_0.Total]) rfl (cs' := [pv0_0, pv0_1, pv0_2, .int .i64 v_0.Sent,
          .int .i64 v_0.Total]) (Sep.m1 hS223) hW rfl (all_c (SlF.one ph0_0) (all_c (SlG.one hv108) (all_c (SlN.one ph0_2) (all_c rfl (all_c rfl all_n)))))
          (Nat.le_of_ble_eq_true rfl) rfl (fun h225 hS226 => ?_)
      simp only [run_mv, run_ops_nil, run_ret, B0, reduceIte, reduceEqDiff]
      obtain ⟨c227, hv228, hS229⟩ := SlG.cls0 (c := c105) (os := c113) hv108 rfl hx101 hk_nil (Chan.RI (x := x100) hv114) (Sep.m4 (Sep.m5 hS226))
      have hv230 := SlG.toN hv228
      have he := some_inj hF102
      subst he
      refine end_ret_m (mapM1 (res_cell (bb := b9) (oo := 0) (v := .agg [pv0_0, pv0_1, pv0_2, .int .i64 v_0.Sent, .int .i64 v_0.Total]) (by simp only [f221, B0, reduceIte,
          reduceEqDiff]) ((xld_bs (Sep.bk _ _ _ (Sep.m1 hS229))).trans rfl)) (mapM1 (res_t (v := .bool false) (by simp only [B0, reduceIte, reduceEqDiff])) mapM0)) ?_
      exact ⟨pc0_0, c227, pc0_2, by first | trivial | rfl, ph0_0, hv230, ph0_2, (Sep.m2 (Sep.m1 (Sep.m2 (Sep.dc (Sep.m1 (Sep.dc (Sep.m1 hS229)))))))⟩
    rw [iteF hc224] at hF102
    simp only [run_skip, x42_12, run_seq, run_reg, f219, run_ld, B0, reduceIte, reduceEqDiff]
    refine put1_eq (v := .agg [pv0_0, pv0_1, pv0_2, .int .i64 v_0.Sent, .int .i64 v_0.Total]) ((xld_bs (Sep.bk _ _ _ hS223)).trans rfl) ?_
    simp only [f220, run_fa, put1_some, Nat.reduceAdd, Nat.zero_add, Nat.add_zero, xfa_ref, run_ld, B0, reduceIte, reduceEqDiff]
    refine put1_eq (v := .int .i64 v_1.K) rfl ?_
    obtain ⟨c231, hv232, hS233⟩ := SlG.cls0 (c := c105) (os := c113) hv108 rfl hx101 hk_nil (Chan.RI (x := x100) hv114) (Sep.m4 (Sep.m5 hS223))
    have hv234 := SlG.toN hv232
    obtain ⟨v235, hx236, hF237⟩ := bind_some' hF102
    simp only [run_call, B0, reduceIte, reduceEqDiff]
    refine call0 rfl (spec_l8Come_x hW v_0 pv0_0 pc0_0 ph0_0 pv0_1 c231 hv234 pv0_2 pc0_2 ph0_2 v_1.K v235 hx236 (Sep.m4 (Sep.m1 (Sep.m4 hS233)))) ?_
    rintro _ h244 ⟨c238, c240, c242, rfl, hv239, hv241, hv243, hS245⟩
    simp only [run_ext, put1_some, xext_0, xext_1, f221, run_st, B0, reduceIte, reduceEqDiff]
    refine put2_stCx (us := [pv0_0, pv0_1, pv0_2, .int .i64 v235.1.Sent, .int .i64 v235.1.Total]) rfl (cs' := [pv0_0, pv0_1, pv0_2, .int .i64 v235.1.Sent,
        .int .i64 v235.1.Total]) (Sep.m4 hS245) hW rfl (all_c (SlF.one hv239) (all_c (SlN.one hv241) (all_c (SlN.one hv243) (all_c rfl (all_c rfl all_n)))))
        (Nat.le_of_ble_eq_true rfl) rfl (fun h246 hS247 => ?_)
    simp only [run_mv, run_ops_nil, run_ret, B0, reduceIte, reduceEqDiff]
    have he := some_inj hF237
    subst he
    refine end_ret_m (mapM1 (res_cell (bb := b9) (oo := 0) (v := .agg [pv0_0, pv0_1, pv0_2, .int .i64 v235.1.Sent, .int .i64 v235.1.Total]) (by simp only [f221, B0, reduceIte,
        reduceEqDiff]) ((xld_bs (Sep.bk _ _ _ hS247)).trans rfl)) (mapM1 (res_t (v := .bool v235.2) (by simp only [B0, reduceIte, reduceEqDiff])) mapM0)) ?_
    exact ⟨c238, c240, c242, by first | trivial | rfl, hv239, hv241, hv243, (Sep.m2 (Sep.m2 (Sep.m2 (Sep.dc (Sep.m3 (Sep.dc (hS247)))))))⟩
  rw [iteF hc213] at hF102
  simp only [run_skip, run_blk, run_seq, run_reg, f92, run_ld, B0, reduceIte, reduceEqDiff]
  refine put1_eq (v := .agg [pv0_0, pv0_1, pv0_2, .int .i64 v_0.Sent, .int .i64 v_0.Total]) ((xld_bs (Sep.bk _ _ _ (Sep.m2 hS123))).trans rfl) ?_
  simp only [f94, run_st, B0, reduceIte, reduceEqDiff]
  refine put2_stCx (us := [pv0_0, pv0_1, pv0_2, .int .i64 v_0.Sent, .int .i64 v_0.Total]) rfl (cs' := [pv0_0, pv0_1, pv0_2, .int .i64 v_0.Sent,
      .int .i64 v_0.Total]) (Sep.m3 hS123) hW rfl (all_c (SlF.one ph0_0) (all_c (SlG.one hv108) (all_c (SlN.one ph0_2) (all_c rfl (all_c rfl all_n)))))
      (Nat.le_of_ble_eq_true rfl) rfl (fun h248 hS249 => ?_)
  simp only [run_mv, run_ops_nil, run_ret, B0, reduceIte, reduceEqDiff]
  obtain ⟨c250, hv251, hS252⟩ := SlG.cls0 (c := c105) (os := c113) hv108 rfl hx101 hk_nil (Chan.RI (x := x100) hv114) (Sep.m2 (Sep.m2 hS249))
  have hv253 := SlG.toN hv251
  have he := some_inj hF102
  subst he
  refine end_ret_m (mapM1 (res_cell (bb := b9) (oo := 0) (v := .agg [pv0_0, pv0_1, pv0_2, .int .i64 v_0.Sent, .int .i64 v_0.Total]) (by simp only [f94, B0, reduceIte,
      reduceEqDiff]) ((xld_bs (Sep.bk _ _ _ (Sep.m1 hS252))).trans rfl)) (mapM1 (res_t (v := .bool false) (by simp only [B0, reduceIte, reduceEqDiff])) mapM0)) ?_
  exact ⟨pc0_0, c250, pc0_2, by first | trivial | rfl, ph0_0, hv253, ph0_2, (Sep.m2 (Sep.m1 (Sep.m2 (Sep.dc (Sep.m1 (Sep.dc (Sep.m1 hS252)))))))⟩
theorem spec_l8Own_x {W : Nat → Bool} {h : Heap} (hW : ∀ b,
    h.length ≤ b → W b = true) (s_0 : Snap) (r : Snap) (hF : spec_l8Own s_0 = some r) : Ret E W 43 [.agg [lst cI s_0.Amounts, lst Chan.cells s_0.Chans,
    lst Picture.cells s_0.Pictures, .int .i64 s_0.Sent, .int .i64 s_0.Total]] h (fun v h' => ∃ rv0_0 rc0_0 rv0_1 rc0_1 rv0_2 rc0_2, v = .agg [rv0_0, rv0_1, rv0_2,
    .int .i64 r.Sent, .int .i64 r.Total] ∧ SlF cI 1 3 rv0_0 r.Amounts rc0_0 ∧ SlN Chan.R 3 74 rv0_1 r.Chans rc0_1 ∧ SlN Picture.R 4 76 rv0_2 r.Pictures rc0_2 ∧ Sep h' h.length
    (rc0_0 ++ (rc0_1 ++ (rc0_2 ++ ([]))))) := by
  refine Ret.of (fn := x43) rfl (Run.of ?_)
  unfold spec_l8Own at hF
  have zf0 : argFr [.agg [lst cI s_0.Amounts, lst Chan.cells s_0.Chans, lst Picture.cells s_0.Pictures, .int .i64 s_0.Sent, .int .i64 s_0.Total]] 0 = .agg [lst cI s_0.Amounts,
      lst Chan.cells s_0.Chans, lst Picture.cells s_0.Pictures, .int .i64 s_0.Sent, .int .i64 s_0.Total] := rfl
  generalize argFr [.agg [lst cI s_0.Amounts, lst Chan.cells s_0.Chans, lst Picture.cells s_0.Pictures, .int .i64 s_0.Sent, .int .i64 s_0.Total]] = fr0 at zf0 ⊢
  have hS : Sep h h.length [] := Sep.nil h
  simp only [x43, run_seq, run_reg, run_box, zf0, B0, reduceIte, reduceEqDiff]
  refine put2_boxC (cs := [lst cI s_0.Amounts, lst Chan.cells s_0.Chans, lst Picture.cells s_0.Pictures, .int .i64 s_0.Sent,
      .int .i64 s_0.Total]) hS rfl rfl rfl (fun b1 h2 hS3 => ?_)
  simp only [run_new, B0, reduceIte, reduceEqDiff]
  refine put2_newC hS3 (fun b5 h6 hS7 => ?_)
  simp only [run_ops_nil, B0, reduceIte, reduceEqDiff]
  refine frz_stepC (Sep.m1 hS7) hW (by simp only [B0, reduceIte, reduceEqDiff]) (fun h9 hS10 => ?_)
  simp only [run_frz_nil, x43_14, run_seq, run_draw, d4_buildS, evp, B0, reduceIte, reduceEqDiff]
  refine put2d_buildSF (n := 1) (f := cI) ([] : List Int) hS10 rfl rfl (fun v11 c12 h13 hv14 hS15 => ?_)
  simp only [d1_new, B0, reduceIte, reduceEqDiff]
  refine put2d_newC hS15 (fun b17 h18 hS19 => ?_)
  simp only [d4_fa, put1d_some, Nat.reduceAdd, Nat.zero_add, Nat.add_zero, xfa_ref, d4_ld, B0, reduceIte, reduceEqDiff]
  refine put1d_eq (v := lst cI s_0.Amounts) rfl ?_
  simp only [d2_appQ, B0, reduceIte, reduceEqDiff]
  obtain ⟨l21, hx22, hF23⟩ := bind_some' hF
  refine q_app disjR0 ?_
  refine put2d_appF (f := cI) hv14 (Sep.m1 hS19) hW (fun _ => rfl) (fun _ => rfl) (firstOf_lst (fun _ => rfl)) hx22 (fun v24 c25 h26 hv27 hS28 => ?_)
  simp only [d1_fa, put1d_some, Nat.reduceAdd, Nat.zero_add, Nat.add_zero, xfa_ref, d1_ld, ldd_ref, B0, reduceIte, reduceEqDiff]
  refine put1d_eq (v := .int .i64 s_0.Sent) rfl ?_
  simp only [d1_fa, put1d_some, Nat.reduceAdd, Nat.zero_add, Nat.add_zero, xfa_ref, d1_ld, ldd_ref, B0, reduceIte, reduceEqDiff]
  refine put1d_eq (v := .int .i64 s_0.Total) rfl ?_
  simp only [d4_build, evp, B0, reduceIte, reduceEqDiff]
  refine put1d_eq (v := .agg [v24, .nil, .nil, .int .i64 s_0.Sent, .int .i64 s_0.Total]) (pbuild_some (fill1 (us := [v24]) (vs := [v24, .nil, .nil, .int .i64 0,
      .int .i64 0]) (cells_one (SlF.one hv27)) rfl (Nat.le_of_ble_eq_true rfl) (all_c (SlF.one hv27) all_n) rfl (fill1 (us := [.int .i64 s_0.Sent]) (vs := [v24, .nil, .nil,
      .int .i64 s_0.Sent, .int .i64 0]) rfl rfl (Nat.le_of_ble_eq_true rfl) rfl rfl (fill1 (us := [.int .i64 s_0.Total]) (vs := [v24, .nil, .nil, .int .i64 s_0.Sent,
      .int .i64 s_0.Total]) rfl rfl (Nat.le_of_ble_eq_true rfl) rfl rfl fill0)))) ?_
  simp only [d3_st, B0, reduceIte, reduceEqDiff]
  refine put2d_stCx (us := [v24, .nil, .nil, .int .i64 s_0.Sent, .int .i64 s_0.Total]) rfl (cs' := [v24, .nil, .nil, .int .i64 s_0.Sent,
      .int .i64 s_0.Total]) (Sep.m1 hS28) hW rfl (all_c (SlF.one hv27) (all_c rfl (all_c rfl (all_c rfl (all_c rfl all_n))))) (Nat.le_of_ble_eq_true rfl) rfl (fun h30 hS31 => ?_)
  simp only [run_draw_nil, x43_13, run_seq, run_reg, run_fa, put1_some, Nat.reduceAdd, Nat.zero_add, Nat.add_zero, xfa_ref, run_ld, B0, reduceIte, reduceEqDiff]
  refine put1_eq (v := lst Chan.cells s_0.Chans) rfl ?_
  simp only [run_len, put1_some, xlen_lst, run_mv, run_ops_nil, B0, reduceIte, reduceEqDiff]
  obtain ⟨oc44, hX46, hk47⟩ := jn_some hF23
  simp only [x43_5]
  refine rangeL_j (σ := Snap) s_0.Chans (fun i42 x43 s107 => spec_l8Own_b1 l21 i42 x43 s107) (fun s fr' h' => ∃ v39 c40, fr' 1 = .ref [lst cI s_0.Amounts,
      lst Chan.cells s_0.Chans, lst Picture.cells s_0.Pictures, .int .i64 s_0.Sent,
      .int .i64 s_0.Total] 0 ∧ fr' 2 = .ptr b5 0 ∧ fr' 3 = .ptr b17 0 ∧ fr' 18 = lst Chan.cells s_0.Chans ∧ SlN Chan.R 3 74 v39 s.Chans c40 ∧ Sep h' h.length ([Blk1 b5 [.nil,
      .nil, .nil, .int .i64 0, .int .i64 0] 30] ++ ([Blk1 b17 [v24, v39, .nil, .int .i64 s.Sent, .int .i64 s.Total] 30] ++ (c25 ++ (c40 ++ ([])))))) hX46 ⟨.nil, [],
      by simp only [B0, reduceIte, reduceEqDiff], by simp only [B0, reduceIte, reduceEqDiff], by simp only [B0, reduceIte, reduceEqDiff], by simp only [B0, reduceIte,
      reduceEqDiff], SlN.nil, ((Sep.m2 (Sep.m1 (Sep.m1 hS31))) : Sep _ h.length ([Blk1 b5 [.nil, .nil, .nil, .int .i64 0, .int .i64 0] 30] ++ ([Blk1 b17 [v24, .nil, .nil,
      .int .i64 s_0.Sent, .int .i64 s_0.Total] 30] ++ (c25 ++ ([])))))⟩ (by simp only [B0, reduceIte, reduceEqDiff]) (by simp only [B0, reduceIte,
      reduceEqDiff]) (fun _ _ _ h => h) rfl rfl (fun _ _ _ _ h => h) (fun _ _ _ _ h => h) (fun _ _ _ _ h => h) (by decide) ?_ ?_
  · rintro i42 x43 s37 fr56 h57 hx63 ⟨v39, c40, f59, f60, f61, f62, hv41, hS58⟩ f64 f65 oc45 hF48 hr49 Q50 hN51 hB55 hK52 hR53 hE54
    unfold spec_l8Own_b1 at hF48
    simp only [x43_3, run_seq, run_reg, f62, f64, run_ia, B0, reduceIte, reduceEqDiff]
    refine put1_eq (v := .ref (Chan.cells x43) 0) (xia_lstN hx63 rfl) ?_
    simp only [run_ld, B0, reduceIte, reduceEqDiff]
    refine put1_eq (v := .agg [.int .i64 x43.From, .int .i64 x43.To, lst cI x43.Way]) rfl ?_
    simp only [run_new, B0, reduceIte, reduceEqDiff]
    refine put2_newC hS58 (fun b66 h67 hS68 => ?_)
    simp only [run_st, B0, reduceIte, reduceEqDiff]
    refine put2_stCx (us := [.int .i64 x43.From, .int .i64 x43.To, lst cI x43.Way]) rfl (cs' := [.int .i64 x43.From, .int .i64 x43.To,
        lst cI x43.Way]) hS68 hW rfl rfl (Nat.le_of_ble_eq_true rfl) rfl (fun h70 hS71 => ?_)
    simp only [run_ops_nil, x43_2, run_seq, run_reg, run_buildS, evp, B0, reduceIte, reduceEqDiff]
    refine put2_buildSF (n := 1) (f := cI) ([] : List Int) hS71 rfl rfl (fun v72 c73 h74 hv75 hS76 => ?_)
    simp only [run_fa, put1_some, Nat.reduceAdd, Nat.zero_add, Nat.add_zero, xfa_ptr, run_ld, B0, reduceIte, reduceEqDiff]
    refine put1_eq (v := lst cI x43.Way) ((xld_b (Sep.bk _ _ _ (Sep.m1 hS76))).trans rfl) ?_
    simp only [run_app, B0, reduceIte, reduceEqDiff]
    obtain ⟨l78, hx79, hF80⟩ := bind_some' hF48
    refine put2_appF (f := cI) hv75 hS76 hW (fun _ => rfl) (fun _ => rfl) (firstOf_lst (fun _ => rfl)) hx79 (fun v81 c82 h83 hv84 hS85 => ?_)
    simp only [run_fa, put1_some, Nat.reduceAdd, Nat.zero_add, Nat.add_zero, xfa_ptr, run_st, B0, reduceIte, reduceEqDiff]
    refine put2_stCx (us := [v81]) (cells_one (SlF.one hv84)) (cs' := [.int .i64 x43.From, .int .i64 x43.To,
        v81]) (Sep.m1 hS85) hW rfl (all_c (SlF.one hv84) all_n) (Nat.le_of_ble_eq_true rfl) rfl (fun h87 hS88 => ?_)
    simp only [run_ops_nil, x43_1, run_reg, f61, run_fa, put1_some, Nat.reduceAdd, Nat.zero_add, Nat.add_zero, xfa_ptr, run_ld, B0, reduceIte, reduceEqDiff]
    refine put1_eq (v := v39) ((xld_b (Sep.bk _ _ _ (Sep.m3 hS88))).trans rfl) ?_
    simp only [run_ld, B0, reduceIte, reduceEqDiff]
    refine put1_eq (v := .agg [.int .i64 x43.From, .int .i64 x43.To, v81]) ((xld_bs (Sep.bk _ _ _ hS88)).trans rfl) ?_
    simp only [run_buildS, evp, B0, reduceIte, reduceEqDiff]
    refine put2_buildSN (R := Chan.R) (n := 3) (cs := [.int .i64 x43.From, .int .i64 x43.To, v81]) (os := c82) (Sep.m1 hS88) (fill1 (us := [.int .i64 x43.From, .int .i64 x43.To,
        v81]) (vs := [.int .i64 x43.From, .int .i64 x43.To,
        v81]) rfl rfl (Nat.le_of_ble_eq_true rfl) (all_c rfl (all_c rfl (all_c (SlF.one hv84) all_n))) rfl fill0) (Chan.RI (x := (Chan.mk x43.From x43.To l78)) hv84) rfl
        (fun v89 c90 h91 hv92 hS93 => ?_)
    simp only [run_app, B0, reduceIte, reduceEqDiff]
    obtain ⟨l95, hx96, hF97⟩ := bind_some' hF80
    refine put2_appN (R := Chan.R) (c := c40) hv41 hv92 (Sep.m5 hS93) hW Chan.RO.len Chan.RO.one hx96 (fun v98 c99 h100 hv101 hS102 => ?_)
    simp only [f61, run_fa, put1_some, Nat.reduceAdd, Nat.zero_add, Nat.add_zero, xfa_ptr, run_st, B0, reduceIte, reduceEqDiff]
    refine put2_stCx (us := [v98]) (cells_one (SlN.one hv101)) (cs' := [v24, v98, .nil, .int .i64 s37.Sent,
        .int .i64 s37.Total]) (Sep.m3 hS102) hW rfl (all_c (SlN.one hv101) all_n) (Nat.le_of_ble_eq_true rfl) rfl (fun h104 hS105 => ?_)
    simp only [run_ops_nil, run_nil, B0, reduceIte, reduceEqDiff]
    have e106 := some_inj hF97
    exact hN51 _ _ _ e106.symm ⟨v98, c99, by simp only [f59, B0, reduceIte, reduceEqDiff], by simp only [f60, B0, reduceIte, reduceEqDiff], by simp only [f61, B0, reduceIte,
        reduceEqDiff], by simp only [f62, B0, reduceIte, reduceEqDiff], hv101, (Sep.m3 (Sep.m2 (Sep.m3 (Sep.m1 (Sep.dc (Sep.m2 hS105))))))⟩ (by simp only [f64, B0, reduceIte,
        reduceEqDiff]) (by simp only [f65, B0, reduceIte, reduceEqDiff])
  rintro s108 fr113 h114 rfl ⟨v110, c111, f116, f117, f118, f119, hv112, hS115⟩
  dsimp only [jnO] at hk47
  unfold spec_l8Own_j2 at hk47
  simp only [x43_12, run_seq, run_reg, f116, run_fa, put1_some, Nat.reduceAdd, Nat.zero_add, Nat.add_zero, xfa_ref, run_ld, B0, reduceIte, reduceEqDiff]
  refine put1_eq (v := lst Picture.cells s_0.Pictures) rfl ?_
  simp only [run_len, put1_some, xlen_lst, run_mv, run_ops_nil, B0, reduceIte, reduceEqDiff]
  obtain ⟨oc132, hX134, hk135⟩ := jn_some hk47
  simp only [x43_11]
  refine rangeL_j (σ := Snap) s_0.Pictures (fun i130 x131 s211 => spec_l8Own_b2 l21 s108 i130 x131 s211) (fun s fr' h' => ∃ v127 c128,
      fr' 2 = .ptr b5 0 ∧ fr' 3 = .ptr b17 0 ∧ fr' 37 = lst Picture.cells s_0.Pictures ∧ SlN Picture.R 4 76 v127 s.Pictures c128 ∧ Sep h' h.length ([Blk1 b5 [.nil, .nil, .nil,
      .int .i64 0, .int .i64 0] 30] ++ ([Blk1 b17 [v24, v110, v127, .int .i64 s.Sent, .int .i64 s.Total] 30] ++ (c25 ++ (c111 ++ (c128 ++ ([]))))))) hX134 ⟨.nil, [],
      by simp only [f117, B0, reduceIte, reduceEqDiff], by simp only [f118, B0, reduceIte, reduceEqDiff], by simp only [B0, reduceIte, reduceEqDiff], SlN.nil,
      ((Sep.m3 (Sep.m3 (Sep.m3 (Sep.m3 hS115)))) : Sep _ h.length ([Blk1 b5 [.nil, .nil, .nil, .int .i64 0, .int .i64 0] 30] ++ ([Blk1 b17 [v24, v110, .nil, .int .i64 s108.Sent,
      .int .i64 s108.Total] 30] ++ (c25 ++ (c111 ++ ([]))))))⟩ (by simp only [B0, reduceIte, reduceEqDiff]) (by simp only [B0, reduceIte,
      reduceEqDiff]) (fun _ _ _ h => h) rfl rfl (fun _ _ _ _ h => h) (fun _ _ _ _ h => h) (fun _ _ _ _ h => h) (by decide) ?_ ?_
  · rintro i130 x131 s125 fr144 h145 hx150 ⟨v127, c128, f147, f148, f149, hv129, hS146⟩ f151 f152 oc133 hF136 hr137 Q138 hN139 hB143 hK140 hR141 hE142
    unfold spec_l8Own_b2 at hF136
    simp only [x43_9, run_seq, run_reg, f149, f151, run_ia, B0, reduceIte, reduceEqDiff]
    refine put1_eq (v := .ref (Picture.cells x131) 0) (xia_lstN hx150 rfl) ?_
    simp only [run_ld, B0, reduceIte, reduceEqDiff]
    refine put1_eq (v := .agg [.bool x131.Taken, .int .i64 x131.Amount, lst cI x131.In, lst cB x131.Closed]) rfl ?_
    simp only [run_new, B0, reduceIte, reduceEqDiff]
    refine put2_newC hS146 (fun b153 h154 hS155 => ?_)
    simp only [run_st, B0, reduceIte, reduceEqDiff]
    refine put2_stCx (us := [.bool x131.Taken, .int .i64 x131.Amount, lst cI x131.In, lst cB x131.Closed]) rfl (cs' := [.bool x131.Taken, .int .i64 x131.Amount, lst cI x131.In,
        lst cB x131.Closed]) hS155 hW rfl rfl (Nat.le_of_ble_eq_true rfl) rfl (fun h157 hS158 => ?_)
    simp only [run_ops_nil, x43_8, run_seq, run_reg, run_buildS, evp, B0, reduceIte, reduceEqDiff]
    refine put2_buildSF (n := 1) (f := cI) ([] : List Int) hS158 rfl rfl (fun v159 c160 h161 hv162 hS163 => ?_)
    simp only [run_fa, put1_some, Nat.reduceAdd, Nat.zero_add, Nat.add_zero, xfa_ptr, run_ld, B0, reduceIte, reduceEqDiff]
    refine put1_eq (v := lst cI x131.In) ((xld_b (Sep.bk _ _ _ (Sep.m1 hS163))).trans rfl) ?_
    simp only [run_app, B0, reduceIte, reduceEqDiff]
    obtain ⟨l165, hx166, hF167⟩ := bind_some' hF136
    refine put2_appF (f := cI) hv162 hS163 hW (fun _ => rfl) (fun _ => rfl) (firstOf_lst (fun _ => rfl)) hx166 (fun v168 c169 h170 hv171 hS172 => ?_)
    simp only [run_fa, put1_some, Nat.reduceAdd, Nat.zero_add, Nat.add_zero, xfa_ptr, run_st, B0, reduceIte, reduceEqDiff]
    refine put2_stCx (us := [v168]) (cells_one (SlF.one hv171)) (cs' := [.bool x131.Taken, .int .i64 x131.Amount, v168,
        lst cB x131.Closed]) (Sep.m1 hS172) hW rfl (all_c (SlF.one hv171) all_n) (Nat.le_of_ble_eq_true rfl) rfl (fun h174 hS175 => ?_)
    simp only [run_ops_nil, x43_7, run_seq, run_reg, run_buildS, evp, B0, reduceIte, reduceEqDiff]
    refine put2_buildSF (n := 1) (f := cB) ([] : List Bool) hS175 rfl rfl (fun v176 c177 h178 hv179 hS180 => ?_)
    simp only [run_fa, put1_some, Nat.reduceAdd, Nat.zero_add, Nat.add_zero, xfa_ptr, run_ld, B0, reduceIte, reduceEqDiff]
    refine put1_eq (v := lst cB x131.Closed) ((xld_b (Sep.bk _ _ _ (Sep.m1 hS180))).trans rfl) ?_
    simp only [run_app, B0, reduceIte, reduceEqDiff]
    obtain ⟨l182, hx183, hF184⟩ := bind_some' hF167
    refine put2_appF (f := cB) hv179 hS180 hW (fun _ => rfl) (fun _ => rfl) (firstOf_lst (fun _ => rfl)) hx183 (fun v185 c186 h187 hv188 hS189 => ?_)
    simp only [run_fa, put1_some, Nat.reduceAdd, Nat.zero_add, Nat.add_zero, xfa_ptr, run_st, B0, reduceIte, reduceEqDiff]
    refine put2_stCx (us := [v185]) (cells_one (SlF.one hv188)) (cs' := [.bool x131.Taken, .int .i64 x131.Amount, v168,
        v185]) (Sep.m1 hS189) hW rfl (all_c (SlF.one hv188) all_n) (Nat.le_of_ble_eq_true rfl) rfl (fun h191 hS192 => ?_)
    simp only [run_ops_nil, x43_6, run_reg, f148, run_fa, put1_some, Nat.reduceAdd, Nat.zero_add, Nat.add_zero, xfa_ptr, run_ld, B0, reduceIte, reduceEqDiff]
    refine put1_eq (v := v127) ((xld_b (Sep.bk _ _ _ (Sep.m4 hS192))).trans rfl) ?_
    simp only [run_ld, B0, reduceIte, reduceEqDiff]
    refine put1_eq (v := .agg [.bool x131.Taken, .int .i64 x131.Amount, v168, v185]) ((xld_bs (Sep.bk _ _ _ hS192)).trans rfl) ?_
    simp only [run_buildS, evp, B0, reduceIte, reduceEqDiff]
    refine put2_buildSN (R := Picture.R) (n := 4) (cs := [.bool x131.Taken, .int .i64 x131.Amount, v168,
        v185]) (os := c169 ++ (c186)) (Sep.bi2 (c1 := c169) (c2 := c186) (Sep.m2 (Sep.m1 hS192))) (fill1 (us := [.bool x131.Taken, .int .i64 x131.Amount, v168,
        v185]) (vs := [.bool x131.Taken, .int .i64 x131.Amount, v168,
        v185]) rfl rfl (Nat.le_of_ble_eq_true rfl) (all_c rfl (all_c rfl (all_c (SlF.one hv171) (all_c (SlF.one hv188) all_n)))) rfl fill0) (Picture.RI (x :=
        (Picture.mk x131.Taken x131.Amount l165 l182)) hv171 hv188) rfl (fun v193 c194 h195 hv196 hS197 => ?_)
    simp only [run_app, B0, reduceIte, reduceEqDiff]
    obtain ⟨l199, hx200, hF201⟩ := bind_some' hF184
    refine put2_appN (R := Picture.R) (c := c128) hv129 hv196 (Sep.m6 hS197) hW Picture.RO.len Picture.RO.one hx200 (fun v202 c203 h204 hv205 hS206 => ?_)
    simp only [f148, run_fa, put1_some, Nat.reduceAdd, Nat.zero_add, Nat.add_zero, xfa_ptr, run_st, B0, reduceIte, reduceEqDiff]
    refine put2_stCx (us := [v202]) (cells_one (SlN.one hv205)) (cs' := [v24, v110, v202, .int .i64 s125.Sent,
        .int .i64 s125.Total]) (Sep.m3 hS206) hW rfl (all_c (SlN.one hv205) all_n) (Nat.le_of_ble_eq_true rfl) rfl (fun h208 hS209 => ?_)
    simp only [run_ops_nil, run_nil, B0, reduceIte, reduceEqDiff]
    have e210 := some_inj hF201
    exact hN139 _ _ _ e210.symm ⟨v202, c203, by simp only [f147, B0, reduceIte, reduceEqDiff], by simp only [f148, B0, reduceIte, reduceEqDiff], by simp only [f149, B0, reduceIte,
        reduceEqDiff], hv205, (Sep.m4 (Sep.m3 (Sep.m4 (Sep.m4 (Sep.m1 (Sep.dc (Sep.m2 hS209)))))))⟩ (by simp only [f151, B0, reduceIte, reduceEqDiff]) (by simp only [f152, B0,
        reduceIte, reduceEqDiff])
  rintro s212 fr217 h218 rfl ⟨v214, c215, f220, f221, f222, hv216, hS219⟩
  dsimp only [jnO] at hk135
  unfold spec_l8Own_j1 at hk135
  simp only [run_seq, run_reg, f221, run_ld, B0, reduceIte, reduceEqDiff]
  refine put1_eq (v := .agg [v24, v110, v214, .int .i64 s212.Sent, .int .i64 s212.Total]) ((xld_bs (Sep.bk _ _ _ (Sep.m1 hS219))).trans rfl) ?_
  simp only [f220, run_st, B0, reduceIte, reduceEqDiff]
  refine put2_stCx (us := [v24, v110, v214, .int .i64 s212.Sent, .int .i64 s212.Total]) rfl (cs' := [v24, v110, v214, .int .i64 s212.Sent,
      .int .i64 s212.Total]) hS219 hW rfl (all_c (SlF.one hv27) (all_c (SlN.one hv112) (all_c (SlN.one hv216) (all_c rfl (all_c rfl all_n))))) (Nat.le_of_ble_eq_true rfl) rfl
      (fun h223 hS224 => ?_)
  simp only [run_ops_nil, run_ret, B0, reduceIte, reduceEqDiff]
  have he := some_inj hk135
  subst he
  refine end_ret_cell (bb := b5) (oo := 0) (v := .agg [v24, v110, v214, .int .i64 s212.Sent, .int .i64 s212.Total]) (by simp only [f220, B0, reduceIte,
      reduceEqDiff]) ((xld_bs (Sep.bk _ _ _ hS224)).trans rfl) ?_
  exact ⟨v24, c25, v110, c111, v214, c215, by first | trivial | rfl, hv27, hv112, hv216, (Sep.m2 (Sep.m2 (Sep.m2 (Sep.dc ((Sep.dc (hS224)))))))⟩
end Go.Proofs.Ytpkiieniipenjaa.X
namespace Go.Proofs.Ytpkiieniipenjaa.X
open Go
open Nat (reduceEqDiff)
theorem spec_PlaySnap_x {W : Nat → Bool} {h : Heap} (hW : ∀ b,
    h.length ≤ b → W b = true) (k : Nat) (procs_0 : Int) (amount_1 : Int) (l_2 : List SnapStep) (r : Snap × (List Bool) × Bool)
    (hF : spec_PlaySnap k procs_0 amount_1 l_2 = some r) : Ret E W 8 [.int .i64 procs_0, .int .i64 amount_1,
    lst SnapStep.cells l_2] h (fun v h' => ∃ rv0_0 rc0_0 rv0_1 rc0_1 rv0_2 rc0_2 rv1 rc1, v = .tup [.agg [rv0_0, rv0_1, rv0_2, .int .i64 r.1.Sent, .int .i64 r.1.Total], rv1,
    .bool r.2.2] ∧ SlF cI 1 3 rv0_0 r.1.Amounts rc0_0 ∧ SlN Chan.R 3 74 rv0_1 r.1.Chans rc0_1 ∧ SlN Picture.R 4 76 rv0_2 r.1.Pictures rc0_2 ∧ SlF cB 1 4 rv1 r.2.1 rc1 ∧ Sep h' h.length
    (rc0_0 ++ (rc0_1 ++ (rc0_2 ++ (rc1 ++ ([])))))) := by
  refine Ret.of (fn := x8) rfl (Run.of ?_)
  unfold spec_PlaySnap at hF
  have zf0 : argFr [.int .i64 procs_0, .int .i64 amount_1, lst SnapStep.cells l_2] 0 = .int .i64 procs_0 := rfl
  have zf1 : argFr [.int .i64 procs_0, .int .i64 amount_1, lst SnapStep.cells l_2] 1 = .int .i64 amount_1 := rfl
  have zf2 : argFr [.int .i64 procs_0, .int .i64 amount_1, lst SnapStep.cells l_2] 2 = lst SnapStep.cells l_2 := rfl
  generalize argFr [.int .i64 procs_0, .int .i64 amount_1, lst SnapStep.cells l_2] = fr0 at zf0 zf1 zf2 ⊢
  have hS : Sep h h.length [] := Sep.nil h
  simp only [x8, run_seq, run_reg, run_new, B0, reduceIte, reduceEqDiff]
  refine put2_newC hS (fun b1 h2 hS3 => ?_)
  obtain ⟨v5, hx6, hF7⟩ := bind_some' hF
  simp only [run_mv, run_ops_nil, x8_14, run_seq, run_reg, zf0, zf1, run_call, B0, reduceIte, reduceEqDiff]
  refine call2 rfl hS3 (mapM1 snap_int (mapM1 snap_int mapM0)) (spec_NewSnap_x (fun b hb => decide_eq_true hb) k procs_0 amount_1 v5 hx6) ?_
  rintro _ h20 ⟨v8, c9, v12, c13, v16, c17, rfl, hv10, hv14, hv18, hS21⟩
  refine ⟨_, free_t (all_c (free2_a (all_c (SlF.free1 hv10) (all_c (SlN.free1 hv14) (all_c (SlN.free1 hv18) (all_c rfl (all_c rfl all_n)))))) (all_c rfl all_n)), hS21,
      (pf_app (SlF.pf hv10 (fun _ => rfl)) (pf_app (SlN.pf hv14 Chan.RO) (pf_app (SlN.pf hv18 Picture.RO) pf_nil))), fun h22 hS23 => ?_⟩
  have hS24 : Sep h22 h.length (c9 ++ (c13 ++ (c17 ++ ([Blk1 b1 [.nil, .nil, .nil, .int .i64 0, .int .i64 0] 30] ++ ([]))))) := by simpa only [List.append_assoc,
      List.nil_append] using hS23
  simp only [run_mv, run_ext, put1_some, xext_0, xext_1, run_new, B0, reduceIte, reduceEqDiff]
  refine put2_newC hS24 (fun b25 h26 hS27 => ?_)
  simp only [run_st, B0, reduceIte, reduceEqDiff]
  refine put2_stCx (us := [v8, v12, v16, .int .i64 v5.1.Sent, .int .i64 v5.1.Total]) rfl (cs' := [v8, v12, v16, .int .i64 v5.1.Sent,
      .int .i64 v5.1.Total]) hS27 hW rfl (all_c (SlF.one hv10) (all_c (SlN.one hv14) (all_c (SlN.one hv18) (all_c rfl (all_c rfl all_n))))) (Nat.le_of_ble_eq_true rfl) rfl
      (fun h29 hS30 => ?_)
  simp only [run_mv, run_ops_nil, x8_13, run_seq, run_reg, run_un, put1_some, xnot, B0, reduceIte, reduceEqDiff]
  refine ops_j 4 (fun fr' h' => Sep h' h.length ([Blk1 b1 [.nil, .nil, .nil, .int .i64 0, .int .i64 0] 30] ++ ([Blk1 b25 [v8, v12, v16, .int .i64 v5.1.Sent,
      .int .i64 v5.1.Total] 30] ++ (c9 ++ (c13 ++ (c17 ++ ([])))))) ∧ fr' 28 = .bool ((!v5.2) || (decide ((80 : Int) <
      (List.length l_2 : Int)))) ∧ fr' 2 = lst SnapStep.cells l_2 ∧ fr' 6 = .ptr b1 0 ∧ fr' 9 = .ptr b25 0) (fun Q31 hN32 => ?_) ?_
  · simp only [List.take_succ_cons, List.take_zero]
    simp only [run_guard (g := 24), B0, reduceIte, reduceEqDiff]
    refine guard_split (t := (!v5.2)) (fun hg33 => ?_) (fun hg33 => ?_)
    · simp only [hg33, run_guard (g := 24), guard_off', run_pick, put1_some, xpick_t, run_ops_nil, run_nil, B0, reduceIte, reduceEqDiff]
      exact hN32 _ _ ⟨(Sep.m4 (Sep.m3 (Sep.m3 (Sep.m3 (Sep.m3 hS30))))), by rw [orT hg33]; simp only [B0, reduceIte, reduceEqDiff], by simp only [zf2, B0, reduceIte,
          reduceEqDiff], by simp only [B0, reduceIte, reduceEqDiff], by simp only [B0, reduceIte, reduceEqDiff]⟩
    · simp only [hg33, run_guard (g := 24), guard_false, zf2, run_mv, run_len, put1_some, xlen_lst, run_bin, xgtr, run_pick, xpick_f, run_ops_nil, run_nil, B0, reduceIte,
        reduceEqDiff]
      exact hN32 _ _ ⟨(Sep.m4 (Sep.m3 (Sep.m3 (Sep.m3 (Sep.m3 hS30))))), by rw [orF hg33]; simp only [B0, reduceIte, reduceEqDiff], by simp only [zf2, B0, reduceIte,
          reduceEqDiff], by simp only [B0, reduceIte, reduceEqDiff], by simp only [B0, reduceIte, reduceEqDiff]⟩
  rintro fr34 h39 ⟨hS40, f35, f36, f37, f38⟩
  simp only [List.drop_succ_cons, List.drop_zero]
  simp only [run_ops_nil, x8_2, f35, run_cond, B0, reduceIte, reduceEqDiff]
  refine cond_split (t := ((!v5.2) || (decide ((80 : Int) < (List.length l_2 : Int))))) (fun hc41 => ?_) (fun hc41 => ?_)
  · rw [iteT hc41] at hF7
    simp only [x8_1, run_seq, run_reg, run_build, evp, B0, reduceIte, reduceEqDiff]
    refine put1_eq (v := .agg [.nil, .nil, .nil, .int .i64 0, .int .i64 0]) rfl ?_
    simp only [f37, run_st, B0, reduceIte, reduceEqDiff]
    refine put2_stCx (us := [.nil, .nil, .nil, .int .i64 0, .int .i64 0]) rfl (cs' := [.nil, .nil, .nil, .int .i64 0,
        .int .i64 0]) hS40 hW rfl rfl (Nat.le_of_ble_eq_true rfl) rfl (fun h42 hS43 => ?_)
    simp only [run_mv, run_ops_nil, run_ret, B0, reduceIte, reduceEqDiff]
    have he := some_inj hF7
    subst he
    refine end_ret_m (mapM1 (res_cell (bb := b1) (oo := 0) (v := .agg [.nil, .nil, .nil, .int .i64 0, .int .i64 0]) (by simp only [f37, B0, reduceIte,
        reduceEqDiff]) ((xld_bs (Sep.bk _ _ _ hS43)).trans rfl)) (mapM1 (res_t (v := .nil) (by simp only [B0, reduceIte,
        reduceEqDiff])) (mapM1 (res_t (v := .bool false) (by simp only [B0, reduceIte, reduceEqDiff])) mapM0))) ?_
    exact ⟨.nil, [], .nil, [], .nil, [], .nil, [], by first | trivial | rfl, SlF.nil, SlN.nil, SlN.nil, SlF.nil,
        ((Sep.dc ((Sep.dc ((Sep.dc ((Sep.dc ((Sep.dc (hS43)))))))))) : Sep _ h.length ([]))⟩
  rw [iteF hc41] at hF7
  simp only [run_skip, x8_12, run_seq, run_reg, run_mv, run_ops_nil, x8_11, f36, run_len, put1_some, xlen_lst, B0, reduceIte, reduceEqDiff]
  obtain ⟨oc82, hX84, hk85⟩ := jn_some hF7
  simp only [x8_9]
  refine rangeL_j (σ := (List Bool) × Snap) l_2 (fun i80 x81 s203 => spec_PlaySnap_b1 i80 x81 s203.1 s203.2) (fun s fr' h' => ∃ v64 c65 v69 c70 v73 c74 v77 c78,
      fr' 6 = .ptr b1 0 ∧ fr' 9 = .ptr b25 0 ∧ fr' 11 = v64 ∧ fr' 30 = lst SnapStep.cells l_2 ∧ SlF cB 1 4 v64 s.1 c65 ∧ SlF cI 1 3 v69 s.2.Amounts c70 ∧ SlN Chan.R 3 74 v73 s.2.Chans c74 ∧ SlN Picture.R 4 76 v77 s.2.Pictures c78 ∧ Sep h' h.length
      ([Blk1 b1 [.nil, .nil, .nil, .int .i64 0, .int .i64 0] 30] ++ ([Blk1 b25 [v69, v73, v77, .int .i64 s.2.Sent,
      .int .i64 s.2.Total] 30] ++ (c65 ++ (c70 ++ (c74 ++ (c78 ++ ([])))))))) hX84 ⟨.nil, [], v8, c9, v12, c13, v16, c17, by simp only [f37, B0, reduceIte, reduceEqDiff],
      by simp only [f38, B0, reduceIte, reduceEqDiff], by simp only [B0, reduceIte, reduceEqDiff], by simp only [B0, reduceIte, reduceEqDiff], SlF.nil, hv10, hv14, hv18,
      ((Sep.m4 (Sep.m4 (Sep.m4 (Sep.m4 (Sep.m4 hS40))))) : Sep _ h.length ([Blk1 b1 [.nil, .nil, .nil, .int .i64 0, .int .i64 0] 30] ++ ([Blk1 b25 [v8, v12, v16,
      .int .i64 v5.1.Sent, .int .i64 v5.1.Total] 30] ++ (c9 ++ (c13 ++ (c17 ++ ([])))))))⟩ (by simp only [B0, reduceIte, reduceEqDiff]) (by simp only [B0, reduceIte,
      reduceEqDiff]) (fun _ _ _ h => h) rfl rfl (fun _ _ _ _ h => h) (fun _ _ _ _ h => h) (fun _ _ _ _ h => h) (by decide) ?_ ?_
  · rintro i80 x81 ⟨s62, s67⟩ fr94 h95 hx101 ⟨v64, c65, v69, c70, v73, c74, v77, c78, f97, f98, f99, f100, hv66, hv71, hv75, hv79,
      hS96⟩ f102 f103 oc83 hF86 hr87 Q88 hN89 hB93 hK90 hR91 hE92
    dsimp only at *
    unfold spec_PlaySnap_b1 at hF86
    simp only [x8_7, run_seq, run_reg, f100, f102, run_ia, B0, reduceIte, reduceEqDiff]
    refine put1_eq (v := .ref (SnapStep.cells x81) 0) (xia_lstN hx101 rfl) ?_
    simp only [run_ld, B0, reduceIte, reduceEqDiff]
    refine put1_eq (v := .agg [.int .i64 x81.Kind, .int .i64 x81.K, .int .i64 x81.N]) rfl ?_
    simp only [run_new, B0, reduceIte, reduceEqDiff]
    refine put2_newC hS96 (fun b104 h105 hS106 => ?_)
    simp only [run_st, B0, reduceIte, reduceEqDiff]
    refine put2_stCx (us := [.int .i64 x81.Kind, .int .i64 x81.K, .int .i64 x81.N]) rfl (cs' := [.int .i64 x81.Kind, .int .i64 x81.K,
        .int .i64 x81.N]) hS106 hW rfl rfl (Nat.le_of_ble_eq_true rfl) rfl (fun h108 hS109 => ?_)
    simp only [run_ops_nil, B0, reduceIte, reduceEqDiff]
    refine frz_stepC hS109 hW (by simp only [B0, reduceIte, reduceEqDiff]) (fun h110 hS111 => ?_)
    simp only [run_frz_nil, x8_6, run_seq, run_draw, d1_new, B0, reduceIte, reduceEqDiff]
    refine put2d_newC hS111 (fun b112 h113 hS114 => ?_)
    simp only [f98, d4_ld, B0, reduceIte, reduceEqDiff]
    refine put1d_eq (v := .agg [v69, v73, v77, .int .i64 s67.Sent, .int .i64 s67.Total]) ((xld_bs (Sep.bk _ _ _ (Sep.m2 hS114))).trans rfl) ?_
    obtain ⟨v116, hx117, hF118⟩ := bind_some' hF86
    simp only [run_d2_call, B0, reduceIte, reduceEqDiff]
    refine call2q rfl hS114 (mapM1 (snap_agg (mapM1 (SlF.snap hv71 (Sep.m4 hS114) rfl (fun _ => rfl) (fun _ => rfl)) (mapM1 (SlN.snap hv75 _ (Sep.m5 hS114) rfl Chan.RO) (mapM1
        (SlN.snap hv79 _ (Sep.m6 hS114) rfl Picture.RO) (mapM1 snap_int (mapM1 snap_int mapM0)))))) mapM0) (spec_l8Own_x (fun b hb => decide_eq_true hb) s67 v116 hx117) ?_
    rintro _ h131 ⟨v119, c120, v123, c124, v127, c128, rfl, hv121, hv125, hv129, hS132⟩
    refine ⟨_, free_a (all_c (SlF.free1 hv121) (all_c (SlN.free1 hv125) (all_c (SlN.free1 hv129) (all_c rfl (all_c rfl all_n))))), hS132,
        (pf_app (SlF.pf hv121 (fun _ => rfl)) (pf_app (SlN.pf hv125 Chan.RO) (pf_app (SlN.pf hv129 Picture.RO) pf_nil))), fun h133 hS134 => ?_⟩
    have hS135 : Sep h133 h.length (c120 ++ (c124 ++ (c128 ++ ([Blk1 b112 [.nil, .nil, .nil, .int .i64 0, .int .i64 0] 30] ++ ([Blk1 b1 [.nil, .nil, .nil, .int .i64 0,
        .int .i64 0] 30] ++ ([Blk1 b25 [v69, v73, v77, .int .i64 s67.Sent,
        .int .i64 s67.Total] 30] ++ (c65 ++ (c70 ++ (c74 ++ (c78 ++ ([]))))))))))) := by simpa only [List.append_assoc, List.nil_append] using hS134
    simp only [d1_ld, ldd_ref, B0, reduceIte, reduceEqDiff]
    refine put1d_eq (v := .agg [.int .i64 x81.Kind, .int .i64 x81.K, .int .i64 x81.N]) rfl ?_
    obtain ⟨v136, hx137, hF138⟩ := bind_some' hF118
    simp only [run_d3_call, B0, reduceIte, reduceEqDiff]
    refine call0d rfl (spec_l8Step_x hW v116 v119 c120 hv121 v123 c124 hv125 v127 c128 hv129 x81 v136 hx137 (Sep.m2 (Sep.m2 (Sep.m2 hS135)))) ?_
    rintro _ h145 ⟨c139, c141, c143, rfl, hv140, hv142, hv144, hS146⟩
    simp only [d4_mv, put1d_some, d4_ext, xext_0, d1_ext, xext_1, d3_st, B0, reduceIte, reduceEqDiff]
    refine put2d_stCx (us := [v119, v123, v127, .int .i64 v136.1.Sent, .int .i64 v136.1.Total]) rfl (cs' := [v119, v123, v127, .int .i64 v136.1.Sent,
        .int .i64 v136.1.Total]) (Sep.m3 hS146) hW rfl (all_c (SlF.one hv140) (all_c (SlN.one hv142) (all_c (SlN.one hv144) (all_c rfl (all_c rfl all_n)))))
        (Nat.le_of_ble_eq_true rfl) rfl (fun h147 hS148 => ?_)
    simp only [d4_mv, put1d_some, run_draw_nil, B0, reduceIte, reduceEqDiff]
    refine frz_stepC hS148 hW (by simp only [B0, reduceIte, reduceEqDiff]) (fun h149 hS150 => ?_)
    simp only [run_frz_nil, x8_5, run_seq, run_reg, run_mv, run_ops_nil, x8_3, run_cond, B0, reduceIte, reduceEqDiff]
    obtain ⟨s151, hX165, hk166⟩ := bind_some' hF138
    refine cond_j (t := v136.2) (fun fr' h' => ∃ v153 c154 v157 c158 v161 c162,
        fr' 6 = .ptr b1 0 ∧ fr' 9 = .ptr b25 0 ∧ fr' 11 = v64 ∧ fr' 15 = .bool v136.2 ∧ fr' 30 = lst SnapStep.cells l_2 ∧ fr' 31 = .int .i64
        (List.length l_2 : Int) ∧ fr' 32 = .int .i64
        (i80 : Int) ∧ SlF cI 1 3 v153 s151.Amounts c154 ∧ SlN Chan.R 3 74 v157 s151.Chans c158 ∧ SlN Picture.R 4 76 v161 s151.Pictures c162 ∧ Sep h' h.length ([Blk1 b1 [.nil,
        .nil, .nil, .int .i64 0, .int .i64 0] 30] ++ ([Blk1 b25 [v153, v157, v161, .int .i64 s151.Sent,
        .int .i64 s151.Total] 30] ++ (c65 ++ (c154 ++ (c158 ++ (c162 ++ ([])))))))) (fun Q167 hN168 hR169 hE170 => ⟨fun hc171 => ?_, fun hc171 => ?_⟩) ?_
    · rw [iteT hc171] at hX165
      simp only [run_reg, run_ld, B0, reduceIte, reduceEqDiff]
      refine put1_eq (v := .agg [v119, v123, v127, .int .i64 v136.1.Sent, .int .i64 v136.1.Total]) rfl ?_
      simp only [f98, run_st, B0, reduceIte, reduceEqDiff]
      refine put2_stCx (us := [v119, v123, v127, .int .i64 v136.1.Sent, .int .i64 v136.1.Total]) rfl (cs' := [v119, v123, v127, .int .i64 v136.1.Sent,
          .int .i64 v136.1.Total]) (Sep.m4 hS150) hW rfl (all_c (SlF.one hv140) (all_c (SlN.one hv142) (all_c (SlN.one hv144) (all_c rfl (all_c rfl all_n)))))
          (Nat.le_of_ble_eq_true rfl) rfl (fun h172 hS173 => ?_)
      simp only [run_ops_nil, run_nil, B0, reduceIte, reduceEqDiff]
      have e174 := some_inj hX165
      subst e174
      exact hN168 _ _ ⟨v119, c139, v123, c141, v127, c143, by simp only [f97, B0, reduceIte, reduceEqDiff], by simp only [f98, B0, reduceIte, reduceEqDiff], by simp only [f99, B0,
          reduceIte, reduceEqDiff], by simp only [B0, reduceIte, reduceEqDiff], by simp only [f100, B0, reduceIte, reduceEqDiff], by simp only [f103, B0, reduceIte, reduceEqDiff],
          by simp only [f102, B0, reduceIte, reduceEqDiff], hv140, hv142, hv144,
          (Sep.m5 (Sep.m4 (Sep.m5 (Sep.m3 (Sep.m3 (Sep.m3 (Sep.dc (Sep.m6 (Sep.dc (Sep.m6 (Sep.dc (Sep.m6 hS173))))))))))))⟩
    · rw [iteF hc171] at hX165
      simp only [run_skip, run_nil, B0, reduceIte, reduceEqDiff]
      have e175 := some_inj hX165
      subst e175
      exact hN168 _ _ ⟨v69, c70, v73, c74, v77, c78, by simp only [f97, B0, reduceIte, reduceEqDiff], by simp only [f98, B0, reduceIte, reduceEqDiff], by simp only [f99, B0,
          reduceIte, reduceEqDiff], by simp only [B0, reduceIte, reduceEqDiff], by simp only [f100, B0, reduceIte, reduceEqDiff], by simp only [f103, B0, reduceIte, reduceEqDiff],
          by simp only [f102, B0, reduceIte, reduceEqDiff], hv71, hv75, hv79, (Sep.m5 (Sep.m5 (Sep.m5 (Sep.m5 (Sep.m5 (Sep.m5 (Sep.dc ((Sep.dc ((Sep.dc (hS150))))))))))))⟩
    rintro fr176 h177 ⟨v153, c154, v157, c158, v161, c162, f179, f180, f181, f182, f183, f184, f185, hv155, hv159, hv163, hS178⟩
    unfold spec_PlaySnap_j1 at hk166
    simp only [x8_4, run_reg, f181, run_mv, f182, run_buildS, evp, B0, reduceIte, reduceEqDiff]
    refine put2_buildSF (n := 1) (f := cB) [v136.2] hS178 rfl rfl (fun v186 c187 h188 hv189 hS190 => ?_)
    simp only [run_app, B0, reduceIte, reduceEqDiff]
    obtain ⟨l192, hx193, hF194⟩ := bind_some' hk166
    refine put2_appF (f := cB) hv66 (Sep.m3 hS190) hW (fun _ => rfl) (fun _ => rfl) (SlF.first hv189 hS190 (fun _ => rfl)) hx193 (fun v195 c196 h197 hv198 hS199 => ?_)
    simp only [run_mv, run_ops_nil, run_nil, B0, reduceIte, reduceEqDiff]
    have e201 := some_inj hF194
    exact hN89 _ _ _ e201.symm ⟨v195, c196, v153, c154, v157, c158, v161, c162, by simp only [f179, B0, reduceIte, reduceEqDiff], by simp only [f180, B0, reduceIte, reduceEqDiff],
        by simp only [B0, reduceIte, reduceEqDiff], by simp only [f183, B0, reduceIte, reduceEqDiff], hv198, hv155, hv159, hv163,
        (Sep.m5 (Sep.m5 (Sep.m3 (Sep.m5 (Sep.m5 (Sep.m5 (Sep.dc (Sep.m1 hS199))))))))⟩ (by simp only [f185, B0, reduceIte, reduceEqDiff]) (by simp only [f184, B0, reduceIte,
        reduceEqDiff])
  rintro ⟨s204, s209⟩ fr222 h223 rfl ⟨v206, c207, v211, c212, v215, c216, v219, c220, f225, f226, f227, f228, hv208, hv213, hv217, hv221, hS224⟩
  dsimp only [jnO] at hk85
  dsimp only at *
  unfold spec_PlaySnap_j2 at hk85
  simp only [x8_10, run_seq, run_reg, f226, run_ld, B0, reduceIte, reduceEqDiff]
  refine put1_eq (v := .agg [v211, v215, v219, .int .i64 s209.Sent, .int .i64 s209.Total]) ((xld_bs (Sep.bk _ _ _ (Sep.m1 hS224))).trans rfl) ?_
  obtain ⟨v229, hx230, hF231⟩ := bind_some' hk85
  simp only [run_call, B0, reduceIte, reduceEqDiff]
  refine call2 rfl hS224 (mapM1 (snap_agg (mapM1 (SlF.snap hv213 (Sep.m3 hS224) rfl (fun _ => rfl) (fun _ => rfl)) (mapM1 (SlN.snap hv217 _ (Sep.m4 hS224) rfl Chan.RO) (mapM1
      (SlN.snap hv221 _ (Sep.m5 hS224) rfl Picture.RO) (mapM1 snap_int (mapM1 snap_int mapM0)))))) mapM0) (spec_l8Own_x (fun b hb => decide_eq_true hb) s209 v229 hx230) ?_
  rintro _ h244 ⟨v232, c233, v236, c237, v240, c241, rfl, hv234, hv238, hv242, hS245⟩
  refine ⟨_, free_a (all_c (SlF.free1 hv234) (all_c (SlN.free1 hv238) (all_c (SlN.free1 hv242) (all_c rfl (all_c rfl all_n))))), hS245,
      (pf_app (SlF.pf hv234 (fun _ => rfl)) (pf_app (SlN.pf hv238 Chan.RO) (pf_app (SlN.pf hv242 Picture.RO) pf_nil))), fun h246 hS247 => ?_⟩
  have hS248 : Sep h246 h.length (c233 ++ (c237 ++ (c241 ++ ([Blk1 b1 [.nil, .nil, .nil, .int .i64 0, .int .i64 0] 30] ++ ([Blk1 b25 [v211, v215, v219, .int .i64 s209.Sent,
      .int .i64 s209.Total] 30] ++ (c207 ++ (c212 ++ (c216 ++ (c220 ++ ([])))))))))) := by simpa only [List.append_assoc, List.nil_append] using hS247
  simp only [f227, run_mv, f225, run_st, B0, reduceIte, reduceEqDiff]
  refine put2_stCx (us := [v232, v236, v240, .int .i64 v229.Sent, .int .i64 v229.Total]) rfl (cs' := [v232, v236, v240, .int .i64 v229.Sent,
      .int .i64 v229.Total]) (Sep.m3 hS248) hW rfl (all_c (SlF.one hv234) (all_c (SlN.one hv238) (all_c (SlN.one hv242) (all_c rfl (all_c rfl all_n)))))
      (Nat.le_of_ble_eq_true rfl) rfl (fun h249 hS250 => ?_)
  simp only [run_mv, run_ops_nil, run_ret, B0, reduceIte, reduceEqDiff]
  have he := some_inj hF231
  subst he
  refine end_ret_m (mapM1 (res_cell (bb := b1) (oo := 0) (v := .agg [v232, v236, v240, .int .i64 v229.Sent, .int .i64 v229.Total]) (by simp only [f225, B0, reduceIte,
      reduceEqDiff]) ((xld_bs (Sep.bk _ _ _ hS250)).trans rfl)) (mapM1 (res_t (v := v206) (by simp only [B0, reduceIte,
      reduceEqDiff])) (mapM1 (res_t (v := .bool true) (by simp only [B0, reduceIte, reduceEqDiff])) mapM0))) ?_
  exact ⟨v232, c233, v236, c237, v240, c241, v206, c207, by first | trivial | rfl, hv234, hv238, hv242, hv208,
      (Sep.m3 (Sep.m3 (Sep.m3 (Sep.m3 (Sep.dc (Sep.m4 (Sep.dc (Sep.m4 (Sep.dc (Sep.m4 (Sep.dc (Sep.m3 (Sep.dc (hS250))))))))))))))⟩
theorem laws_szSnapStepS_x {W : Nat → Bool} {h : Heap} (hW : ∀ b,
    h.length ≤ b → W b = true) (a_0 : List SnapStep) (left_1 : Int) (r : Int) (hF : laws_szSnapStepS a_0 left_1 = some r) : Ret E W 15 [lst SnapStep.cells a_0,
    .int .i64 left_1] h (fun v h' => cut h.length h' E.sz false 9 v = some (.int .i64 r)) := by
  refine Ret.of (fn := x15) rfl (Run.of ?_)
  unfold laws_szSnapStepS at hF
  have zf0 : argFr [lst SnapStep.cells a_0, .int .i64 left_1] 0 = lst SnapStep.cells a_0 := rfl
  have zf1 : argFr [lst SnapStep.cells a_0, .int .i64 left_1] 1 = .int .i64 left_1 := rfl
  generalize argFr [lst SnapStep.cells a_0, .int .i64 left_1] = fr0 at zf0 zf1 ⊢
  have hS : Sep h h.length [] := Sep.nil h
  simp only [x15, run_seq, run_reg, run_mv, run_ops_nil, x15_2, zf1, zf0, run_len, put1_some, xlen_lst, run_bin, xsub, x15_1, xlss, run_cond, B0, reduceIte, reduceEqDiff]
  refine cond_split (t := (decide ((IntKind.wrap .i64 (left_1 - (List.length a_0 : Int))) < 0))) (fun hc1 => ?_) (fun hc1 => ?_)
  · rw [iteT hc1] at hF
    simp only [run_seq, run_reg, run_mv, run_ops_nil, run_ret, B0, reduceIte, reduceEqDiff]
    have he := some_inj hF
    subst he
    simp only [end_ret1, B0, reduceIte, reduceEqDiff]
    exact rfl
  rw [iteF hc1] at hF
  simp only [run_skip, run_seq, run_reg, run_mv, run_ops_nil, run_ret, B0, reduceIte, reduceEqDiff]
  have he := some_inj hF
  subst he
  simp only [end_ret1, B0, reduceIte, reduceEqDiff]
  exact rfl
theorem laws_toSnapStep_x {W : Nat → Bool} {h : Heap} (hW : ∀ b,
    h.length ≤ b → W b = true) (a_0 : SnapStep) (r : SnapStep) (hF : some (laws_toSnapStep a_0) = some r) : Ret E W 53 [.agg [.int .i64 a_0.Kind, .int .i64 a_0.K,
    .int .i64 a_0.N]] h (fun v h' => cut h.length h' E.sz false 9 v = some (.agg [.int .i64 r.Kind, .int .i64 r.K, .int .i64 r.N])) := by
  refine Ret.of (fn := x53) rfl (Run.of ?_)
  unfold laws_toSnapStep at hF
  have zf0 : argFr [.agg [.int .i64 a_0.Kind, .int .i64 a_0.K, .int .i64 a_0.N]] 0 = .agg [.int .i64 a_0.Kind, .int .i64 a_0.K, .int .i64 a_0.N] := rfl
  generalize argFr [.agg [.int .i64 a_0.Kind, .int .i64 a_0.K, .int .i64 a_0.N]] = fr0 at zf0 ⊢
  have hS : Sep h h.length [] := Sep.nil h
  simp only [x53, run_seq, run_reg, run_box, zf0, B0, reduceIte, reduceEqDiff]
  refine put2_boxC (cs := [.int .i64 a_0.Kind, .int .i64 a_0.K, .int .i64 a_0.N]) hS rfl rfl rfl (fun b1 h2 hS3 => ?_)
  simp only [run_new, B0, reduceIte, reduceEqDiff]
  refine put2_newC hS3 (fun b5 h6 hS7 => ?_)
  simp only [run_ops_nil, B0, reduceIte, reduceEqDiff]
  refine frz_stepC (Sep.m1 hS7) hW (by simp only [B0, reduceIte, reduceEqDiff]) (fun h9 hS10 => ?_)
  simp only [run_frz_nil, x53_4, run_seq, run_reg, run_new, B0, reduceIte, reduceEqDiff]
  refine put2_newC hS10 (fun b11 h12 hS13 => ?_)
  simp only [run_ops_nil, x53_3, run_seq, run_reg, run_fa, put1_some, Nat.reduceAdd, Nat.zero_add, Nat.add_zero, xfa_ref, run_ld, B0, reduceIte, reduceEqDiff]
  refine put1_eq (v := .int .i64 a_0.Kind) rfl ?_
  simp only [run_fa, put1_some, Nat.reduceAdd, Nat.zero_add, Nat.add_zero, xfa_ptr, run_st, B0, reduceIte, reduceEqDiff]
  refine put2_stCx (us := [.int .i64 a_0.Kind]) rfl (cs' := [.int .i64 a_0.Kind, .int .i64 0, .int .i64 0]) hS13 hW rfl rfl (Nat.le_of_ble_eq_true rfl) rfl (fun h15 hS16 => ?_)
  simp only [run_ops_nil, x53_2, run_seq, run_reg, run_fa, put1_some, Nat.reduceAdd, Nat.zero_add, Nat.add_zero, xfa_ref, run_ld, B0, reduceIte, reduceEqDiff]
  refine put1_eq (v := .int .i64 a_0.K) rfl ?_
  simp only [run_fa, put1_some, Nat.reduceAdd, Nat.zero_add, Nat.add_zero, xfa_ptr, run_st, B0, reduceIte, reduceEqDiff]
  refine put2_stCx (us := [.int .i64 a_0.K]) rfl (cs' := [.int .i64 a_0.Kind, .int .i64 a_0.K, .int .i64 0]) hS16 hW rfl rfl (Nat.le_of_ble_eq_true rfl) rfl (fun h17 hS18 => ?_)
  simp only [run_ops_nil, x53_1, run_seq, run_reg, run_fa, put1_some, Nat.reduceAdd, Nat.zero_add, Nat.add_zero, xfa_ref, run_ld, B0, reduceIte, reduceEqDiff]
  refine put1_eq (v := .int .i64 a_0.N) rfl ?_
  simp only [run_fa, put1_some, Nat.reduceAdd, Nat.zero_add, Nat.add_zero, xfa_ptr, run_st, B0, reduceIte, reduceEqDiff]
  refine put2_stCx (us := [.int .i64 a_0.N]) rfl (cs' := [.int .i64 a_0.Kind, .int .i64 a_0.K,
      .int .i64 a_0.N]) hS18 hW rfl rfl (Nat.le_of_ble_eq_true rfl) rfl (fun h19 hS20 => ?_)
  simp only [run_ops_nil, run_seq, run_reg, run_ld, B0, reduceIte, reduceEqDiff]
  refine put1_eq (v := .agg [.int .i64 a_0.Kind, .int .i64 a_0.K, .int .i64 a_0.N]) ((xld_bs (Sep.bk _ _ _ hS20)).trans rfl) ?_
  simp only [run_st, B0, reduceIte, reduceEqDiff]
  refine put2_stCx (us := [.int .i64 a_0.Kind, .int .i64 a_0.K, .int .i64 a_0.N]) rfl (cs' := [.int .i64 a_0.Kind, .int .i64 a_0.K,
      .int .i64 a_0.N]) (Sep.m1 hS20) hW rfl rfl (Nat.le_of_ble_eq_true rfl) rfl (fun h21 hS22 => ?_)
  simp only [run_ops_nil, run_ret, B0, reduceIte, reduceEqDiff]
  have he := some_inj hF
  subst he
  refine end_ret_cell (bb := b5) (oo := 0) (v := .agg [.int .i64 a_0.Kind, .int .i64 a_0.K, .int .i64 a_0.N]) (by simp only [B0, reduceIte,
      reduceEqDiff]) ((xld_bs (Sep.bk _ _ _ hS22)).trans rfl) ?_
  exact (cut_agg (mapM1 rfl (mapM1 rfl (mapM1 rfl mapM0))))
theorem laws_toSnapStepS_x {W : Nat → Bool} {h : Heap} (hW : ∀ b,
    h.length ≤ b → W b = true) (k : Nat) (a_0 : List SnapStep) (r : List SnapStep) (hF : laws_toSnapStepS k a_0 = some r) : Ret E W 16 [lst SnapStep.cells a_0] h
    (fun v h' => ∃ rv0 rc0, v = rv0 ∧ SlF SnapStep.cells 3 51 rv0 r rc0 ∧ Sep h' h.length (rc0 ++ ([]))) := by
  refine Ret.of (fn := x16) rfl (Run.of ?_)
  unfold laws_toSnapStepS at hF
  have zf0 : argFr [lst SnapStep.cells a_0] 0 = lst SnapStep.cells a_0 := rfl
  generalize argFr [lst SnapStep.cells a_0] = fr0 at zf0 ⊢
  have hS : Sep h h.length [] := Sep.nil h
  obtain ⟨l1, hx2, hF3⟩ := bind_some' hF
  simp only [x16, run_seq, run_reg, run_mv, run_ops_nil, x16_7, zf0, run_len, put1_some, xlen_lst, run_mkS, B0, reduceIte, reduceEqDiff]
  refine put2_mkSF (f := SnapStep.cells) (z := (SnapStep.mk (0 : Int) (0 : Int) (0 : Int))) hS hx2 rfl (fun v4 c5 h6 hv7 hS8 => ?_)
  simp only [run_mv, run_ops_nil, x16_6, run_seq, run_reg, B0, reduceIte, reduceEqDiff]
  obtain ⟨oc20, hX22, hk23⟩ := jn_some hF3
  simp only [x16_5]
  refine loopF_j (σ := Int × (List SnapStep)) (fun s55 => laws_toSnapStepS_b1 a_0 s55.1 s55.2) (fun s fr' h' => ∃ c16,
      fr' 0 = lst SnapStep.cells a_0 ∧ fr' 3 = v4 ∧ fr' 4 = .int .i64 s.1 ∧ SlF SnapStep.cells 3 51 v4 s.2 c16 ∧ Sep h' h.length (c16 ++ ([]))) hX22 ⟨c5, by simp only [zf0, B0,
      reduceIte, reduceEqDiff], by simp only [B0, reduceIte, reduceEqDiff], by simp only [B0, reduceIte, reduceEqDiff], hv7, hS8⟩ (fun _ _ _ h => h) ?_ ?_
  · rintro ⟨s14, s15⟩ fr32 h33 ⟨c16, f35, f36, f37, hv17, hS34⟩ oc21 hF24 hr25 Q26 hN27 hK28 hR29 hE30
    dsimp only at *
    unfold laws_toSnapStepS_b1 at hF24
    simp only [x16_3, run_seq, run_reg, f37, run_mv, f35, run_len, put1_some, xlen_lst, run_bin, xlss, run_ops_nil, run_cond, B0, reduceIte, reduceEqDiff]
    refine cond_split (t := (decide (s14 < (List.length a_0 : Int)))) (fun hc39 => ?_) (fun hc39 => ?_)
    · rw [iteT hc39] at hF24
      obtain ⟨x40, hx41, hF42⟩ := bind_some' hF24
      simp only [run_skip, x16_2, run_seq, run_block, x16_1, run_reg, f36, run_mv, f37, f35, run_ia, B0, reduceIte, reduceEqDiff]
      refine put1_eq (v := .ref (SnapStep.cells x40) 0) (xia_lst hx41 rfl) ?_
      simp only [run_ld, B0, reduceIte, reduceEqDiff]
      refine put1_eq (v := .agg [.int .i64 x40.Kind, .int .i64 x40.K, .int .i64 x40.N]) rfl ?_
      simp only [run_call, B0, reduceIte, reduceEqDiff]
      refine call1 rfl (mapM1 (snap_agg (mapM1 snap_int (mapM1 snap_int (mapM1 snap_int mapM0)))) mapM0) (laws_toSnapStep_x (fun b hb => decide_eq_true hb) x40 _ rfl) ?_
      obtain ⟨x43, hx44, hF45⟩ := bind_some' hF42
      simp only [run_ia, B0, reduceIte, reduceEqDiff]
      obtain ⟨b46, hb47⟩ := SlF.isrow hv17 (geti_ne hx44)
      refine put1_eq (SlF.ia hv17 hb47 hx44) ?_
      simp only [run_st, B0, reduceIte, reduceEqDiff]
      refine put2_stF (f := SnapStep.cells) (x' := (laws_toSnapStep x40)) (o := 0) hv17 hS34 hW hb47 hx44 (fun _ => rfl) rfl rfl (Nat.le_of_ble_eq_true rfl) rfl
          (fun c50 h48 hv51 hS49 => ?_)
      have hx52 := geti_set (x' := (laws_toSnapStep x40)) hx44
      simp only [run_ops_nil, run_blk, run_reg, f37, run_mv, run_bin, put1_some, xadd, run_nil, B0, reduceIte, reduceEqDiff]
      have e53 := some_inj hF45
      exact hN27 _ _ _ e53.symm ⟨c50, by simp only [f35, B0, reduceIte, reduceEqDiff], by simp only [f36, B0, reduceIte, reduceEqDiff], by simp only [B0, reduceIte, reduceEqDiff],
          hv51, hS49⟩
    rw [iteF hc39] at hF24
    simp only [run_exit, out_code, out_nil, B0, reduceIte, reduceEqDiff]
    have e54 := some_inj hF24
    exact hK28 _ _ _ e54.symm ⟨c16, by simp only [f35, B0, reduceIte, reduceEqDiff], by simp only [f36, B0, reduceIte, reduceEqDiff], by simp only [f37, B0, reduceIte,
        reduceEqDiff], hv17, hS34⟩
  rintro ⟨s56, s57⟩ fr60 h61 rfl ⟨c58, f63, f64, f65, hv59, hS62⟩
  dsimp only [jnO] at hk23
  dsimp only at *
  unfold laws_toSnapStepS_j1 at hk23
  simp only [run_seq, run_reg, f64, run_mv, run_ops_nil, run_ret, B0, reduceIte, reduceEqDiff]
  have he := some_inj hk23
  subst he
  simp only [end_ret1, B0, reduceIte, reduceEqDiff]
  exact ⟨v4, c58, by first | trivial | rfl, hv59, hS62⟩
theorem laws_eqIntS_x {W : Nat → Bool} {h : Heap} (hW : ∀ b,
    h.length ≤ b → W b = true) (k : Nat) (a_0 : List Int) (b_1 : List Int) (r : Bool) (hF : laws_eqIntS k a_0 b_1 = some r) : Ret E W 54 [lst cI a_0,
    lst cI b_1] h (fun v h' => cut h.length h' E.sz false 9 v = some (.bool r)) := by
  refine Ret.of (fn := x54) rfl (Run.of ?_)
  unfold laws_eqIntS at hF
  have zf0 : argFr [lst cI a_0, lst cI b_1] 0 = lst cI a_0 := rfl
  have zf1 : argFr [lst cI a_0, lst cI b_1] 1 = lst cI b_1 := rfl
  generalize argFr [lst cI a_0, lst cI b_1] = fr0 at zf0 zf1 ⊢
  have hS : Sep h h.length [] := Sep.nil h
  simp only [x54, run_seq, run_reg, run_mv, run_ops_nil, x54_7, zf0, run_len, put1_some, xlen_lst, zf1, run_bin, xneq, run_cond, B0, reduceIte, reduceEqDiff]
  refine cond_split (t := (decide ((List.length a_0 : Int) ≠ (List.length b_1 : Int)))) (fun hc1 => ?_) (fun hc1 => ?_)
  · rw [iteT hc1] at hF
    simp only [run_seq, run_reg, run_mv, run_ops_nil, run_ret, B0, reduceIte, reduceEqDiff]
    have he := some_inj hF
    subst he
    simp only [end_ret1, B0, reduceIte, reduceEqDiff]
    exact rfl
  rw [iteF hc1] at hF
  simp only [run_skip, x54_6, run_seq, run_reg, run_mv, run_ops_nil, B0, reduceIte, reduceEqDiff]
  obtain ⟨oc6, hX8, hk9⟩ := jn_some hF
  simp only [x54_5]
  refine loopF_j (σ := Int) (fun s38 => laws_eqIntS_b1 a_0 b_1 s38) (fun s fr' h' => fr' 0 = lst cI a_0 ∧ fr' 1 = lst cI b_1 ∧ fr' 5 = .int .i64 s ∧ Sep h' h.length
      ([])) hX8 ⟨by simp only [zf0, B0, reduceIte, reduceEqDiff], by simp only [zf1, B0, reduceIte, reduceEqDiff], by simp only [B0, reduceIte, reduceEqDiff],
      hS⟩ (fun _ _ _ h => h) ?_ ?_
  · rintro s3 fr18 h19 ⟨f21, f22, f23, hS20⟩ oc7 hF10 hr11 Q12 hN13 hK14 hR15 hE16
    unfold laws_eqIntS_b1 at hF10
    simp only [x54_3, run_seq, run_reg, f23, run_mv, f21, run_len, put1_some, xlen_lst, run_bin, xlss, run_ops_nil, run_cond, B0, reduceIte, reduceEqDiff]
    refine cond_split (t := (decide (s3 < (List.length a_0 : Int)))) (fun hc25 => ?_) (fun hc25 => ?_)
    · rw [iteT hc25] at hF10
      obtain ⟨x26, hx27, hF28⟩ := bind_some' hF10
      simp only [run_skip, x54_2, run_seq, run_block, x54_1, run_draw, f21, d4_mv, put1d_some, f23, d4_ia, B0, reduceIte, reduceEqDiff]
      refine put1d_eq (v := .ref (cI x26) 0) (xia_lst hx27 rfl) ?_
      simp only [d4_ld, B0, reduceIte, reduceEqDiff]
      refine put1d_eq (v := .int .i64 x26) rfl ?_
      obtain ⟨x29, hx30, hF31⟩ := bind_some' hF28
      simp only [f22, d4_mv, put1d_some, f23, d4_ia, B0, reduceIte, reduceEqDiff]
      refine put1d_eq (v := .ref (cI x29) 0) (xia_lst hx30 rfl) ?_
      simp only [d4_ld, B0, reduceIte, reduceEqDiff]
      refine put1d_eq (v := .int .i64 x29) rfl ?_
      simp only [d4_bin, put1d_some, xneq, run_draw_nil, run_cond, B0, reduceIte, reduceEqDiff]
      refine cond_split (t := (decide (x26 ≠ x29))) (fun hc32 => ?_) (fun hc32 => ?_)
      · rw [iteT hc32] at hF31
        simp only [run_seq, run_reg, run_mv, run_ops_nil, run_ret, B0, reduceIte, reduceEqDiff]
        have e33 := some_inj hF31
        subst e33
        have ho34 := hr11 _ rfl
        have hk35 := hk9
        rw [ho34] at hk35
        dsimp only [jnO] at hk35
        apply hR15
        have he := some_inj hk35
        subst he
        simp only [end_ret1, B0, reduceIte, reduceEqDiff]
        exact rfl
      rw [iteF hc32] at hF31
      simp only [run_skip, run_blk, run_reg, f23, run_mv, run_bin, put1_some, xadd, run_ops_nil, run_nil, B0, reduceIte, reduceEqDiff]
      have e36 := some_inj hF31
      exact hN13 _ _ _ e36.symm ⟨by simp only [f21, B0, reduceIte, reduceEqDiff], by simp only [f22, B0, reduceIte, reduceEqDiff], by simp only [B0, reduceIte, reduceEqDiff], hS20⟩
    rw [iteF hc25] at hF10
    simp only [run_exit, out_code, out_nil, B0, reduceIte, reduceEqDiff]
    have e37 := some_inj hF10
    exact hK14 _ _ _ e37.symm ⟨by simp only [f21, B0, reduceIte, reduceEqDiff], by simp only [f22, B0, reduceIte, reduceEqDiff], by simp only [f23, B0, reduceIte, reduceEqDiff],
        hS20⟩
  rintro s39 fr40 h41 rfl ⟨f43, f44, f45, hS42⟩
  dsimp only [jnO] at hk9
  unfold laws_eqIntS_j1 at hk9
  simp only [run_seq, run_reg, run_mv, run_ops_nil, run_ret, B0, reduceIte, reduceEqDiff]
  have he := some_inj hk9
  subst he
  simp only [end_ret1, B0, reduceIte, reduceEqDiff]
  exact rfl
theorem laws_eqChan_x {W : Nat → Bool} {h : Heap} (hW : ∀ b,
    h.length ≤ b → W b = true) (k : Nat) (a_0 : Chan) (b_1 : Chan) (r : Bool) (hF : laws_eqChan k a_0 b_1 = some r) : Ret E W 80 [.agg [.int .i64 a_0.From, .int .i64 a_0.To,
    lst cI a_0.Way], .agg [.int .i64 b_1.From, .int .i64 b_1.To, lst cI b_1.Way]] h (fun v h' => cut h.length h' E.sz false 9 v = some (.bool r)) := by
  refine Ret.of (fn := x80) rfl (Run.of ?_)
  unfold laws_eqChan at hF
  have zf0 : argFr [.agg [.int .i64 a_0.From, .int .i64 a_0.To, lst cI a_0.Way], .agg [.int .i64 b_1.From, .int .i64 b_1.To, lst cI b_1.Way]] 0 = .agg [.int .i64 a_0.From,
      .int .i64 a_0.To, lst cI a_0.Way] := rfl
  have zf1 : argFr [.agg [.int .i64 a_0.From, .int .i64 a_0.To, lst cI a_0.Way], .agg [.int .i64 b_1.From, .int .i64 b_1.To, lst cI b_1.Way]] 1 = .agg [.int .i64 b_1.From,
      .int .i64 b_1.To, lst cI b_1.Way] := rfl
  generalize argFr [.agg [.int .i64 a_0.From, .int .i64 a_0.To, lst cI a_0.Way], .agg [.int .i64 b_1.From, .int .i64 b_1.To, lst cI b_1.Way]] = fr0 at zf0 zf1 ⊢
  have hS : Sep h h.length [] := Sep.nil h
  simp only [x80, run_seq, run_reg, run_box, zf0, B0, reduceIte, reduceEqDiff]
  refine put2_boxC (cs := [.int .i64 a_0.From, .int .i64 a_0.To, lst cI a_0.Way]) hS rfl rfl rfl (fun b1 h2 hS3 => ?_)
  simp only [run_box, zf1, B0, reduceIte, reduceEqDiff]
  refine put2_boxC (cs := [.int .i64 b_1.From, .int .i64 b_1.To, lst cI b_1.Way]) hS3 rfl rfl rfl (fun b5 h6 hS7 => ?_)
  simp only [run_mv, run_ops_nil, B0, reduceIte, reduceEqDiff]
  refine frz_stepC (Sep.m1 hS7) hW (by simp only [B0, reduceIte, reduceEqDiff]) (fun h9 hS10 => ?_)
  refine frz_stepC hS10 hW (by simp only [B0, reduceIte, reduceEqDiff]) (fun h11 hS12 => ?_)
  simp only [run_frz_nil, x80_3, run_seq, run_reg, run_fa, put1_some, Nat.reduceAdd, Nat.zero_add, Nat.add_zero, xfa_ref, run_ld, B0, reduceIte, reduceEqDiff]
  refine put1_eq (v := .int .i64 a_0.From) rfl ?_
  simp only [run_fa, put1_some, Nat.reduceAdd, Nat.zero_add, Nat.add_zero, xfa_ref, run_ld, B0, reduceIte, reduceEqDiff]
  refine put1_eq (v := .int .i64 b_1.From) rfl ?_
  simp only [run_bin, put1_some, xneq, run_ops_nil, run_cond, B0, reduceIte, reduceEqDiff]
  refine cond_split (t := (decide (a_0.From ≠ b_1.From))) (fun hc13 => ?_) (fun hc13 => ?_)
  · rw [iteT hc13] at hF
    simp only [run_seq, run_reg, run_mv, run_ops_nil, run_ret, B0, reduceIte, reduceEqDiff]
    have he := some_inj hF
    subst he
    simp only [end_ret1, B0, reduceIte, reduceEqDiff]
    exact rfl
  rw [iteF hc13] at hF
  simp only [run_skip, x80_2, run_seq, run_reg, run_fa, put1_some, Nat.reduceAdd, Nat.zero_add, Nat.add_zero, xfa_ref, run_ld, B0, reduceIte, reduceEqDiff]
  refine put1_eq (v := .int .i64 a_0.To) rfl ?_
  simp only [run_fa, put1_some, Nat.reduceAdd, Nat.zero_add, Nat.add_zero, xfa_ref, run_ld, B0, reduceIte, reduceEqDiff]
  refine put1_eq (v := .int .i64 b_1.To) rfl ?_
  simp only [run_bin, put1_some, xneq, run_ops_nil, run_cond, B0, reduceIte, reduceEqDiff]
  refine cond_split (t := (decide (a_0.To ≠ b_1.To))) (fun hc14 => ?_) (fun hc14 => ?_)
  · rw [iteT hc14] at hF
    simp only [run_seq, run_reg, run_mv, run_ops_nil, run_ret, B0, reduceIte, reduceEqDiff]
    have he := some_inj hF
    subst he
    simp only [end_ret1, B0, reduceIte, reduceEqDiff]
    exact rfl
  rw [iteF hc14] at hF
  simp only [run_skip, x80_1, run_seq, run_reg, run_fa, put1_some, Nat.reduceAdd, Nat.zero_add, Nat.add_zero, xfa_ref, run_ld, B0, reduceIte, reduceEqDiff]
  refine put1_eq (v := lst cI a_0.Way) rfl ?_
  simp only [run_fa, put1_some, Nat.reduceAdd, Nat.zero_add, Nat.add_zero, xfa_ref, run_ld, B0, reduceIte, reduceEqDiff]
  refine put1_eq (v := lst cI b_1.Way) rfl ?_
  obtain ⟨v15, hx16, hF17⟩ := bind_some' hF
  simp only [run_call, B0, reduceIte, reduceEqDiff]
  refine call1 rfl (mapM1 snap_lst (mapM1 snap_lst mapM0)) (laws_eqIntS_x (fun b hb => decide_eq_true hb) k a_0.Way b_1.Way v15 hx16) ?_
  simp only [run_un, put1_some, xnot, run_ops_nil, run_cond, B0, reduceIte, reduceEqDiff]
  refine cond_split (t := (!v15)) (fun hc18 => ?_) (fun hc18 => ?_)
  · rw [iteT hc18] at hF17
    simp only [run_seq, run_reg, run_mv, run_ops_nil, run_ret, B0, reduceIte, reduceEqDiff]
    have he := some_inj hF17
    subst he
    simp only [end_ret1, B0, reduceIte, reduceEqDiff]
    exact rfl
  rw [iteF hc18] at hF17
  simp only [run_skip, run_seq, run_reg, run_mv, run_ops_nil, run_ret, B0, reduceIte, reduceEqDiff]
  have he := some_inj hF17
  subst he
  simp only [end_ret1, B0, reduceIte, reduceEqDiff]
  exact rfl
theorem laws_eqChanS_x {W : Nat → Bool} {h : Heap} (hW : ∀ b,
    h.length ≤ b → W b = true) (k : Nat) (a_0 : List Chan) (b_1 : List Chan) (r : Bool) (hF : laws_eqChanS k a_0 b_1 = some r) : Ret E W 55 [lst Chan.cells a_0,
    lst Chan.cells b_1] h (fun v h' => cut h.length h' E.sz false 9 v = some (.bool r)) := by
  refine Ret.of (fn := x55) rfl (Run.of ?_)
  unfold laws_eqChanS at hF
  have zf0 : argFr [lst Chan.cells a_0, lst Chan.cells b_1] 0 = lst Chan.cells a_0 := rfl
  have zf1 : argFr [lst Chan.cells a_0, lst Chan.cells b_1] 1 = lst Chan.cells b_1 := rfl
  generalize argFr [lst Chan.cells a_0, lst Chan.cells b_1] = fr0 at zf0 zf1 ⊢
  have hS : Sep h h.length [] := Sep.nil h
  simp only [x55, run_seq, run_reg, run_mv, run_ops_nil, x55_7, zf0, run_len, put1_some, xlen_lst, zf1, run_bin, xneq, run_cond, B0, reduceIte, reduceEqDiff]
  refine cond_split (t := (decide ((List.length a_0 : Int) ≠ (List.length b_1 : Int)))) (fun hc1 => ?_) (fun hc1 => ?_)
  · rw [iteT hc1] at hF
    simp only [run_seq, run_reg, run_mv, run_ops_nil, run_ret, B0, reduceIte, reduceEqDiff]
    have he := some_inj hF
    subst he
    simp only [end_ret1, B0, reduceIte, reduceEqDiff]
    exact rfl
  rw [iteF hc1] at hF
  simp only [run_skip, x55_6, run_seq, run_reg, run_mv, run_ops_nil, B0, reduceIte, reduceEqDiff]
  obtain ⟨oc6, hX8, hk9⟩ := jn_some hF
  simp only [x55_5]
  refine loopF_j (σ := Int) (fun s41 => laws_eqChanS_b1 k a_0 b_1 s41)
      (fun s fr' h' => fr' 0 = lst Chan.cells a_0 ∧ fr' 1 = lst Chan.cells b_1 ∧ fr' 5 = .int .i64 s ∧ Sep h' h.length ([])) hX8 ⟨by simp only [zf0, B0, reduceIte, reduceEqDiff],
      by simp only [zf1, B0, reduceIte, reduceEqDiff], by simp only [B0, reduceIte, reduceEqDiff], hS⟩ (fun _ _ _ h => h) ?_ ?_
  · rintro s3 fr18 h19 ⟨f21, f22, f23, hS20⟩ oc7 hF10 hr11 Q12 hN13 hK14 hR15 hE16
    unfold laws_eqChanS_b1 at hF10
    simp only [x55_3, run_seq, run_reg, f23, run_mv, f21, run_len, put1_some, xlen_lst, run_bin, xlss, run_ops_nil, run_cond, B0, reduceIte, reduceEqDiff]
    refine cond_split (t := (decide (s3 < (List.length a_0 : Int)))) (fun hc25 => ?_) (fun hc25 => ?_)
    · rw [iteT hc25] at hF10
      obtain ⟨x26, hx27, hF28⟩ := bind_some' hF10
      simp only [run_skip, x55_2, run_seq, run_block, x55_1, run_draw, f21, d4_mv, put1d_some, f23, d4_ia, B0, reduceIte, reduceEqDiff]
      refine put1d_eq (v := .ref (Chan.cells x26) 0) (xia_lst hx27 rfl) ?_
      simp only [d4_ld, B0, reduceIte, reduceEqDiff]
      refine put1d_eq (v := .agg [.int .i64 x26.From, .int .i64 x26.To, lst cI x26.Way]) rfl ?_
      obtain ⟨x29, hx30, hF31⟩ := bind_some' hF28
      simp only [f22, d4_mv, put1d_some, f23, d4_ia, B0, reduceIte, reduceEqDiff]
      refine put1d_eq (v := .ref (Chan.cells x29) 0) (xia_lst hx30 rfl) ?_
      simp only [d4_ld, B0, reduceIte, reduceEqDiff]
      refine put1d_eq (v := .agg [.int .i64 x29.From, .int .i64 x29.To, lst cI x29.Way]) rfl ?_
      obtain ⟨v32, hx33, hF34⟩ := bind_some' hF31
      simp only [run_d3_call, B0, reduceIte, reduceEqDiff]
      refine call1d rfl (mapM1 (snap_agg (mapM1 snap_int (mapM1 snap_int (mapM1 snap_lst mapM0)))) (mapM1 (snap_agg (mapM1 snap_int (mapM1 snap_int
          (mapM1 snap_lst mapM0)))) mapM0)) (laws_eqChan_x (fun b hb => decide_eq_true hb) k x26 x29 v32 hx33) ?_
      simp only [d4_un, put1d_some, xnot, run_draw_nil, run_cond, B0, reduceIte, reduceEqDiff]
      refine cond_split (t := (!v32)) (fun hc35 => ?_) (fun hc35 => ?_)
      · rw [iteT hc35] at hF34
        simp only [run_seq, run_reg, run_mv, run_ops_nil, run_ret, B0, reduceIte, reduceEqDiff]
        have e36 := some_inj hF34
        subst e36
        have ho37 := hr11 _ rfl
        have hk38 := hk9
        rw [ho37] at hk38
        dsimp only [jnO] at hk38
        apply hR15
        have he := some_inj hk38
        subst he
        simp only [end_ret1, B0, reduceIte, reduceEqDiff]
        exact rfl
      rw [iteF hc35] at hF34
      simp only [run_skip, run_blk, run_reg, f23, run_mv, run_bin, put1_some, xadd, run_ops_nil, run_nil, B0, reduceIte, reduceEqDiff]
      have e39 := some_inj hF34
      exact hN13 _ _ _ e39.symm ⟨by simp only [f21, B0, reduceIte, reduceEqDiff], by simp only [f22, B0, reduceIte, reduceEqDiff], by simp only [B0, reduceIte, reduceEqDiff], hS20⟩
    rw [iteF hc25] at hF10
    simp only [run_exit, out_code, out_nil, B0, reduceIte, reduceEqDiff]
    have e40 := some_inj hF10
    exact hK14 _ _ _ e40.symm ⟨by simp only [f21, B0, reduceIte, reduceEqDiff], by simp only [f22, B0, reduceIte, reduceEqDiff], by simp only [f23, B0, reduceIte, reduceEqDiff],
        hS20⟩
  rintro s42 fr43 h44 rfl ⟨f46, f47, f48, hS45⟩
  dsimp only [jnO] at hk9
  unfold laws_eqChanS_j1 at hk9
  simp only [run_seq, run_reg, run_mv, run_ops_nil, run_ret, B0, reduceIte, reduceEqDiff]
  have he := some_inj hk9
  subst he
  simp only [end_ret1, B0, reduceIte, reduceEqDiff]
  exact rfl
theorem laws_eqBoolS_x {W : Nat → Bool} {h : Heap} (hW : ∀ b,
    h.length ≤ b → W b = true) (k : Nat) (a_0 : List Bool) (b_1 : List Bool) (r : Bool) (hF : laws_eqBoolS k a_0 b_1 = some r) : Ret E W 18 [lst cB a_0,
    lst cB b_1] h (fun v h' => cut h.length h' E.sz false 9 v = some (.bool r)) := by
  refine Ret.of (fn := x18) rfl (Run.of ?_)
  unfold laws_eqBoolS at hF
  have zf0 : argFr [lst cB a_0, lst cB b_1] 0 = lst cB a_0 := rfl
  have zf1 : argFr [lst cB a_0, lst cB b_1] 1 = lst cB b_1 := rfl
  generalize argFr [lst cB a_0, lst cB b_1] = fr0 at zf0 zf1 ⊢
  have hS : Sep h h.length [] := Sep.nil h
  simp only [x18, run_seq, run_reg, run_mv, run_ops_nil, x18_7, zf0, run_len, put1_some, xlen_lst, zf1, run_bin, xneq, run_cond, B0, reduceIte, reduceEqDiff]
  refine cond_split (t := (decide ((List.length a_0 : Int) ≠ (List.length b_1 : Int)))) (fun hc1 => ?_) (fun hc1 => ?_)
  · rw [iteT hc1] at hF
    simp only [run_seq, run_reg, run_mv, run_ops_nil, run_ret, B0, reduceIte, reduceEqDiff]
    have he := some_inj hF
    subst he
    simp only [end_ret1, B0, reduceIte, reduceEqDiff]
    exact rfl
  rw [iteF hc1] at hF
  simp only [run_skip, x18_6, run_seq, run_reg, run_mv, run_ops_nil, B0, reduceIte, reduceEqDiff]
  obtain ⟨oc6, hX8, hk9⟩ := jn_some hF
  simp only [x18_5]
  refine loopF_j (σ := Int) (fun s38 => laws_eqBoolS_b1 a_0 b_1 s38) (fun s fr' h' => fr' 0 = lst cB a_0 ∧ fr' 1 = lst cB b_1 ∧ fr' 5 = .int .i64 s ∧ Sep h' h.length
      ([])) hX8 ⟨by simp only [zf0, B0, reduceIte, reduceEqDiff], by simp only [zf1, B0, reduceIte, reduceEqDiff], by simp only [B0, reduceIte, reduceEqDiff],
      hS⟩ (fun _ _ _ h => h) ?_ ?_
  · rintro s3 fr18 h19 ⟨f21, f22, f23, hS20⟩ oc7 hF10 hr11 Q12 hN13 hK14 hR15 hE16
    unfold laws_eqBoolS_b1 at hF10
    simp only [x18_3, run_seq, run_reg, f23, run_mv, f21, run_len, put1_some, xlen_lst, run_bin, xlss, run_ops_nil, run_cond, B0, reduceIte, reduceEqDiff]
    refine cond_split (t := (decide (s3 < (List.length a_0 : Int)))) (fun hc25 => ?_) (fun hc25 => ?_)
    · rw [iteT hc25] at hF10
      obtain ⟨x26, hx27, hF28⟩ := bind_some' hF10
      simp only [run_skip, x18_2, run_seq, run_block, x18_1, run_draw, f21, d4_mv, put1d_some, f23, d4_ia, B0, reduceIte, reduceEqDiff]
      refine put1d_eq (v := .ref (cB x26) 0) (xia_lst hx27 rfl) ?_
      simp only [d4_ld, B0, reduceIte, reduceEqDiff]
      refine put1d_eq (v := .bool x26) rfl ?_
      obtain ⟨x29, hx30, hF31⟩ := bind_some' hF28
      simp only [f22, d4_mv, put1d_some, f23, d4_ia, B0, reduceIte, reduceEqDiff]
      refine put1d_eq (v := .ref (cB x29) 0) (xia_lst hx30 rfl) ?_
      simp only [d4_ld, B0, reduceIte, reduceEqDiff]
      refine put1d_eq (v := .bool x29) rfl ?_
      simp only [d4_eqb, put1d_some, xeqb_t, run_draw_nil, run_cond, B0, reduceIte, reduceEqDiff]
      refine cond_split (t := (!(x26 == x29))) (fun hc32 => ?_) (fun hc32 => ?_)
      · rw [iteT hc32] at hF31
        simp only [run_seq, run_reg, run_mv, run_ops_nil, run_ret, B0, reduceIte, reduceEqDiff]
        have e33 := some_inj hF31
        subst e33
        have ho34 := hr11 _ rfl
        have hk35 := hk9
        rw [ho34] at hk35
        dsimp only [jnO] at hk35
        apply hR15
        have he := some_inj hk35
        subst he
        simp only [end_ret1, B0, reduceIte, reduceEqDiff]
        exact rfl
      rw [iteF hc32] at hF31
      simp only [run_skip, run_blk, run_reg, f23, run_mv, run_bin, put1_some, xadd, run_ops_nil, run_nil, B0, reduceIte, reduceEqDiff]
      have e36 := some_inj hF31
      exact hN13 _ _ _ e36.symm ⟨by simp only [f21, B0, reduceIte, reduceEqDiff], by simp only [f22, B0, reduceIte, reduceEqDiff], by simp only [B0, reduceIte, reduceEqDiff], hS20⟩
    rw [iteF hc25] at hF10
    simp only [run_exit, out_code, out_nil, B0, reduceIte, reduceEqDiff]
    have e37 := some_inj hF10
    exact hK14 _ _ _ e37.symm ⟨by simp only [f21, B0, reduceIte, reduceEqDiff], by simp only [f22, B0, reduceIte, reduceEqDiff], by simp only [f23, B0, reduceIte, reduceEqDiff],
        hS20⟩
  rintro s39 fr40 h41 rfl ⟨f43, f44, f45, hS42⟩
  dsimp only [jnO] at hk9
  unfold laws_eqBoolS_j1 at hk9
  simp only [run_seq, run_reg, run_mv, run_ops_nil, run_ret, B0, reduceIte, reduceEqDiff]
  have he := some_inj hk9
  subst he
  simp only [end_ret1, B0, reduceIte, reduceEqDiff]
  exact rfl
theorem laws_eqPicture_x {W : Nat → Bool} {h : Heap} (hW : ∀ b,
    h.length ≤ b → W b = true) (k : Nat) (a_0 : Picture) (b_1 : Picture) (r : Bool) (hF : laws_eqPicture k a_0 b_1 = some r) : Ret E W 81 [.agg [.bool a_0.Taken,
    .int .i64 a_0.Amount, lst cI a_0.In, lst cB a_0.Closed], .agg [.bool b_1.Taken, .int .i64 b_1.Amount, lst cI b_1.In,
    lst cB b_1.Closed]] h (fun v h' => cut h.length h' E.sz false 9 v = some (.bool r)) := by
  refine Ret.of (fn := x81) rfl (Run.of ?_)
  unfold laws_eqPicture at hF
  have zf0 : argFr [.agg [.bool a_0.Taken, .int .i64 a_0.Amount, lst cI a_0.In, lst cB a_0.Closed], .agg [.bool b_1.Taken, .int .i64 b_1.Amount, lst cI b_1.In,
      lst cB b_1.Closed]] 0 = .agg [.bool a_0.Taken, .int .i64 a_0.Amount, lst cI a_0.In, lst cB a_0.Closed] := rfl
  have zf1 : argFr [.agg [.bool a_0.Taken, .int .i64 a_0.Amount, lst cI a_0.In, lst cB a_0.Closed], .agg [.bool b_1.Taken, .int .i64 b_1.Amount, lst cI b_1.In,
      lst cB b_1.Closed]] 1 = .agg [.bool b_1.Taken, .int .i64 b_1.Amount, lst cI b_1.In, lst cB b_1.Closed] := rfl
  generalize argFr [.agg [.bool a_0.Taken, .int .i64 a_0.Amount, lst cI a_0.In, lst cB a_0.Closed], .agg [.bool b_1.Taken, .int .i64 b_1.Amount, lst cI b_1.In,
      lst cB b_1.Closed]] = fr0 at zf0 zf1 ⊢
  have hS : Sep h h.length [] := Sep.nil h
  simp only [x81, run_seq, run_reg, run_box, zf0, B0, reduceIte, reduceEqDiff]
  refine put2_boxC (cs := [.bool a_0.Taken, .int .i64 a_0.Amount, lst cI a_0.In, lst cB a_0.Closed]) hS rfl rfl rfl (fun b1 h2 hS3 => ?_)
  simp only [run_box, zf1, B0, reduceIte, reduceEqDiff]
  refine put2_boxC (cs := [.bool b_1.Taken, .int .i64 b_1.Amount, lst cI b_1.In, lst cB b_1.Closed]) hS3 rfl rfl rfl (fun b5 h6 hS7 => ?_)
  simp only [run_mv, run_ops_nil, B0, reduceIte, reduceEqDiff]
  refine frz_stepC (Sep.m1 hS7) hW (by simp only [B0, reduceIte, reduceEqDiff]) (fun h9 hS10 => ?_)
  refine frz_stepC hS10 hW (by simp only [B0, reduceIte, reduceEqDiff]) (fun h11 hS12 => ?_)
  simp only [run_frz_nil, x81_4, run_seq, run_reg, run_fa, put1_some, Nat.reduceAdd, Nat.zero_add, Nat.add_zero, xfa_ref, run_ld, B0, reduceIte, reduceEqDiff]
  refine put1_eq (v := .bool a_0.Taken) rfl ?_
  simp only [run_fa, put1_some, Nat.reduceAdd, Nat.zero_add, Nat.add_zero, xfa_ref, run_ld, B0, reduceIte, reduceEqDiff]
  refine put1_eq (v := .bool b_1.Taken) rfl ?_
  simp only [run_eqb, put1_some, xeqb_t, run_ops_nil, run_cond, B0, reduceIte, reduceEqDiff]
  refine cond_split (t := (!(a_0.Taken == b_1.Taken))) (fun hc13 => ?_) (fun hc13 => ?_)
  · rw [iteT hc13] at hF
    simp only [run_seq, run_reg, run_mv, run_ops_nil, run_ret, B0, reduceIte, reduceEqDiff]
    have he := some_inj hF
    subst he
    simp only [end_ret1, B0, reduceIte, reduceEqDiff]
    exact rfl
  rw [iteF hc13] at hF
  simp only [run_skip, x81_3, run_seq, run_reg, run_fa, put1_some, Nat.reduceAdd, Nat.zero_add, Nat.add_zero, xfa_ref, run_ld, B0, reduceIte, reduceEqDiff]
  refine put1_eq (v := .int .i64 a_0.Amount) rfl ?_
  simp only [run_fa, put1_some, Nat.reduceAdd, Nat.zero_add, Nat.add_zero, xfa_ref, run_ld, B0, reduceIte, reduceEqDiff]
  refine put1_eq (v := .int .i64 b_1.Amount) rfl ?_
  simp only [run_bin, put1_some, xneq, run_ops_nil, run_cond, B0, reduceIte, reduceEqDiff]
  refine cond_split (t := (decide (a_0.Amount ≠ b_1.Amount))) (fun hc14 => ?_) (fun hc14 => ?_)
  · rw [iteT hc14] at hF
    simp only [run_seq, run_reg, run_mv, run_ops_nil, run_ret, B0, reduceIte, reduceEqDiff]
    have he := some_inj hF
    subst he
    simp only [end_ret1, B0, reduceIte, reduceEqDiff]
    exact rfl
  rw [iteF hc14] at hF
  simp only [run_skip, x81_2, run_seq, run_reg, run_fa, put1_some, Nat.reduceAdd, Nat.zero_add, Nat.add_zero, xfa_ref, run_ld, B0, reduceIte, reduceEqDiff]
  refine put1_eq (v := lst cI a_0.In) rfl ?_
  simp only [run_fa, put1_some, Nat.reduceAdd, Nat.zero_add, Nat.add_zero, xfa_ref, run_ld, B0, reduceIte, reduceEqDiff]
  refine put1_eq (v := lst cI b_1.In) rfl ?_
  obtain ⟨v15, hx16, hF17⟩ := bind_some' hF
  simp only [run_call, B0, reduceIte, reduceEqDiff]
  refine call1 rfl (mapM1 snap_lst (mapM1 snap_lst mapM0)) (laws_eqIntS_x (fun b hb => decide_eq_true hb) k a_0.In b_1.In v15 hx16) ?_
  simp only [run_un, put1_some, xnot, run_ops_nil, run_cond, B0, reduceIte, reduceEqDiff]
  refine cond_split (t := (!v15)) (fun hc18 => ?_) (fun hc18 => ?_)
  · rw [iteT hc18] at hF17
    simp only [run_seq, run_reg, run_mv, run_ops_nil, run_ret, B0, reduceIte, reduceEqDiff]
    have he := some_inj hF17
    subst he
    simp only [end_ret1, B0, reduceIte, reduceEqDiff]
    exact rfl
  rw [iteF hc18] at hF17
  simp only [run_skip, x81_1, run_seq, run_reg, run_fa, put1_some, Nat.reduceAdd, Nat.zero_add, Nat.add_zero, xfa_ref, run_ld, B0, reduceIte, reduceEqDiff]
  refine put1_eq (v := lst cB a_0.Closed) rfl ?_
  simp only [run_fa, put1_some, Nat.reduceAdd, Nat.zero_add, Nat.add_zero, xfa_ref, run_ld, B0, reduceIte, reduceEqDiff]
  refine put1_eq (v := lst cB b_1.Closed) rfl ?_
  obtain ⟨v19, hx20, hF21⟩ := bind_some' hF17
  simp only [run_call, B0, reduceIte, reduceEqDiff]
  refine call1 rfl (mapM1 snap_lst (mapM1 snap_lst mapM0)) (laws_eqBoolS_x (fun b hb => decide_eq_true hb) k a_0.Closed b_1.Closed v19 hx20) ?_
  simp only [run_un, put1_some, xnot, run_ops_nil, run_cond, B0, reduceIte, reduceEqDiff]
  refine cond_split (t := (!v19)) (fun hc22 => ?_) (fun hc22 => ?_)
  · rw [iteT hc22] at hF21
    simp only [run_seq, run_reg, run_mv, run_ops_nil, run_ret, B0, reduceIte, reduceEqDiff]
    have he := some_inj hF21
    subst he
    simp only [end_ret1, B0, reduceIte, reduceEqDiff]
    exact rfl
  rw [iteF hc22] at hF21
  simp only [run_skip, run_seq, run_reg, run_mv, run_ops_nil, run_ret, B0, reduceIte, reduceEqDiff]
  have he := some_inj hF21
  subst he
  simp only [end_ret1, B0, reduceIte, reduceEqDiff]
  exact rfl
theorem laws_eqPictureS_x {W : Nat → Bool} {h : Heap} (hW : ∀ b,
    h.length ≤ b → W b = true) (k : Nat) (a_0 : List Picture) (b_1 : List Picture) (r : Bool) (hF : laws_eqPictureS k a_0 b_1 = some r) : Ret E W 56 [lst Picture.cells a_0,
    lst Picture.cells b_1] h (fun v h' => cut h.length h' E.sz false 9 v = some (.bool r)) := by
  refine Ret.of (fn := x56) rfl (Run.of ?_)
  unfold laws_eqPictureS at hF
  have zf0 : argFr [lst Picture.cells a_0, lst Picture.cells b_1] 0 = lst Picture.cells a_0 := rfl
  have zf1 : argFr [lst Picture.cells a_0, lst Picture.cells b_1] 1 = lst Picture.cells b_1 := rfl
  generalize argFr [lst Picture.cells a_0, lst Picture.cells b_1] = fr0 at zf0 zf1 ⊢
  have hS : Sep h h.length [] := Sep.nil h
  simp only [x56, run_seq, run_reg, run_mv, run_ops_nil, x56_7, zf0, run_len, put1_some, xlen_lst, zf1, run_bin, xneq, run_cond, B0, reduceIte, reduceEqDiff]
  refine cond_split (t := (decide ((List.length a_0 : Int) ≠ (List.length b_1 : Int)))) (fun hc1 => ?_) (fun hc1 => ?_)
  · rw [iteT hc1] at hF
    simp only [run_seq, run_reg, run_mv, run_ops_nil, run_ret, B0, reduceIte, reduceEqDiff]
    have he := some_inj hF
    subst he
    simp only [end_ret1, B0, reduceIte, reduceEqDiff]
    exact rfl
  rw [iteF hc1] at hF
  simp only [run_skip, x56_6, run_seq, run_reg, run_mv, run_ops_nil, B0, reduceIte, reduceEqDiff]
  obtain ⟨oc6, hX8, hk9⟩ := jn_some hF
  simp only [x56_5]
  refine loopF_j (σ := Int) (fun s41 => laws_eqPictureS_b1 k a_0 b_1 s41)
      (fun s fr' h' => fr' 0 = lst Picture.cells a_0 ∧ fr' 1 = lst Picture.cells b_1 ∧ fr' 5 = .int .i64 s ∧ Sep h' h.length ([])) hX8 ⟨by simp only [zf0, B0, reduceIte,
      reduceEqDiff], by simp only [zf1, B0, reduceIte, reduceEqDiff], by simp only [B0, reduceIte, reduceEqDiff], hS⟩ (fun _ _ _ h => h) ?_ ?_
  · rintro s3 fr18 h19 ⟨f21, f22, f23, hS20⟩ oc7 hF10 hr11 Q12 hN13 hK14 hR15 hE16
    unfold laws_eqPictureS_b1 at hF10
    simp only [x56_3, run_seq, run_reg, f23, run_mv, f21, run_len, put1_some, xlen_lst, run_bin, xlss, run_ops_nil, run_cond, B0, reduceIte, reduceEqDiff]
    refine cond_split (t := (decide (s3 < (List.length a_0 : Int)))) (fun hc25 => ?_) (fun hc25 => ?_)
    · rw [iteT hc25] at hF10
      obtain ⟨x26, hx27, hF28⟩ := bind_some' hF10
      simp only [run_skip, x56_2, run_seq, run_block, x56_1, run_draw, f21, d4_mv, put1d_some, f23, d4_ia, B0, reduceIte, reduceEqDiff]
      refine put1d_eq (v := .ref (Picture.cells x26) 0) (xia_lst hx27 rfl) ?_
      simp only [d4_ld, B0, reduceIte, reduceEqDiff]
      refine put1d_eq (v := .agg [.bool x26.Taken, .int .i64 x26.Amount, lst cI x26.In, lst cB x26.Closed]) rfl ?_
      obtain ⟨x29, hx30, hF31⟩ := bind_some' hF28
      simp only [f22, d4_mv, put1d_some, f23, d4_ia, B0, reduceIte, reduceEqDiff]
      refine put1d_eq (v := .ref (Picture.cells x29) 0) (xia_lst hx30 rfl) ?_
      simp only [d4_ld, B0, reduceIte, reduceEqDiff]
      refine put1d_eq (v := .agg [.bool x29.Taken, .int .i64 x29.Amount, lst cI x29.In, lst cB x29.Closed]) rfl ?_
      obtain ⟨v32, hx33, hF34⟩ := bind_some' hF31
      simp only [run_d3_call, B0, reduceIte, reduceEqDiff]
      refine call1d rfl (mapM1 (snap_agg (mapM1 snap_bool (mapM1 snap_int (mapM1 snap_lst (mapM1 snap_lst mapM0))))) (mapM1 (snap_agg (mapM1 snap_bool (mapM1 snap_int
          (mapM1 snap_lst (mapM1 snap_lst mapM0))))) mapM0)) (laws_eqPicture_x (fun b hb => decide_eq_true hb) k x26 x29 v32 hx33) ?_
      simp only [d4_un, put1d_some, xnot, run_draw_nil, run_cond, B0, reduceIte, reduceEqDiff]
      refine cond_split (t := (!v32)) (fun hc35 => ?_) (fun hc35 => ?_)
      · rw [iteT hc35] at hF34
        simp only [run_seq, run_reg, run_mv, run_ops_nil, run_ret, B0, reduceIte, reduceEqDiff]
        have e36 := some_inj hF34
        subst e36
        have ho37 := hr11 _ rfl
        have hk38 := hk9
        rw [ho37] at hk38
        dsimp only [jnO] at hk38
        apply hR15
        have he := some_inj hk38
        subst he
        simp only [end_ret1, B0, reduceIte, reduceEqDiff]
        exact rfl
      rw [iteF hc35] at hF34
      simp only [run_skip, run_blk, run_reg, f23, run_mv, run_bin, put1_some, xadd, run_ops_nil, run_nil, B0, reduceIte, reduceEqDiff]
      have e39 := some_inj hF34
      exact hN13 _ _ _ e39.symm ⟨by simp only [f21, B0, reduceIte, reduceEqDiff], by simp only [f22, B0, reduceIte, reduceEqDiff], by simp only [B0, reduceIte, reduceEqDiff], hS20⟩
    rw [iteF hc25] at hF10
    simp only [run_exit, out_code, out_nil, B0, reduceIte, reduceEqDiff]
    have e40 := some_inj hF10
    exact hK14 _ _ _ e40.symm ⟨by simp only [f21, B0, reduceIte, reduceEqDiff], by simp only [f22, B0, reduceIte, reduceEqDiff], by simp only [f23, B0, reduceIte, reduceEqDiff],
        hS20⟩
  rintro s42 fr43 h44 rfl ⟨f46, f47, f48, hS45⟩
  dsimp only [jnO] at hk9
  unfold laws_eqPictureS_j1 at hk9
  simp only [run_seq, run_reg, run_mv, run_ops_nil, run_ret, B0, reduceIte, reduceEqDiff]
  have he := some_inj hk9
  subst he
  simp only [end_ret1, B0, reduceIte, reduceEqDiff]
  exact rfl
end Go.Proofs.Ytpkiieniipenjaa.X
