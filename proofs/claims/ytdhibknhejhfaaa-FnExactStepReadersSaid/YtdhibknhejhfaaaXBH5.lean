/- The functions' code comes to what the plain functions say (5). -/
import Derived.Test.YtdhibknhejhfaaaXBH4
set_option linter.unusedVariables false
set_option linter.unusedSimpArgs false
set_option maxRecDepth 100000
namespace Go.Proofs.Ytdhibknhejhfaaa.X
open Go
open Nat (reduceEqDiff)
theorem impl_StepReaders_x {W : Nat → Bool} {h : Heap} (hW : ∀ b,
    h.length ≤ b → W b = true) (r_0 : Readers_) (x_1 : GroupStep) (r : Readers_ × Bool) (hF : impl_StepReaders r_0 x_1 = some r) : Ret E W 34 [.agg [.int .i64 r_0.Generation,
    lst Reader.cells r_0.Readers, lst cI r_0.Committed, lst cI r_0.Ends], .agg [.int .i64 x_1.Kind, .int .i64 x_1.K, .int .i64 x_1.Part,
    .int .i64 x_1.N]] h (fun v h' => ∃ rv0_1 rc0_1 rv0_2 rc0_2 rv0_3 rc0_3, v = .tup [.agg [.int .i64 r.1.Generation, rv0_1, rv0_2, rv0_3],
    .bool r.2] ∧ SlN Reader.R 4 37 rv0_1 r.1.Readers rc0_1 ∧ SlF cI 1 3 rv0_2 r.1.Committed rc0_2 ∧ SlF cI 1 3 rv0_3 r.1.Ends rc0_3 ∧ Sep h' h.length (rc0_1 ++ (rc0_2 ++
    (rc0_3 ++ ([]))))) := by
  refine Ret.of (fn := x34) rfl (Run.of ?_)
  unfold impl_StepReaders at hF
  have zf0 : argFr [.agg [.int .i64 r_0.Generation, lst Reader.cells r_0.Readers, lst cI r_0.Committed, lst cI r_0.Ends], .agg [.int .i64 x_1.Kind, .int .i64 x_1.K,
      .int .i64 x_1.Part, .int .i64 x_1.N]] 0 = .agg [.int .i64 r_0.Generation, lst Reader.cells r_0.Readers, lst cI r_0.Committed, lst cI r_0.Ends] := rfl
  have zf1 : argFr [.agg [.int .i64 r_0.Generation, lst Reader.cells r_0.Readers, lst cI r_0.Committed, lst cI r_0.Ends], .agg [.int .i64 x_1.Kind, .int .i64 x_1.K,
      .int .i64 x_1.Part, .int .i64 x_1.N]] 1 = .agg [.int .i64 x_1.Kind, .int .i64 x_1.K, .int .i64 x_1.Part, .int .i64 x_1.N] := rfl
  generalize argFr [.agg [.int .i64 r_0.Generation, lst Reader.cells r_0.Readers, lst cI r_0.Committed, lst cI r_0.Ends], .agg [.int .i64 x_1.Kind, .int .i64 x_1.K,
      .int .i64 x_1.Part, .int .i64 x_1.N]] = fr0 at zf0 zf1 ⊢
  have hS : Sep h h.length [] := Sep.nil h
  simp only [x34, run_seq, run_reg, run_box, zf0, B0, reduceIte, reduceEqDiff]
  refine put2_boxC (cs := [.int .i64 r_0.Generation, lst Reader.cells r_0.Readers, lst cI r_0.Committed, lst cI r_0.Ends]) hS rfl rfl rfl (fun b1 h2 hS3 => ?_)
  simp only [run_box, zf1, B0, reduceIte, reduceEqDiff]
  refine put2_boxC (cs := [.int .i64 x_1.Kind, .int .i64 x_1.K, .int .i64 x_1.Part, .int .i64 x_1.N]) hS3 rfl rfl rfl (fun b5 h6 hS7 => ?_)
  simp only [run_new, B0, reduceIte, reduceEqDiff]
  refine put2_newC hS7 (fun b9 h10 hS11 => ?_)
  simp only [run_mv, run_ops_nil, B0, reduceIte, reduceEqDiff]
  refine frz_stepC (Sep.m2 hS11) hW (by simp only [B0, reduceIte, reduceEqDiff]) (fun h13 hS14 => ?_)
  refine frz_stepC (Sep.m1 hS14) hW (by simp only [B0, reduceIte, reduceEqDiff]) (fun h15 hS16 => ?_)
  simp only [run_frz_nil, x34_5, run_seq, run_reg, run_ld, B0, reduceIte, reduceEqDiff]
  refine put1_eq (v := .agg [.int .i64 r_0.Generation, lst Reader.cells r_0.Readers, lst cI r_0.Committed, lst cI r_0.Ends]) rfl ?_
  obtain ⟨v17, hx18, hF19⟩ := bind_some' hF
  simp only [run_call, B0, reduceIte, reduceEqDiff]
  refine call1 rfl (mapM1 (snap_agg (mapM1 snap_int (mapM1 snap_lst (mapM1 snap_lst (mapM1 snap_lst mapM0))))) mapM0) (impl_areReaders_x
      (fun b hb => decide_eq_true hb) r_0 v17 hx18) ?_
  simp only [run_un, put1_some, xnot, run_ops_nil, x34_1, run_cond, B0, reduceIte, reduceEqDiff]
  refine cond_split (t := (!v17)) (fun hc20 => ?_) (fun hc20 => ?_)
  · rw [iteT hc20] at hF19
    simp only [run_seq, run_reg, run_build, evp, B0, reduceIte, reduceEqDiff]
    refine put1_eq (v := .agg [.int .i64 0, .nil, .nil, .nil]) rfl ?_
    simp only [run_st, B0, reduceIte, reduceEqDiff]
    refine put2_stCx (us := [.int .i64 0, .nil, .nil, .nil]) rfl (cs' := [.int .i64 0, .nil, .nil, .nil]) hS16 hW rfl rfl (Nat.le_of_ble_eq_true rfl) rfl (fun h21 hS22 => ?_)
    simp only [run_mv, run_ops_nil, run_ret, B0, reduceIte, reduceEqDiff]
    have he := some_inj hF19
    subst he
    refine end_ret_m (mapM1 (res_cell (bb := b9) (oo := 0) (v := .agg [.int .i64 0, .nil, .nil, .nil]) (by simp only [B0, reduceIte,
        reduceEqDiff]) ((xld_bs (Sep.bk _ _ _ hS22)).trans rfl)) (mapM1 (res_t (v := .bool false) (by simp only [B0, reduceIte, reduceEqDiff])) mapM0)) ?_
    exact ⟨.nil, [], .nil, [], .nil, [], by first | trivial | rfl, SlN.nil, SlF.nil, SlF.nil, ((Sep.dc (hS22)) : Sep _ h.length ([]))⟩
  rw [iteF hc20] at hF19
  simp only [run_skip, x34_4, run_seq, run_reg, run_ld, B0, reduceIte, reduceEqDiff]
  refine put1_eq (v := .agg [.int .i64 r_0.Generation, lst Reader.cells r_0.Readers, lst cI r_0.Committed, lst cI r_0.Ends]) rfl ?_
  obtain ⟨v23, hx24, hF25⟩ := bind_some' hF19
  simp only [run_call, B0, reduceIte, reduceEqDiff]
  refine call2 rfl hS16 (mapM1 (snap_agg (mapM1 snap_int (mapM1 snap_lst (mapM1 snap_lst (mapM1 snap_lst mapM0))))) mapM0) (impl_copyReaders_x
      (fun b hb => decide_eq_true hb) r_0 v23 hx24) ?_
  rintro _ h38 ⟨v26, c27, v30, c31, v34, c35, rfl, hv28, hv32, hv36, hS39⟩
  refine ⟨_, free_a (all_c rfl (all_c (SlN.free1 hv28) (all_c (SlF.free1 hv32) (all_c (SlF.free1 hv36) all_n)))), hS39,
      (pf_app (SlN.pf hv28 Reader.RO) (pf_app (SlF.pf hv32 (fun _ => rfl)) (pf_app (SlF.pf hv36 (fun _ => rfl)) pf_nil))), fun h40 hS41 => ?_⟩
  have hS42 : Sep h40 h.length (c27 ++ (c31 ++ (c35 ++ ([Blk1 b9 [.int .i64 0, .nil, .nil, .nil] 29] ++ ([]))))) := by simpa only [List.append_assoc, List.nil_append] using hS41
  simp only [run_new, B0, reduceIte, reduceEqDiff]
  refine put2_newC hS42 (fun b43 h44 hS45 => ?_)
  simp only [run_st, B0, reduceIte, reduceEqDiff]
  refine put2_stCx (us := [.int .i64 v23.Generation, v26, v30, v34]) rfl (cs' := [.int .i64 v23.Generation, v26, v30,
      v34]) hS45 hW rfl (all_c rfl (all_c (SlN.one hv28) (all_c (SlF.one hv32) (all_c (SlF.one hv36) all_n)))) (Nat.le_of_ble_eq_true rfl) rfl (fun h47 hS48 => ?_)
  simp only [run_ops_nil, x34_3, run_seq, run_reg, run_ld, B0, reduceIte, reduceEqDiff]
  refine put1_eq (v := .agg [.int .i64 x_1.Kind, .int .i64 x_1.K, .int .i64 x_1.Part, .int .i64 x_1.N]) rfl ?_
  obtain ⟨v49, hx50, hF51⟩ := bind_some' hF25
  simp only [run_call, B0, reduceIte, reduceEqDiff]
  refine call0 rfl (impl_Readers_step_x hW b43 v23 v26 c27 hv28 v30 c31 hv32 v34 c35 hv36 x_1 v49 hx50 (Sep.m3 (Sep.m3 (Sep.m3 (Sep.m3 hS48))))) ?_
  rintro _ h64 ⟨v52, c53, v56, c57, v60, c61, rfl, hv54, hv58, hv62, hS65⟩
  simp only [run_un, put1_some, xnot, run_ops_nil, x34_2, run_cond, B0, reduceIte, reduceEqDiff]
  refine cond_split (t := (!v49.1)) (fun hc66 => ?_) (fun hc66 => ?_)
  · rw [iteT hc66] at hF51
    simp only [run_seq, run_reg, run_build, evp, B0, reduceIte, reduceEqDiff]
    refine put1_eq (v := .agg [.int .i64 0, .nil, .nil, .nil]) rfl ?_
    simp only [run_st, B0, reduceIte, reduceEqDiff]
    refine put2_stCx (us := [.int .i64 0, .nil, .nil, .nil]) rfl (cs' := [.int .i64 0, .nil, .nil,
        .nil]) (Sep.m4 hS65) hW rfl rfl (Nat.le_of_ble_eq_true rfl) rfl (fun h67 hS68 => ?_)
    simp only [run_mv, run_ops_nil, run_ret, B0, reduceIte, reduceEqDiff]
    have he := some_inj hF51
    subst he
    refine end_ret_m (mapM1 (res_cell (bb := b9) (oo := 0) (v := .agg [.int .i64 0, .nil, .nil, .nil]) (by simp only [B0, reduceIte,
        reduceEqDiff]) ((xld_bs (Sep.bk _ _ _ hS68)).trans rfl)) (mapM1 (res_t (v := .bool false) (by simp only [B0, reduceIte, reduceEqDiff])) mapM0)) ?_
    exact ⟨.nil, [], .nil, [], .nil, [], by first | trivial | rfl, SlN.nil, SlF.nil, SlF.nil, ((Sep.dc ((Sep.dc ((Sep.dc ((Sep.dc ((Sep.dc (hS68)))))))))) : Sep _ h.length ([]))⟩
  rw [iteF hc66] at hF51
  simp only [run_skip, run_seq, run_reg, run_ld, B0, reduceIte, reduceEqDiff]
  refine put1_eq (v := .agg [.int .i64 v49.2.Generation, v52, v56, v60]) ((xld_bs (Sep.bk _ _ _ hS65)).trans rfl) ?_
  simp only [run_st, B0, reduceIte, reduceEqDiff]
  refine put2_stCx (us := [.int .i64 v49.2.Generation, v52, v56, v60]) rfl (cs' := [.int .i64 v49.2.Generation, v52, v56,
      v60]) (Sep.m4 hS65) hW rfl (all_c rfl (all_c (SlN.one hv54) (all_c (SlF.one hv58) (all_c (SlF.one hv62) all_n)))) (Nat.le_of_ble_eq_true rfl) rfl (fun h69 hS70 => ?_)
  simp only [run_mv, run_ops_nil, run_ret, B0, reduceIte, reduceEqDiff]
  have he := some_inj hF51
  subst he
  refine end_ret_m (mapM1 (res_cell (bb := b9) (oo := 0) (v := .agg [.int .i64 v49.2.Generation, v52, v56, v60]) (by simp only [B0, reduceIte,
      reduceEqDiff]) ((xld_bs (Sep.bk _ _ _ hS70)).trans rfl)) (mapM1 (res_t (v := .bool true) (by simp only [B0, reduceIte, reduceEqDiff])) mapM0)) ?_
  exact ⟨v52, c53, v56, c57, v60, c61, by first | trivial | rfl, hv54, hv58, hv62, (Sep.m2 (Sep.m2 (Sep.m2 (Sep.dc ((Sep.dc (hS70)))))))⟩
theorem laws_FnExactStepReaders_x {W : Nat → Bool} {h : Heap} (hW : ∀ b,
    h.length ≤ b → W b = true) (k : Nat) (v_0 : Readers_) (v_1 : GroupStep) (r : Bool)
    (hF : laws_FnExactStepReaders k v_0 v_1 = some r) : Ret E W 5 [.agg [.int .i64 v_0.Generation, lst Reader.cells v_0.Readers, lst cI v_0.Committed, lst cI v_0.Ends],
    .agg [.int .i64 v_1.Kind, .int .i64 v_1.K, .int .i64 v_1.Part, .int .i64 v_1.N]] h (fun v h' => cut h.length h' E.sz false 9 v = some (.bool r)) := by
  refine Ret.of (fn := x5) rfl (Run.of ?_)
  unfold laws_FnExactStepReaders at hF
  have zf0 : argFr [.agg [.int .i64 v_0.Generation, lst Reader.cells v_0.Readers, lst cI v_0.Committed, lst cI v_0.Ends], .agg [.int .i64 v_1.Kind, .int .i64 v_1.K,
      .int .i64 v_1.Part, .int .i64 v_1.N]] 0 = .agg [.int .i64 v_0.Generation, lst Reader.cells v_0.Readers, lst cI v_0.Committed, lst cI v_0.Ends] := rfl
  have zf1 : argFr [.agg [.int .i64 v_0.Generation, lst Reader.cells v_0.Readers, lst cI v_0.Committed, lst cI v_0.Ends], .agg [.int .i64 v_1.Kind, .int .i64 v_1.K,
      .int .i64 v_1.Part, .int .i64 v_1.N]] 1 = .agg [.int .i64 v_1.Kind, .int .i64 v_1.K, .int .i64 v_1.Part, .int .i64 v_1.N] := rfl
  generalize argFr [.agg [.int .i64 v_0.Generation, lst Reader.cells v_0.Readers, lst cI v_0.Committed, lst cI v_0.Ends], .agg [.int .i64 v_1.Kind, .int .i64 v_1.K,
      .int .i64 v_1.Part, .int .i64 v_1.N]] = fr0 at zf0 zf1 ⊢
  have hS : Sep h h.length [] := Sep.nil h
  simp only [x5, run_seq, run_reg, run_box, zf0, B0, reduceIte, reduceEqDiff]
  refine put2_boxC (cs := [.int .i64 v_0.Generation, lst Reader.cells v_0.Readers, lst cI v_0.Committed, lst cI v_0.Ends]) hS rfl rfl rfl (fun b1 h2 hS3 => ?_)
  simp only [run_box, zf1, B0, reduceIte, reduceEqDiff]
  refine put2_boxC (cs := [.int .i64 v_1.Kind, .int .i64 v_1.K, .int .i64 v_1.Part, .int .i64 v_1.N]) hS3 rfl rfl rfl (fun b5 h6 hS7 => ?_)
  simp only [run_mv, run_ops_nil, B0, reduceIte, reduceEqDiff]
  refine frz_stepC (Sep.m1 hS7) hW (by simp only [B0, reduceIte, reduceEqDiff]) (fun h9 hS10 => ?_)
  refine frz_stepC hS10 hW (by simp only [B0, reduceIte, reduceEqDiff]) (fun h11 hS12 => ?_)
  simp only [run_frz_nil, x5_23, run_seq, run_reg, run_mv, run_ops_nil, x5_22, run_ld, B0, reduceIte, reduceEqDiff]
  refine put1_eq (v := .agg [.int .i64 v_0.Generation, lst Reader.cells v_0.Readers, lst cI v_0.Committed, lst cI v_0.Ends]) rfl ?_
  obtain ⟨v13, hx14, hF15⟩ := bind_some' hF
  simp only [run_mv, run_call, B0, reduceIte, reduceEqDiff]
  refine call1 rfl (mapM1 (snap_agg (mapM1 snap_int (mapM1 snap_lst (mapM1 snap_lst (mapM1 snap_lst mapM0))))) (mapM1 snap_int mapM0)) (laws_szReaders_x
      (fun b hb => decide_eq_true hb) k v_0 1048576 v13 hx14) ?_
  simp only [run_mv, run_ops_nil, x5_21, run_seq, run_reg, run_bin, put1_some, xlss, run_cond, B0, reduceIte, reduceEqDiff]
  refine cond_split (t := (decide (v13 < 0))) (fun hc16 => ?_) (fun hc16 => ?_)
  · rw [iteT hc16] at hF15
    simp only [run_seq, run_reg, run_mv, run_ops_nil, run_ret, B0, reduceIte, reduceEqDiff]
    have he := some_inj hF15
    subst he
    simp only [end_ret1, B0, reduceIte, reduceEqDiff]
    exact rfl
  rw [iteF hc16] at hF15
  simp only [run_skip, x5_20, run_seq, run_draw, d1_new, B0, reduceIte, reduceEqDiff]
  refine put2d_newC hS12 (fun b17 h18 hS19 => ?_)
  simp only [d4_ld, B0, reduceIte, reduceEqDiff]
  refine put1d_eq (v := .agg [.int .i64 v_0.Generation, lst Reader.cells v_0.Readers, lst cI v_0.Committed, lst cI v_0.Ends]) rfl ?_
  obtain ⟨v21, hx22, hF23⟩ := bind_some' hF15
  simp only [run_d2_call, B0, reduceIte, reduceEqDiff]
  refine call2q rfl hS19 (mapM1 (snap_agg (mapM1 snap_int (mapM1 snap_lst (mapM1 snap_lst (mapM1 snap_lst mapM0))))) mapM0) (laws_toReaders_x
      (fun b hb => decide_eq_true hb) k v_0 v21 hx22) ?_
  rintro _ h36 ⟨v24, c25, v28, c29, v32, c33, rfl, hv26, hv30, hv34, hS37⟩
  refine ⟨_, free_a (all_c rfl (all_c (SlN.free1 hv26) (all_c (SlF.free1 hv30) (all_c (SlF.free1 hv34) all_n)))), hS37,
      (pf_app (SlN.pf hv26 Reader.RO) (pf_app (SlF.pf hv30 (fun _ => rfl)) (pf_app (SlF.pf hv34 (fun _ => rfl)) pf_nil))), fun h38 hS39 => ?_⟩
  have hS40 : Sep h38 h.length (c25 ++ (c29 ++ (c33 ++ ([Blk1 b17 [.int .i64 0, .nil, .nil, .nil] 29] ++ ([]))))) := by simpa only [List.append_assoc, List.nil_append] using hS39
  simp only [d1_ld, ldd_ref, B0, reduceIte, reduceEqDiff]
  refine put1d_eq (v := .agg [.int .i64 v_1.Kind, .int .i64 v_1.K, .int .i64 v_1.Part, .int .i64 v_1.N]) rfl ?_
  simp only [run_d3_call, B0, reduceIte, reduceEqDiff]
  refine call1d rfl (mapM1 (snap_agg (mapM1 snap_int (mapM1 snap_int (mapM1 snap_int (mapM1 snap_int mapM0))))) mapM0) (laws_toGroupStep_x
      (fun b hb => decide_eq_true hb) v_1 _ rfl) ?_
  obtain ⟨v41, hx42, hF43⟩ := bind_some' hF23
  simp only [run_d3_call, B0, reduceIte, reduceEqDiff]
  refine call2d rfl hS40 (mapM1 (snap_agg (mapM1 snap_int (mapM1 (SlN.snap hv26 _ hS40 rfl Reader.RO) (mapM1 (SlF.snap hv30 (Sep.m1 hS40) rfl (fun _ => rfl) (fun _ => rfl))
      (mapM1 (SlF.snap hv34 (Sep.m2 hS40) rfl (fun _ => rfl) (fun _ => rfl)) mapM0))))) (mapM1 (snap_agg (mapM1 snap_int (mapM1 snap_int (mapM1 snap_int
      (mapM1 snap_int mapM0))))) mapM0)) (spec_StepReaders_x (fun b hb => decide_eq_true hb) v21 (laws_toGroupStep v_1) v41 hx42) ?_
  rintro _ h56 ⟨v44, c45, v48, c49, v52, c53, rfl, hv46, hv50, hv54, hS57⟩
  refine ⟨_, free_t (all_c (free2_a (all_c rfl (all_c (SlN.free1 hv46) (all_c (SlF.free1 hv50) (all_c (SlF.free1 hv54) all_n))))) (all_c rfl all_n)), hS57,
      (pf_app (SlN.pf hv46 Reader.RO) (pf_app (SlF.pf hv50 (fun _ => rfl)) (pf_app (SlF.pf hv54 (fun _ => rfl)) pf_nil))), fun h58 hS59 => ?_⟩
  have hS60 : Sep h58 h.length (c45 ++ (c49 ++ (c53 ++ (c25 ++ (c29 ++ (c33 ++ ([Blk1 b17 [.int .i64 0, .nil, .nil, .nil] 29] ++ ([])))))))) := by simpa only [List.append_assoc,
      List.nil_append] using hS59
  simp only [d4_mv, put1d_some, d4_ext, xext_0, d1_ext, xext_1, d3_st, B0, reduceIte, reduceEqDiff]
  refine put2d_stCx (us := [.int .i64 v41.1.Generation, v44, v48, v52]) rfl (cs' := [.int .i64 v41.1.Generation, v44, v48,
      v52]) (Sep.m6 hS60) hW rfl (all_c rfl (all_c (SlN.one hv46) (all_c (SlF.one hv50) (all_c (SlF.one hv54) all_n)))) (Nat.le_of_ble_eq_true rfl) rfl (fun h61 hS62 => ?_)
  simp only [d4_mv, put1d_some, run_draw_nil, B0, reduceIte, reduceEqDiff]
  refine frz_stepC hS62 hW (by simp only [B0, reduceIte, reduceEqDiff]) (fun h63 hS64 => ?_)
  simp only [run_frz_nil, x5_19, run_seq, run_reg, run_ld, B0, reduceIte, reduceEqDiff]
  refine put1_eq (v := .agg [.int .i64 v_0.Generation, lst Reader.cells v_0.Readers, lst cI v_0.Committed, lst cI v_0.Ends]) rfl ?_
  obtain ⟨v65, hx66, hF67⟩ := bind_some' hF43
  simp only [run_call, B0, reduceIte, reduceEqDiff]
  refine call2 rfl hS64 (mapM1 (snap_agg (mapM1 snap_int (mapM1 snap_lst (mapM1 snap_lst (mapM1 snap_lst mapM0))))) mapM0) (laws_toReaders_x
      (fun b hb => decide_eq_true hb) k v_0 v65 hx66) ?_
  rintro _ h80 ⟨v68, c69, v72, c73, v76, c77, rfl, hv70, hv74, hv78, hS81⟩
  refine ⟨_, free_a (all_c rfl (all_c (SlN.free1 hv70) (all_c (SlF.free1 hv74) (all_c (SlF.free1 hv78) all_n)))), hS81,
      (pf_app (SlN.pf hv70 Reader.RO) (pf_app (SlF.pf hv74 (fun _ => rfl)) (pf_app (SlF.pf hv78 (fun _ => rfl)) pf_nil))), fun h82 hS83 => ?_⟩
  have hS84 : Sep h82 h.length (c69 ++ (c73 ++ (c77 ++ (c45 ++ (c49 ++ (c53 ++ (c25 ++ (c29 ++ (c33 ++ ([])))))))))) := by simpa only [List.append_assoc,
      List.nil_append] using hS83
  simp only [run_new, B0, reduceIte, reduceEqDiff]
  refine put2_newC hS84 (fun b85 h86 hS87 => ?_)
  simp only [run_st, B0, reduceIte, reduceEqDiff]
  refine put2_stCx (us := [.int .i64 v65.Generation, v68, v72, v76]) rfl (cs' := [.int .i64 v65.Generation, v68, v72,
      v76]) hS87 hW rfl (all_c rfl (all_c (SlN.one hv70) (all_c (SlF.one hv74) (all_c (SlF.one hv78) all_n)))) (Nat.le_of_ble_eq_true rfl) rfl (fun h89 hS90 => ?_)
  simp only [run_ops_nil, B0, reduceIte, reduceEqDiff]
  refine frz_stepC hS90 hW (by simp only [B0, reduceIte, reduceEqDiff]) (fun h91 hS92 => ?_)
  simp only [run_frz_nil, x5_18, run_seq, run_draw, d1_new, B0, reduceIte, reduceEqDiff]
  refine put2d_newC hS92 (fun b93 h94 hS95 => ?_)
  simp only [d1_ld, ldd_ref, B0, reduceIte, reduceEqDiff]
  refine put1d_eq (v := .agg [.int .i64 v65.Generation, v68, v72, v76]) rfl ?_
  simp only [d4_ld, B0, reduceIte, reduceEqDiff]
  refine put1d_eq (v := .agg [.int .i64 v_1.Kind, .int .i64 v_1.K, .int .i64 v_1.Part, .int .i64 v_1.N]) rfl ?_
  simp only [run_d2_call, B0, reduceIte, reduceEqDiff]
  refine call1q rfl (mapM1 (snap_agg (mapM1 snap_int (mapM1 snap_int (mapM1 snap_int (mapM1 snap_int mapM0))))) mapM0) (laws_toGroupStep_x
      (fun b hb => decide_eq_true hb) v_1 _ rfl) ?_
  obtain ⟨v97, hx98, hF99⟩ := bind_some' hF67
  simp only [run_d3_call, B0, reduceIte, reduceEqDiff]
  refine call2d rfl hS95 (mapM1 (snap_agg (mapM1 snap_int (mapM1 (SlN.snap hv70 _ (Sep.m1 hS95) rfl Reader.RO) (mapM1 (SlF.snap hv74 (Sep.m2 hS95) rfl (fun _ => rfl)
      (fun _ => rfl)) (mapM1 (SlF.snap hv78 (Sep.m3 hS95) rfl (fun _ => rfl) (fun _ => rfl)) mapM0))))) (mapM1 (snap_agg (mapM1 snap_int (mapM1 snap_int (mapM1 snap_int
      (mapM1 snap_int mapM0))))) mapM0)) (impl_StepReaders_x (fun b hb => decide_eq_true hb) v65 (laws_toGroupStep v_1) v97 hx98) ?_
  rintro _ h112 ⟨v100, c101, v104, c105, v108, c109, rfl, hv102, hv106, hv110, hS113⟩
  refine ⟨_, free_t (all_c (free2_a (all_c rfl (all_c (SlN.free1 hv102) (all_c (SlF.free1 hv106) (all_c (SlF.free1 hv110) all_n))))) (all_c rfl all_n)), hS113,
      (pf_app (SlN.pf hv102 Reader.RO) (pf_app (SlF.pf hv106 (fun _ => rfl)) (pf_app (SlF.pf hv110 (fun _ => rfl)) pf_nil))), fun h114 hS115 => ?_⟩
  have hS116 : Sep h114 h.length (c101 ++ (c105 ++ (c109 ++ ([Blk1 b93 [.int .i64 0, .nil, .nil,
      .nil] 29] ++ (c69 ++ (c73 ++ (c77 ++ (c45 ++ (c49 ++ (c53 ++ (c25 ++ (c29 ++ (c33 ++ ([])))))))))))))) := by simpa only [List.append_assoc, List.nil_append] using hS115
  simp only [d4_mv, put1d_some, d4_ext, xext_0, d1_ext, xext_1, d3_st, B0, reduceIte, reduceEqDiff]
  refine put2d_stCx (us := [.int .i64 v97.1.Generation, v100, v104, v108]) rfl (cs' := [.int .i64 v97.1.Generation, v100, v104,
      v108]) (Sep.m3 hS116) hW rfl (all_c rfl (all_c (SlN.one hv102) (all_c (SlF.one hv106) (all_c (SlF.one hv110) all_n)))) (Nat.le_of_ble_eq_true rfl) rfl (fun h117 hS118 => ?_)
  simp only [d4_mv, put1d_some, run_draw_nil, B0, reduceIte, reduceEqDiff]
  refine frz_stepC hS118 hW (by simp only [B0, reduceIte, reduceEqDiff]) (fun h119 hS120 => ?_)
  simp only [run_frz_nil, x5_17, run_seq, run_reg, run_ld, B0, reduceIte, reduceEqDiff]
  refine put1_eq (v := .agg [.int .i64 v97.1.Generation, v100, v104, v108]) rfl ?_
  simp only [run_ld, B0, reduceIte, reduceEqDiff]
  refine put1_eq (v := .agg [.int .i64 v41.1.Generation, v44, v48, v52]) rfl ?_
  obtain ⟨v121, hx122, hF123⟩ := bind_some' hF99
  simp only [run_call, B0, reduceIte, reduceEqDiff]
  refine call1 rfl (mapM1 (snap_agg (mapM1 snap_int (mapM1 (SlN.snap hv102 _ hS120 rfl Reader.RO) (mapM1 (SlF.snap hv106 (Sep.m1 hS120) rfl (fun _ => rfl) (fun _ => rfl)) (mapM1
      (SlF.snap hv110 (Sep.m2 hS120) rfl (fun _ => rfl) (fun _ => rfl)) mapM0))))) (mapM1 (snap_agg (mapM1 snap_int (mapM1 (SlN.snap hv46 _ (Sep.m6 hS120) rfl Reader.RO) (mapM1
      (SlF.snap hv50 (Sep.m7 hS120) rfl (fun _ => rfl) (fun _ => rfl)) (mapM1 (SlF.snap hv54 (Sep.m8 hS120) rfl (fun _ => rfl) (fun _ => rfl)) mapM0))))) mapM0))
      (laws_eqReaders_x (fun b hb => decide_eq_true hb) k v97.1 v41.1 v121 hx122) ?_
  simp only [run_un, put1_some, xnot, run_mv, B0, reduceIte, reduceEqDiff]
  refine ops_j 4 (fun fr' h' => Sep h' h.length (c45 ++ (c49 ++ (c53 ++ (c69 ++ (c73 ++ (c77 ++ (c101 ++ (c105 ++ (c109 ++ ([])))))))))) ∧ fr' 46 = .bool ((!v121) ||
      (!(v97.2 == v41.2))) ∧ fr' 2 = .ref [.int .i64 v_0.Generation, lst Reader.cells v_0.Readers, lst cI v_0.Committed, lst cI v_0.Ends] 0 ∧ fr' 3 = .ref [.int .i64 v_1.Kind,
      .int .i64 v_1.K, .int .i64 v_1.Part, .int .i64 v_1.N] 0 ∧ fr' 6 = .ref [.int .i64 v41.1.Generation, v44, v48,
      v52] 0 ∧ fr' 7 = .bool v41.2 ∧ fr' 8 = .ref [.int .i64 v65.Generation, v68, v72, v76] 0 ∧ fr' 9 = .ref [.int .i64 v97.1.Generation, v100, v104,
      v108] 0 ∧ fr' 10 = .bool v97.2) (fun Q124 hN125 => ?_) ?_
  · simp only [List.take_succ_cons, List.take_zero]
    simp only [run_guard (g := 42), B0, reduceIte, reduceEqDiff]
    refine guard_split (t := (!v121)) (fun hg126 => ?_) (fun hg126 => ?_)
    · simp only [hg126, run_guard (g := 42), guard_off', run_pick, put1_some, xpick_t, run_ops_nil, run_nil, B0, reduceIte, reduceEqDiff]
      exact hN125 _ _ ⟨(Sep.m8 (Sep.m8 (Sep.m8 (Sep.m5 (Sep.m5 (Sep.m5 (Sep.m2 (Sep.m2 (Sep.m2 (Sep.dc (Sep.m9 (Sep.dc (Sep.m9 (Sep.dc (Sep.m9 hS120))))))))))))))),
          by rw [orT hg126]; simp only [B0, reduceIte, reduceEqDiff], by simp only [B0, reduceIte, reduceEqDiff], by simp only [B0, reduceIte, reduceEqDiff], by simp only [B0,
          reduceIte, reduceEqDiff], by simp only [B0, reduceIte, reduceEqDiff], by simp only [B0, reduceIte, reduceEqDiff], by simp only [B0, reduceIte, reduceEqDiff],
          by simp only [B0, reduceIte, reduceEqDiff]⟩
    · simp only [hg126, run_guard (g := 42), guard_false, run_mv, run_eqb, put1_some, xeqb_t, run_pick, xpick_f, run_ops_nil, run_nil, B0, reduceIte, reduceEqDiff]
      exact hN125 _ _ ⟨(Sep.m8 (Sep.m8 (Sep.m8 (Sep.m5 (Sep.m5 (Sep.m5 (Sep.m2 (Sep.m2 (Sep.m2 (Sep.dc (Sep.m9 (Sep.dc (Sep.m9 (Sep.dc (Sep.m9 hS120))))))))))))))),
          by rw [orF hg126]; simp only [B0, reduceIte, reduceEqDiff], by simp only [B0, reduceIte, reduceEqDiff], by simp only [B0, reduceIte, reduceEqDiff], by simp only [B0,
          reduceIte, reduceEqDiff], by simp only [B0, reduceIte, reduceEqDiff], by simp only [B0, reduceIte, reduceEqDiff], by simp only [B0, reduceIte, reduceEqDiff],
          by simp only [B0, reduceIte, reduceEqDiff]⟩
  rintro fr127 h136 ⟨hS137, f128, f129, f130, f131, f132, f133, f134, f135⟩
  simp only [List.drop_succ_cons, List.drop_zero]
  simp only [run_ops_nil, f128, run_cond, B0, reduceIte, reduceEqDiff]
  refine cond_split (t := ((!v121) || (!(v97.2 == v41.2)))) (fun hc138 => ?_) (fun hc138 => ?_)
  · rw [iteT hc138] at hF123
    simp only [run_seq, run_reg, run_mv, run_ops_nil, run_ret, B0, reduceIte, reduceEqDiff]
    have he := some_inj hF123
    subst he
    simp only [end_ret1, B0, reduceIte, reduceEqDiff]
    exact rfl
  rw [iteF hc138] at hF123
  simp only [run_skip, x5_16, run_seq, run_draw, f133, d1_ld, ldd_ref, B0, reduceIte, reduceEqDiff]
  refine put1d_eq (v := .agg [.int .i64 v65.Generation, v68, v72, v76]) rfl ?_
  simp only [f129, d4_ld, B0, reduceIte, reduceEqDiff]
  refine put1d_eq (v := .agg [.int .i64 v_0.Generation, lst Reader.cells v_0.Readers, lst cI v_0.Committed, lst cI v_0.Ends]) rfl ?_
  obtain ⟨v139, hx140, hF141⟩ := bind_some' hF123
  simp only [run_d2_call, B0, reduceIte, reduceEqDiff]
  refine call2q rfl hS137 (mapM1 (snap_agg (mapM1 snap_int (mapM1 snap_lst (mapM1 snap_lst (mapM1 snap_lst mapM0))))) mapM0) (laws_toReaders_x
      (fun b hb => decide_eq_true hb) k v_0 v139 hx140) ?_
  rintro _ h154 ⟨v142, c143, v146, c147, v150, c151, rfl, hv144, hv148, hv152, hS155⟩
  refine ⟨_, free_a (all_c rfl (all_c (SlN.free1 hv144) (all_c (SlF.free1 hv148) (all_c (SlF.free1 hv152) all_n)))), hS155,
      (pf_app (SlN.pf hv144 Reader.RO) (pf_app (SlF.pf hv148 (fun _ => rfl)) (pf_app (SlF.pf hv152 (fun _ => rfl)) pf_nil))), fun h156 hS157 => ?_⟩
  have hS158 : Sep h156 h.length (c143 ++ (c147 ++ (c151 ++ (c45 ++ (c49 ++ (c53 ++ (c69 ++ (c73 ++ (c77 ++ (c101 ++ (c105 ++ (c109 ++
      ([]))))))))))))) := by simpa only [List.append_assoc, List.nil_append] using hS157
  obtain ⟨v159, hx160, hF161⟩ := bind_some' hF141
  simp only [run_d3_call, B0, reduceIte, reduceEqDiff]
  refine call1d rfl (mapM1 (snap_agg (mapM1 snap_int (mapM1 (SlN.snap hv70 _ (Sep.m6 hS158) rfl Reader.RO) (mapM1 (SlF.snap hv74 (Sep.m7 hS158) rfl (fun _ => rfl) (fun _ => rfl))
      (mapM1 (SlF.snap hv78 (Sep.m8 hS158) rfl (fun _ => rfl) (fun _ => rfl)) mapM0))))) (mapM1 (snap_agg (mapM1 snap_int (mapM1 (SlN.snap hv144 _ hS158 rfl Reader.RO) (mapM1
      (SlF.snap hv148 (Sep.m1 hS158) rfl (fun _ => rfl) (fun _ => rfl)) (mapM1 (SlF.snap hv152 (Sep.m2 hS158) rfl (fun _ => rfl) (fun _ => rfl)) mapM0))))) mapM0))
      (laws_eqReaders_x (fun b hb => decide_eq_true hb) k v65 v139 v159 hx160) ?_
  simp only [d4_un, put1d_some, xnot, run_draw_nil, run_cond, B0, reduceIte, reduceEqDiff]
  refine cond_split (t := (!v159)) (fun hc162 => ?_) (fun hc162 => ?_)
  · rw [iteT hc162] at hF161
    simp only [run_seq, run_reg, run_mv, run_ops_nil, run_ret, B0, reduceIte, reduceEqDiff]
    have he := some_inj hF161
    subst he
    simp only [end_ret1, B0, reduceIte, reduceEqDiff]
    exact rfl
  rw [iteF hc162] at hF161
  simp only [run_skip, x5_15, run_seq, run_reg, run_mv, run_ops_nil, x5_14, f133, run_ld, B0, reduceIte, reduceEqDiff]
  refine put1_eq (v := .agg [.int .i64 v65.Generation, v68, v72, v76]) rfl ?_
  obtain ⟨v163, hx164, hF165⟩ := bind_some' hF161
  simp only [run_mv, run_call, B0, reduceIte, reduceEqDiff]
  refine call0 rfl (laws_markReaders_x hW k v65 v68 c69 hv70 v72 c73 hv74 v76 c77 hv78 1 v163 hx164 (Sep.m8 (Sep.m8 (Sep.m8 hS158)))) ?_
  rintro _ h172 ⟨c166, c168, c170, rfl, hv167, hv169, hv171, hS173⟩
  simp only [run_mv, run_ops_nil, x5_13, run_seq, run_reg, run_bin, put1_some, xlss, B0, reduceIte, reduceEqDiff]
  obtain ⟨v177, hx178, hF179⟩ := bind_some' hF165
  refine ops_j 5 (fun fr' h' => Sep h' h.length (c45 ++ (c49 ++ (c53 ++ (c101 ++ (c105 ++ (c109 ++ ([]))))))) ∧ fr' 62 = .bool v177 ∧ fr' 2 = .ref [.int .i64 v_0.Generation,
      lst Reader.cells v_0.Readers, lst cI v_0.Committed, lst cI v_0.Ends] 0 ∧ fr' 3 = .ref [.int .i64 v_1.Kind, .int .i64 v_1.K, .int .i64 v_1.Part,
      .int .i64 v_1.N] 0 ∧ fr' 6 = .ref [.int .i64 v41.1.Generation, v44, v48, v52] 0 ∧ fr' 7 = .bool v41.2 ∧ fr' 9 = .ref [.int .i64 v97.1.Generation, v100, v104,
      v108] 0 ∧ fr' 10 = .bool v97.2) (fun Q174 hN175 => ?_) ?_
  · simp only [List.take_succ_cons, List.take_zero]
    simp only [run_guard (g := 57), B0, reduceIte, reduceEqDiff]
    refine guard_split (t := (decide (v163.1 < 0))) (fun hg176 => ?_) (fun hg176 => ?_)
    · rw [iteT hg176] at hx178
      simp only [hg176, run_guard (g := 57), guard_off', run_pick, put1_some, xpick_t, run_ops_nil, run_nil, B0, reduceIte, reduceEqDiff]
      have e180 := some_inj hx178
      exact hN175 _ _ ⟨(Sep.m5 (Sep.m5 (Sep.m5 (Sep.m5 (Sep.m5 (Sep.m5 (Sep.dc ((Sep.dc ((Sep.dc ((Sep.dc ((Sep.dc ((Sep.dc (hS173)))))))))))))))))),
          by rw [← e180]; simp only [B0, reduceIte, reduceEqDiff], by simp only [f129, B0, reduceIte, reduceEqDiff], by simp only [f130, B0, reduceIte, reduceEqDiff],
          by simp only [f131, B0, reduceIte, reduceEqDiff], by simp only [f132, B0, reduceIte, reduceEqDiff], by simp only [f134, B0, reduceIte, reduceEqDiff], by simp only [f135,
          B0, reduceIte, reduceEqDiff]⟩
    · rw [iteF hg176] at hx178
      simp only [hg176, run_guard (g := 57), guard_false, f134, run_ld, B0, reduceIte, reduceEqDiff]
      refine put1_eq (v := .agg [.int .i64 v97.1.Generation, v100, v104, v108]) rfl ?_
      simp only [hg176, run_guard (g := 57), guard_false, f131, run_ld, B0, reduceIte, reduceEqDiff]
      refine put1_eq (v := .agg [.int .i64 v41.1.Generation, v44, v48, v52]) rfl ?_
      obtain ⟨v181, hx182, hF183⟩ := bind_some' hx178
      simp only [hg176, run_guard (g := 57), guard_false, run_call, B0, reduceIte, reduceEqDiff]
      refine call1 rfl (mapM1 (snap_agg (mapM1 snap_int (mapM1 (SlN.snap hv102 _ (Sep.m9 hS173) rfl Reader.RO) (mapM1 (SlF.snap hv106 (Sep.m10 hS173) rfl (fun _ => rfl)
          (fun _ => rfl)) (mapM1 (SlF.snap hv110 (Sep.m11 hS173) rfl (fun _ => rfl) (fun _ => rfl)) mapM0))))) (mapM1 (snap_agg (mapM1 snap_int (mapM1 (SlN.snap hv46 _
          (Sep.m6 hS173) rfl Reader.RO) (mapM1 (SlF.snap hv50 (Sep.m7 hS173) rfl (fun _ => rfl) (fun _ => rfl)) (mapM1 (SlF.snap hv54 (Sep.m8 hS173) rfl (fun _ => rfl)
          (fun _ => rfl)) mapM0))))) mapM0)) (laws_eqReaders_x (fun b hb => decide_eq_true hb) k v97.1 v41.1 v181 hx182) ?_
      simp only [hg176, run_guard (g := 57), guard_false, run_un, put1_some, xnot, run_pick, xpick_f, run_ops_nil, run_nil, B0, reduceIte, reduceEqDiff]
      have e184 := some_inj hF183
      exact hN175 _ _ ⟨(Sep.m5 (Sep.m5 (Sep.m5 (Sep.m5 (Sep.m5 (Sep.m5 (Sep.dc ((Sep.dc ((Sep.dc ((Sep.dc ((Sep.dc ((Sep.dc (hS173)))))))))))))))))),
          by rw [← e184]; simp only [B0, reduceIte, reduceEqDiff], by simp only [f129, B0, reduceIte, reduceEqDiff], by simp only [f130, B0, reduceIte, reduceEqDiff],
          by simp only [f131, B0, reduceIte, reduceEqDiff], by simp only [f132, B0, reduceIte, reduceEqDiff], by simp only [f134, B0, reduceIte, reduceEqDiff], by simp only [f135,
          B0, reduceIte, reduceEqDiff]⟩
  rintro fr185 h193 ⟨hS194, f186, f187, f188, f189, f190, f191, f192⟩
  simp only [List.drop_succ_cons, List.drop_zero]
  simp only [f186, run_mv, B0, reduceIte, reduceEqDiff]
  refine ops_j 4 (fun fr' h' => Sep h' h.length (c45 ++ (c49 ++ (c53 ++ (c101 ++ (c105 ++ (c109 ++ ([]))))))) ∧ fr' 67 = .bool (v177 ||
      (!(v97.2 == v41.2))) ∧ fr' 2 = .ref [.int .i64 v_0.Generation, lst Reader.cells v_0.Readers, lst cI v_0.Committed, lst cI v_0.Ends] 0 ∧ fr' 3 = .ref [.int .i64 v_1.Kind,
      .int .i64 v_1.K, .int .i64 v_1.Part, .int .i64 v_1.N] 0 ∧ fr' 6 = .ref [.int .i64 v41.1.Generation, v44, v48,
      v52] 0 ∧ fr' 7 = .bool v41.2 ∧ fr' 9 = .ref [.int .i64 v97.1.Generation, v100, v104, v108] 0) (fun Q195 hN196 => ?_) ?_
  · simp only [List.take_succ_cons, List.take_zero]
    simp only [run_guard (g := 63), B0, reduceIte, reduceEqDiff]
    refine guard_split (t := v177) (fun hg197 => ?_) (fun hg197 => ?_)
    · simp only [hg197, run_guard (g := 63), guard_off', run_pick, put1_some, xpick_t, run_ops_nil, run_nil, B0, reduceIte, reduceEqDiff]
      exact hN196 _ _ ⟨(Sep.m5 (Sep.m5 (Sep.m5 (Sep.m5 (Sep.m5 (Sep.m5 hS194)))))), by rw [orT hg197]; simp only [B0, reduceIte, reduceEqDiff], by simp only [f187, B0, reduceIte,
          reduceEqDiff], by simp only [f188, B0, reduceIte, reduceEqDiff], by simp only [f189, B0, reduceIte, reduceEqDiff], by simp only [f190, B0, reduceIte, reduceEqDiff],
          by simp only [f191, B0, reduceIte, reduceEqDiff]⟩
    · simp only [hg197, run_guard (g := 63), guard_false, f192, run_mv, f190, run_eqb, put1_some, xeqb_t, run_pick, xpick_f, run_ops_nil, run_nil, B0, reduceIte, reduceEqDiff]
      exact hN196 _ _ ⟨(Sep.m5 (Sep.m5 (Sep.m5 (Sep.m5 (Sep.m5 (Sep.m5 hS194)))))), by rw [orF hg197]; simp only [B0, reduceIte, reduceEqDiff], by simp only [f187, B0, reduceIte,
          reduceEqDiff], by simp only [f188, B0, reduceIte, reduceEqDiff], by simp only [f189, B0, reduceIte, reduceEqDiff], by simp only [f190, B0, reduceIte, reduceEqDiff],
          by simp only [f191, B0, reduceIte, reduceEqDiff]⟩
  rintro fr198 h205 ⟨hS206, f199, f200, f201, f202, f203, f204⟩
  simp only [List.drop_succ_cons, List.drop_zero]
  simp only [run_ops_nil, f199, run_cond, B0, reduceIte, reduceEqDiff]
  refine cond_split (t := (v177 || (!(v97.2 == v41.2)))) (fun hc207 => ?_) (fun hc207 => ?_)
  · rw [iteT hc207] at hF179
    simp only [run_seq, run_reg, run_mv, run_ops_nil, run_ret, B0, reduceIte, reduceEqDiff]
    have he := some_inj hF179
    subst he
    simp only [end_ret1, B0, reduceIte, reduceEqDiff]
    exact rfl
  rw [iteF hc207] at hF179
  simp only [run_skip, x5_12, run_seq, run_reg, run_mv, run_ops_nil, x5_11, f204, run_ld, B0, reduceIte, reduceEqDiff]
  refine put1_eq (v := .agg [.int .i64 v97.1.Generation, v100, v104, v108]) rfl ?_
  obtain ⟨v208, hx209, hF210⟩ := bind_some' hF179
  simp only [run_mv, run_call, B0, reduceIte, reduceEqDiff]
  refine call0 rfl (laws_markReaders_x hW k v97.1 v100 c101 hv102 v104 c105 hv106 v108 c109 hv110 1 v208 hx209 (Sep.m5 (Sep.m5 (Sep.m5 hS206)))) ?_
  rintro _ h217 ⟨c211, c213, c215, rfl, hv212, hv214, hv216, hS218⟩
  simp only [run_mv, run_ops_nil, x5_10, run_seq, run_reg, x5_9, f204, run_ld, B0, reduceIte, reduceEqDiff]
  refine put1_eq (v := .agg [.int .i64 v97.1.Generation, v100, v104, v108]) rfl ?_
  obtain ⟨v219, hx220, hF221⟩ := bind_some' hF210
  simp only [run_mv, run_call, B0, reduceIte, reduceEqDiff]
  refine call1 rfl (mapM1 (snap_agg (mapM1 snap_int (mapM1 (SlN.snap hv212 _ hS218 rfl Reader.RO) (mapM1 (SlF.snap hv214 (Sep.m1 hS218) rfl (fun _ => rfl) (fun _ => rfl)) (mapM1
      (SlF.snap hv216 (Sep.m2 hS218) rfl (fun _ => rfl) (fun _ => rfl)) mapM0))))) (mapM1 snap_int mapM0)) (laws_heldReaders_x (fun b hb => decide_eq_true hb) k
      (Readers_.mk v97.1.Generation v208.2.Readers v208.2.Committed v208.2.Ends) 1 v219 hx220) ?_
  simp only [run_mv, run_ops_nil, x5_8, run_seq, run_reg, run_bin, put1_some, xlss, run_cond, B0, reduceIte, reduceEqDiff]
  refine cond_split (t := (decide (v219 < 0))) (fun hc222 => ?_) (fun hc222 => ?_)
  · rw [iteT hc222] at hF221
    simp only [run_seq, run_reg, run_mv, run_ops_nil, run_ret, B0, reduceIte, reduceEqDiff]
    have he := some_inj hF221
    subst he
    simp only [end_ret1, B0, reduceIte, reduceEqDiff]
    exact rfl
  rw [iteF hc222] at hF221
  simp only [run_skip, x5_7, run_seq, run_reg, run_mv, run_bin, put1_some, xneq, run_ops_nil, run_cond, B0, reduceIte, reduceEqDiff]
  refine cond_split (t := (decide (v219 ≠ v208.1))) (fun hc223 => ?_) (fun hc223 => ?_)
  · rw [iteT hc223] at hF221
    simp only [run_seq, run_reg, run_mv, run_ops_nil, run_ret, B0, reduceIte, reduceEqDiff]
    have he := some_inj hF221
    subst he
    simp only [end_ret1, B0, reduceIte, reduceEqDiff]
    exact rfl
  rw [iteF hc223] at hF221
  simp only [run_skip, x5_6, run_seq, run_draw, d1_new, B0, reduceIte, reduceEqDiff]
  refine put2d_newC hS218 (fun b224 h225 hS226 => ?_)
  simp only [f200, d4_ld, B0, reduceIte, reduceEqDiff]
  refine put1d_eq (v := .agg [.int .i64 v_0.Generation, lst Reader.cells v_0.Readers, lst cI v_0.Committed, lst cI v_0.Ends]) rfl ?_
  obtain ⟨v228, hx229, hF230⟩ := bind_some' hF221
  simp only [run_d2_call, B0, reduceIte, reduceEqDiff]
  refine call2q rfl hS226 (mapM1 (snap_agg (mapM1 snap_int (mapM1 snap_lst (mapM1 snap_lst (mapM1 snap_lst mapM0))))) mapM0) (laws_toReaders_x
      (fun b hb => decide_eq_true hb) k v_0 v228 hx229) ?_
  rintro _ h243 ⟨v231, c232, v235, c236, v239, c240, rfl, hv233, hv237, hv241, hS244⟩
  refine ⟨_, free_a (all_c rfl (all_c (SlN.free1 hv233) (all_c (SlF.free1 hv237) (all_c (SlF.free1 hv241) all_n)))), hS244,
      (pf_app (SlN.pf hv233 Reader.RO) (pf_app (SlF.pf hv237 (fun _ => rfl)) (pf_app (SlF.pf hv241 (fun _ => rfl)) pf_nil))), fun h245 hS246 => ?_⟩
  have hS247 : Sep h245 h.length (c232 ++ (c236 ++ (c240 ++ ([Blk1 b224 [.int .i64 0, .nil, .nil,
      .nil] 29] ++ (c211 ++ (c213 ++ (c215 ++ (c45 ++ (c49 ++ (c53 ++ ([]))))))))))) := by simpa only [List.append_assoc, List.nil_append] using hS246
  simp only [f201, d1_ld, ldd_ref, B0, reduceIte, reduceEqDiff]
  refine put1d_eq (v := .agg [.int .i64 v_1.Kind, .int .i64 v_1.K, .int .i64 v_1.Part, .int .i64 v_1.N]) rfl ?_
  simp only [run_d3_call, B0, reduceIte, reduceEqDiff]
  refine call1d rfl (mapM1 (snap_agg (mapM1 snap_int (mapM1 snap_int (mapM1 snap_int (mapM1 snap_int mapM0))))) mapM0) (laws_toGroupStep_x
      (fun b hb => decide_eq_true hb) v_1 _ rfl) ?_
  obtain ⟨v248, hx249, hF250⟩ := bind_some' hF230
  simp only [run_d3_call, B0, reduceIte, reduceEqDiff]
  refine call2d rfl hS247 (mapM1 (snap_agg (mapM1 snap_int (mapM1 (SlN.snap hv233 _ hS247 rfl Reader.RO) (mapM1 (SlF.snap hv237 (Sep.m1 hS247) rfl (fun _ => rfl) (fun _ => rfl))
      (mapM1 (SlF.snap hv241 (Sep.m2 hS247) rfl (fun _ => rfl) (fun _ => rfl)) mapM0))))) (mapM1 (snap_agg (mapM1 snap_int (mapM1 snap_int (mapM1 snap_int
      (mapM1 snap_int mapM0))))) mapM0)) (impl_StepReaders_x (fun b hb => decide_eq_true hb) v228 (laws_toGroupStep v_1) v248 hx249) ?_
  rintro _ h263 ⟨v251, c252, v255, c256, v259, c260, rfl, hv253, hv257, hv261, hS264⟩
  refine ⟨_, free_t (all_c (free2_a (all_c rfl (all_c (SlN.free1 hv253) (all_c (SlF.free1 hv257) (all_c (SlF.free1 hv261) all_n))))) (all_c rfl all_n)), hS264,
      (pf_app (SlN.pf hv253 Reader.RO) (pf_app (SlF.pf hv257 (fun _ => rfl)) (pf_app (SlF.pf hv261 (fun _ => rfl)) pf_nil))), fun h265 hS266 => ?_⟩
  have hS267 : Sep h265 h.length (c252 ++ (c256 ++ (c260 ++ (c232 ++ (c236 ++ (c240 ++ ([Blk1 b224 [.int .i64 0, .nil, .nil,
      .nil] 29] ++ (c211 ++ (c213 ++ (c215 ++ (c45 ++ (c49 ++ (c53 ++ ([])))))))))))))) := by simpa only [List.append_assoc, List.nil_append] using hS266
  simp only [d4_mv, put1d_some, d4_ext, xext_0, d1_ext, xext_1, d3_st, B0, reduceIte, reduceEqDiff]
  refine put2d_stCx (us := [.int .i64 v248.1.Generation, v251, v255, v259]) rfl (cs' := [.int .i64 v248.1.Generation, v251, v255,
      v259]) (Sep.m6 hS267) hW rfl (all_c rfl (all_c (SlN.one hv253) (all_c (SlF.one hv257) (all_c (SlF.one hv261) all_n)))) (Nat.le_of_ble_eq_true rfl) rfl (fun h268 hS269 => ?_)
  simp only [d4_mv, put1d_some, run_draw_nil, B0, reduceIte, reduceEqDiff]
  refine frz_stepC hS269 hW (by simp only [B0, reduceIte, reduceEqDiff]) (fun h270 hS271 => ?_)
  simp only [run_frz_nil, x5_5, run_seq, run_reg, run_ld, B0, reduceIte, reduceEqDiff]
  refine put1_eq (v := .agg [.int .i64 v248.1.Generation, v251, v255, v259]) rfl ?_
  simp only [f202, run_ld, B0, reduceIte, reduceEqDiff]
  refine put1_eq (v := .agg [.int .i64 v41.1.Generation, v44, v48, v52]) rfl ?_
  obtain ⟨v272, hx273, hF274⟩ := bind_some' hF250
  simp only [run_call, B0, reduceIte, reduceEqDiff]
  refine call1 rfl (mapM1 (snap_agg (mapM1 snap_int (mapM1 (SlN.snap hv253 _ hS271 rfl Reader.RO) (mapM1 (SlF.snap hv257 (Sep.m1 hS271) rfl (fun _ => rfl) (fun _ => rfl)) (mapM1
      (SlF.snap hv261 (Sep.m2 hS271) rfl (fun _ => rfl) (fun _ => rfl)) mapM0))))) (mapM1 (snap_agg (mapM1 snap_int (mapM1 (SlN.snap hv46 _ (Sep.m9 hS271) rfl Reader.RO) (mapM1
      (SlF.snap hv50 (Sep.m10 hS271) rfl (fun _ => rfl) (fun _ => rfl)) (mapM1 (SlF.snap hv54 (Sep.m11 hS271) rfl (fun _ => rfl) (fun _ => rfl)) mapM0))))) mapM0))
      (laws_eqReaders_x (fun b hb => decide_eq_true hb) k v248.1 v41.1 v272 hx273) ?_
  simp only [run_un, put1_some, xnot, run_mv, B0, reduceIte, reduceEqDiff]
  refine ops_j 4 (fun fr' h' => Sep h' h.length (c211 ++ (c213 ++ (c215 ++ ([])))) ∧ fr' 95 = .bool ((!v272) || (!(v248.2 == v41.2))) ∧ fr' 9 = .ref [.int .i64 v97.1.Generation,
      v100, v104, v108] 0 ∧ fr' 12 = .int .i64 v208.1) (fun Q275 hN276 => ?_) ?_
  · simp only [List.take_succ_cons, List.take_zero]
    simp only [run_guard (g := 91), B0, reduceIte, reduceEqDiff]
    refine guard_split (t := (!v272)) (fun hg277 => ?_) (fun hg277 => ?_)
    · simp only [hg277, run_guard (g := 91), guard_off', run_pick, put1_some, xpick_t, run_ops_nil, run_nil, B0, reduceIte, reduceEqDiff]
      exact hN276 _ _ ⟨(Sep.m2 (Sep.m2 (Sep.m2 (Sep.dc (Sep.m3 (Sep.dc (Sep.m3 (Sep.dc (Sep.m3 (Sep.dc ((Sep.dc ((Sep.dc ((Sep.dc ((Sep.dc ((Sep.dc (hS271))))))))))))))))))))),
          by rw [orT hg277]; simp only [B0, reduceIte, reduceEqDiff], by simp only [f204, B0, reduceIte, reduceEqDiff], by simp only [B0, reduceIte, reduceEqDiff]⟩
    · simp only [hg277, run_guard (g := 91), guard_false, run_mv, f203, run_eqb, put1_some, xeqb_t, run_pick, xpick_f, run_ops_nil, run_nil, B0, reduceIte, reduceEqDiff]
      exact hN276 _ _ ⟨(Sep.m2 (Sep.m2 (Sep.m2 (Sep.dc (Sep.m3 (Sep.dc (Sep.m3 (Sep.dc (Sep.m3 (Sep.dc ((Sep.dc ((Sep.dc ((Sep.dc ((Sep.dc ((Sep.dc (hS271))))))))))))))))))))),
          by rw [orF hg277]; simp only [B0, reduceIte, reduceEqDiff], by simp only [f204, B0, reduceIte, reduceEqDiff], by simp only [B0, reduceIte, reduceEqDiff]⟩
  rintro fr278 h282 ⟨hS283, f279, f280, f281⟩
  simp only [List.drop_succ_cons, List.drop_zero]
  simp only [run_ops_nil, f279, run_cond, B0, reduceIte, reduceEqDiff]
  refine cond_split (t := ((!v272) || (!(v248.2 == v41.2)))) (fun hc284 => ?_) (fun hc284 => ?_)
  · rw [iteT hc284] at hF274
    simp only [run_seq, run_reg, run_mv, run_ops_nil, run_ret, B0, reduceIte, reduceEqDiff]
    have he := some_inj hF274
    subst he
    simp only [end_ret1, B0, reduceIte, reduceEqDiff]
    exact rfl
  rw [iteF hc284] at hF274
  simp only [run_skip, x5_4, run_seq, run_reg, run_mv, run_ops_nil, x5_3, f280, run_ld, B0, reduceIte, reduceEqDiff]
  refine put1_eq (v := .agg [.int .i64 v97.1.Generation, v100, v104, v108]) rfl ?_
  obtain ⟨v285, hx286, hF287⟩ := bind_some' hF274
  simp only [run_mv, run_call, B0, reduceIte, reduceEqDiff]
  refine call1 rfl (mapM1 (snap_agg (mapM1 snap_int (mapM1 (SlN.snap hv212 _ hS283 rfl Reader.RO) (mapM1 (SlF.snap hv214 (Sep.m1 hS283) rfl (fun _ => rfl) (fun _ => rfl)) (mapM1
      (SlF.snap hv216 (Sep.m2 hS283) rfl (fun _ => rfl) (fun _ => rfl)) mapM0))))) (mapM1 snap_int mapM0)) (laws_heldReaders_x (fun b hb => decide_eq_true hb) k
      (Readers_.mk v97.1.Generation v208.2.Readers v208.2.Committed v208.2.Ends) 1 v285 hx286) ?_
  simp only [run_mv, run_ops_nil, x5_2, run_seq, run_reg, run_bin, put1_some, xlss, run_cond, B0, reduceIte, reduceEqDiff]
  refine cond_split (t := (decide (v285 < 0))) (fun hc288 => ?_) (fun hc288 => ?_)
  · rw [iteT hc288] at hF287
    simp only [run_seq, run_reg, run_mv, run_ops_nil, run_ret, B0, reduceIte, reduceEqDiff]
    have he := some_inj hF287
    subst he
    simp only [end_ret1, B0, reduceIte, reduceEqDiff]
    exact rfl
  rw [iteF hc288] at hF287
  simp only [run_skip, x5_1, run_seq, run_reg, run_mv, f281, run_bin, put1_some, xneq, run_ops_nil, run_cond, B0, reduceIte, reduceEqDiff]
  refine cond_split (t := (decide (v285 ≠ v208.1))) (fun hc289 => ?_) (fun hc289 => ?_)
  · rw [iteT hc289] at hF287
    simp only [run_seq, run_reg, run_mv, run_ops_nil, run_ret, B0, reduceIte, reduceEqDiff]
    have he := some_inj hF287
    subst he
    simp only [end_ret1, B0, reduceIte, reduceEqDiff]
    exact rfl
  rw [iteF hc289] at hF287
  simp only [run_skip, run_seq, run_reg, run_mv, run_ops_nil, run_ret, B0, reduceIte, reduceEqDiff]
  have he := some_inj hF287
  subst he
  simp only [end_ret1, B0, reduceIte, reduceEqDiff]
  exact rfl
end Go.Proofs.Ytdhibknhejhfaaa.X
