/- The functions' code comes to what the plain functions say (2). -/
import Derived.Test.YtpkiieniipenjaaXAH1
set_option linter.unusedVariables false
set_option linter.unusedSimpArgs false
set_option maxRecDepth 100000
namespace Go.Proofs.Ytpkiieniipenjaa.X
open Go
open Nat (reduceEqDiff)
theorem impl_PlaySnap_x {W : Nat → Bool} {h : Heap} (hW : ∀ b,
    h.length ≤ b → W b = true) (procs_0 : Int) (amount_1 : Int) (l_2 : List SnapStep) (r : Snap × (List Bool) × Bool)
    (hF : impl_PlaySnap procs_0 amount_1 l_2 = some r) : Ret E W 7 [.int .i64 procs_0, .int .i64 amount_1,
    lst SnapStep.cells l_2] h (fun v h' => ∃ rv0_0 rc0_0 rv0_1 rc0_1 rv0_2 rc0_2 rv1 rc1, v = .tup [.agg [rv0_0, rv0_1, rv0_2, .int .i64 r.1.Sent, .int .i64 r.1.Total], rv1,
    .bool r.2.2] ∧ SlF cI 1 3 rv0_0 r.1.Amounts rc0_0 ∧ SlN Chan.R 3 74 rv0_1 r.1.Chans rc0_1 ∧ SlN Picture.R 4 76 rv0_2 r.1.Pictures rc0_2 ∧ SlF cB 1 4 rv1 r.2.1 rc1 ∧ Sep h' h.length
    (rc0_0 ++ (rc0_1 ++ (rc0_2 ++ (rc1 ++ ([])))))) := by
  refine Ret.of (fn := x7) rfl (Run.of ?_)
  unfold impl_PlaySnap at hF
  have zf0 : argFr [.int .i64 procs_0, .int .i64 amount_1, lst SnapStep.cells l_2] 0 = .int .i64 procs_0 := rfl
  have zf1 : argFr [.int .i64 procs_0, .int .i64 amount_1, lst SnapStep.cells l_2] 1 = .int .i64 amount_1 := rfl
  have zf2 : argFr [.int .i64 procs_0, .int .i64 amount_1, lst SnapStep.cells l_2] 2 = lst SnapStep.cells l_2 := rfl
  generalize argFr [.int .i64 procs_0, .int .i64 amount_1, lst SnapStep.cells l_2] = fr0 at zf0 zf1 zf2 ⊢
  have hS : Sep h h.length [] := Sep.nil h
  simp only [x7, run_seq, run_reg, run_new, B0, reduceIte, reduceEqDiff]
  refine put2_newC hS (fun b1 h2 hS3 => ?_)
  simp only [run_mv, run_ops_nil, x7_11, run_seq, run_reg, zf0, run_call, B0, reduceIte, reduceEqDiff]
  refine call1 rfl (mapM1 snap_int (mapM1 snap_int (mapM1 snap_int mapM0))) (impl_in_x (fun b hb => decide_eq_true hb) procs_0 2 4 _ rfl) ?_
  simp only [run_un, put1_some, xnot, run_mv, B0, reduceIte, reduceEqDiff]
  refine ops_j 4 (fun fr' h' => Sep h' h.length ([Blk1 b1 [.nil, .nil, .nil, .int .i64 0,
      .int .i64 0] 30] ++ ([])) ∧ fr' 20 = .bool ((!(impl_in procs_0 2 4)) ||
      (!(impl_in amount_1 0 250))) ∧ fr' 0 = .int .i64 procs_0 ∧ fr' 1 = .int .i64 amount_1 ∧ fr' 2 = lst SnapStep.cells l_2 ∧ fr' 6 = .ptr b1 0) (fun Q5 hN6 => ?_) ?_
  · simp only [List.take_succ_cons, List.take_zero]
    simp only [run_guard (g := 16), B0, reduceIte, reduceEqDiff]
    refine guard_split (t := (!(impl_in procs_0 2 4))) (fun hg7 => ?_) (fun hg7 => ?_)
    · simp only [hg7, run_guard (g := 16), guard_off', run_pick, put1_some, xpick_t, run_ops_nil, run_nil, B0, reduceIte, reduceEqDiff]
      exact hN6 _ _ ⟨hS3, by rw [orT hg7]; simp only [B0, reduceIte, reduceEqDiff], by simp only [zf0, B0, reduceIte, reduceEqDiff], by simp only [zf1, B0, reduceIte,
          reduceEqDiff], by simp only [zf2, B0, reduceIte, reduceEqDiff], by simp only [B0, reduceIte, reduceEqDiff]⟩
    · simp only [hg7, run_guard (g := 16), guard_false, zf1, run_mv, run_call, B0, reduceIte, reduceEqDiff]
      refine call1 rfl (mapM1 snap_int (mapM1 snap_int (mapM1 snap_int mapM0))) (impl_in_x (fun b hb => decide_eq_true hb) amount_1 0 250 _ rfl) ?_
      simp only [hg7, run_guard (g := 16), guard_false, run_un, put1_some, xnot, run_pick, xpick_f, run_ops_nil, run_nil, B0, reduceIte, reduceEqDiff]
      exact hN6 _ _ ⟨hS3, by rw [orF hg7]; simp only [B0, reduceIte, reduceEqDiff], by simp only [zf0, B0, reduceIte, reduceEqDiff], by simp only [zf1, B0, reduceIte,
          reduceEqDiff], by simp only [zf2, B0, reduceIte, reduceEqDiff], by simp only [B0, reduceIte, reduceEqDiff]⟩
  rintro fr8 h14 ⟨hS15, f9, f10, f11, f12, f13⟩
  simp only [List.drop_succ_cons, List.drop_zero]
  simp only [f9, run_mv, B0, reduceIte, reduceEqDiff]
  refine ops_j 4 (fun fr' h' => Sep h' h.length ([Blk1 b1 [.nil, .nil, .nil, .int .i64 0,
      .int .i64 0] 30] ++ ([])) ∧ fr' 25 = .bool (((!(impl_in procs_0 2 4)) || (!(impl_in amount_1 0 250))) || (decide ((80 : Int) <
      (List.length l_2 : Int)))) ∧ fr' 0 = .int .i64 procs_0 ∧ fr' 1 = .int .i64 amount_1 ∧ fr' 2 = lst SnapStep.cells l_2 ∧ fr' 6 = .ptr b1 0) (fun Q16 hN17 => ?_) ?_
  · simp only [List.take_succ_cons, List.take_zero]
    simp only [run_guard (g := 21), B0, reduceIte, reduceEqDiff]
    refine guard_split (t := ((!(impl_in procs_0 2 4)) || (!(impl_in amount_1 0 250)))) (fun hg18 => ?_) (fun hg18 => ?_)
    · simp only [hg18, run_guard (g := 21), guard_off', run_pick, put1_some, xpick_t, run_ops_nil, run_nil, B0, reduceIte, reduceEqDiff]
      exact hN17 _ _ ⟨hS15, by rw [orT hg18]; simp only [B0, reduceIte, reduceEqDiff], by simp only [f10, B0, reduceIte, reduceEqDiff], by simp only [f11, B0, reduceIte,
          reduceEqDiff], by simp only [f12, B0, reduceIte, reduceEqDiff], by simp only [f13, B0, reduceIte, reduceEqDiff]⟩
    · simp only [hg18, run_guard (g := 21), guard_false, f12, run_mv, run_len, put1_some, xlen_lst, run_bin, xgtr, run_pick, xpick_f, run_ops_nil, run_nil, B0, reduceIte,
        reduceEqDiff]
      exact hN17 _ _ ⟨hS15, by rw [orF hg18]; simp only [B0, reduceIte, reduceEqDiff], by simp only [f10, B0, reduceIte, reduceEqDiff], by simp only [f11, B0, reduceIte,
          reduceEqDiff], by simp only [f12, B0, reduceIte, reduceEqDiff], by simp only [f13, B0, reduceIte, reduceEqDiff]⟩
  rintro fr19 h25 ⟨hS26, f20, f21, f22, f23, f24⟩
  simp only [List.drop_succ_cons, List.drop_zero]
  simp only [run_ops_nil, x7_2, f20, run_cond, B0, reduceIte, reduceEqDiff]
  refine cond_split (t := (((!(impl_in procs_0 2 4)) || (!(impl_in amount_1 0 250))) || (decide ((80 : Int) < (List.length l_2 : Int))))) (fun hc27 => ?_) (fun hc27 => ?_)
  · rw [iteT hc27] at hF
    simp only [x7_1, run_seq, run_reg, run_build, evp, B0, reduceIte, reduceEqDiff]
    refine put1_eq (v := .agg [.nil, .nil, .nil, .int .i64 0, .int .i64 0]) rfl ?_
    simp only [f24, run_st, B0, reduceIte, reduceEqDiff]
    refine put2_stCx (us := [.nil, .nil, .nil, .int .i64 0, .int .i64 0]) rfl (cs' := [.nil, .nil, .nil, .int .i64 0,
        .int .i64 0]) hS26 hW rfl rfl (Nat.le_of_ble_eq_true rfl) rfl (fun h28 hS29 => ?_)
    simp only [run_mv, run_ops_nil, run_ret, B0, reduceIte, reduceEqDiff]
    have he := some_inj hF
    subst he
    refine end_ret_m (mapM1 (res_cell (bb := b1) (oo := 0) (v := .agg [.nil, .nil, .nil, .int .i64 0, .int .i64 0]) (by simp only [f24, B0, reduceIte,
        reduceEqDiff]) ((xld_bs (Sep.bk _ _ _ hS29)).trans rfl)) (mapM1 (res_t (v := .nil) (by simp only [B0, reduceIte,
        reduceEqDiff])) (mapM1 (res_t (v := .bool false) (by simp only [B0, reduceIte, reduceEqDiff])) mapM0))) ?_
    exact ⟨.nil, [], .nil, [], .nil, [], .nil, [], by first | trivial | rfl, SlF.nil, SlN.nil, SlN.nil, SlF.nil, ((Sep.dc (hS29)) : Sep _ h.length ([]))⟩
  rw [iteF hc27] at hF
  obtain ⟨v30, hx31, hF32⟩ := bind_some' hF
  simp only [run_skip, x7_10, run_seq, run_reg, f21, run_mv, f22, run_call, B0, reduceIte, reduceEqDiff]
  refine call2 rfl hS26 (mapM1 snap_int (mapM1 snap_int mapM0)) (impl_newSnap_x (fun b hb => decide_eq_true hb) procs_0 amount_1 v30 hx31) ?_
  rintro _ h45 ⟨v33, c34, v37, c38, v41, c42, rfl, hv35, hv39, hv43, hS46⟩
  refine ⟨_, free_a (all_c (SlF.free1 hv35) (all_c (SlN.free1 hv39) (all_c (SlN.free1 hv43) (all_c rfl (all_c rfl all_n))))), hS46,
      (pf_app (SlF.pf hv35 (fun _ => rfl)) (pf_app (SlN.pf hv39 Chan.RO) (pf_app (SlN.pf hv43 Picture.RO) pf_nil))), fun h47 hS48 => ?_⟩
  have hS49 : Sep h47 h.length (c34 ++ (c38 ++ (c42 ++ ([Blk1 b1 [.nil, .nil, .nil, .int .i64 0, .int .i64 0] 30] ++ ([]))))) := by simpa only [List.append_assoc,
      List.nil_append] using hS48
  simp only [run_new, B0, reduceIte, reduceEqDiff]
  refine put2_newC hS49 (fun b50 h51 hS52 => ?_)
  simp only [run_st, B0, reduceIte, reduceEqDiff]
  refine put2_stCx (us := [v33, v37, v41, .int .i64 v30.Sent, .int .i64 v30.Total]) rfl (cs' := [v33, v37, v41, .int .i64 v30.Sent,
      .int .i64 v30.Total]) hS52 hW rfl (all_c (SlF.one hv35) (all_c (SlN.one hv39) (all_c (SlN.one hv43) (all_c rfl (all_c rfl all_n))))) (Nat.le_of_ble_eq_true rfl) rfl
      (fun h54 hS55 => ?_)
  simp only [run_ops_nil, x7_9, run_seq, run_reg, run_buildS, evp, B0, reduceIte, reduceEqDiff]
  refine put2_buildSF (n := 1) (f := cB) ([] : List Bool) hS55 rfl rfl (fun v56 c57 h58 hv59 hS60 => ?_)
  simp only [run_mv, run_ops_nil, x7_8, run_seq, run_reg, f23, run_len, put1_some, xlen_lst, B0, reduceIte, reduceEqDiff]
  obtain ⟨oc94, hX96, hk97⟩ := jn_some hF32
  simp only [x7_6]
  refine rangeL_j (σ := (List Bool) × Snap × (List Int) × (List Chan) × (List Picture)) l_2
      (fun i92 x93 s151 => impl_PlaySnap_b1 i92 x93 s151.1 s151.2.1 s151.2.2.1 s151.2.2.2.1 s151.2.2.2.2) (fun s fr' h' => ∃ v79 c80 c84 c87 c90,
      fr' 6 = .ptr b1 0 ∧ fr' 9 = .ptr b50 0 ∧ fr' 10 = v79 ∧ fr' 31 = lst SnapStep.cells l_2 ∧ SlF cB 1 4 v79 s.1 c80 ∧ SlF cI 1 3 v33 s.2.2.1 c84 ∧ SlN Chan.R 3 74 v37 s.2.2.2.1 c87 ∧ SlN Picture.R 4 76 v41 s.2.2.2.2 c90 ∧ Sep h' h.length
      ([Blk1 b1 [.nil, .nil, .nil, .int .i64 0, .int .i64 0] 30] ++ ([Blk1 b50 [v33, v37, v41, .int .i64 s.2.1.Sent,
      .int .i64 s.2.1.Total] 30] ++ (c80 ++ (c84 ++ (c87 ++ (c90 ++ ([])))))))) hX96 ⟨v56, c57, c34, c38, c42, by simp only [f24, B0, reduceIte, reduceEqDiff], by simp only [B0,
      reduceIte, reduceEqDiff], by simp only [B0, reduceIte, reduceEqDiff], by simp only [B0, reduceIte, reduceEqDiff], hv59, hv35, hv39, hv43,
      (Sep.m5 (Sep.m4 (Sep.m3 (Sep.m4 (Sep.m4 (Sep.m4 hS60))))))⟩ (by simp only [B0, reduceIte, reduceEqDiff]) (by simp only [B0, reduceIte,
      reduceEqDiff]) (fun _ _ _ h => h) rfl rfl (fun _ _ _ _ h => h) (fun _ _ _ _ h => h) (fun _ _ _ _ h => h) (by decide) ?_ ?_
  · rintro i92 x93 ⟨s77, s82, s83, s86, s89⟩ fr106 h107 hx113 ⟨v79, c80, c84, c87, c90, f109, f110, f111, f112, hv81, hv85, hv88, hv91,
      hS108⟩ f114 f115 oc95 hF98 hr99 Q100 hN101 hB105 hK102 hR103 hE104
    dsimp only at *
    unfold impl_PlaySnap_b1 at hF98
    simp only [x7_4, run_seq, run_reg, f112, f114, run_ia, B0, reduceIte, reduceEqDiff]
    refine put1_eq (v := .ref (SnapStep.cells x93) 0) (xia_lstN hx113 rfl) ?_
    simp only [run_ld, B0, reduceIte, reduceEqDiff]
    refine put1_eq (v := .agg [.int .i64 x93.Kind, .int .i64 x93.K, .int .i64 x93.N]) rfl ?_
    simp only [run_new, B0, reduceIte, reduceEqDiff]
    refine put2_newC hS108 (fun b116 h117 hS118 => ?_)
    simp only [run_st, B0, reduceIte, reduceEqDiff]
    refine put2_stCx (us := [.int .i64 x93.Kind, .int .i64 x93.K, .int .i64 x93.N]) rfl (cs' := [.int .i64 x93.Kind, .int .i64 x93.K,
        .int .i64 x93.N]) hS118 hW rfl rfl (Nat.le_of_ble_eq_true rfl) rfl (fun h120 hS121 => ?_)
    simp only [run_ops_nil, B0, reduceIte, reduceEqDiff]
    refine frz_stepC hS121 hW (by simp only [B0, reduceIte, reduceEqDiff]) (fun h122 hS123 => ?_)
    simp only [run_frz_nil, x7_3, run_reg, f111, run_mv, run_ld, B0, reduceIte, reduceEqDiff]
    refine put1_eq (v := .agg [.int .i64 x93.Kind, .int .i64 x93.K, .int .i64 x93.N]) rfl ?_
    obtain ⟨v124, hx125, hF126⟩ := bind_some' hF98
    simp only [f110, run_call, B0, reduceIte, reduceEqDiff]
    refine call0 rfl (impl_Snap_step_x hW b50 (Snap.mk s83 s86 s89 s82.Sent s82.Total) v33 c84 hv85 v37 c87 hv88 v41 c90 hv91 x93 v124 hx125 (Sep.m4 (Sep.m5 (Sep.m5
        (Sep.m5 hS123))))) ?_
    rintro _ h133 ⟨c127, c129, c131, rfl, hv128, hv130, hv132, hS134⟩
    simp only [run_buildS, evp, B0, reduceIte, reduceEqDiff]
    refine put2_buildSF (n := 1) (f := cB) [v124.1] hS134 rfl rfl (fun v135 c136 h137 hv138 hS139 => ?_)
    simp only [run_app, B0, reduceIte, reduceEqDiff]
    obtain ⟨l141, hx142, hF143⟩ := bind_some' hF126
    refine put2_appF (f := cB) hv81 (Sep.m6 hS139) hW (fun _ => rfl) (fun _ => rfl) (SlF.first hv138 hS139 (fun _ => rfl)) hx142 (fun v144 c145 h146 hv147 hS148 => ?_)
    simp only [run_mv, run_ops_nil, run_nil, B0, reduceIte, reduceEqDiff]
    have e150 := some_inj hF143
    exact hN101 _ _ _ e150.symm ⟨v144, c145, c127, c129, c131, by simp only [f109, B0, reduceIte, reduceEqDiff], by simp only [f110, B0, reduceIte, reduceEqDiff],
        by simp only [B0, reduceIte, reduceEqDiff], by simp only [f112, B0, reduceIte, reduceEqDiff], hv147, hv128, hv130, hv132,
        (Sep.m5 (Sep.m4 (Sep.m3 (Sep.m4 (Sep.m4 (Sep.m4 (Sep.dc (Sep.m1 hS148))))))))⟩ (by simp only [f114, B0, reduceIte, reduceEqDiff]) (by simp only [f115, B0, reduceIte,
        reduceEqDiff])
  rintro ⟨s152, s157, s158, s161, s164⟩ fr167 h168 rfl ⟨v154, c155, c159, c162, c165, f170, f171, f172, f173, hv156, hv160, hv163, hv166, hS169⟩
  dsimp only [jnO] at hk97
  dsimp only at *
  unfold impl_PlaySnap_j1 at hk97
  simp only [x7_7, run_seq, run_reg, f171, run_ld, B0, reduceIte, reduceEqDiff]
  refine put1_eq (v := .agg [v33, v37, v41, .int .i64 s157.Sent, .int .i64 s157.Total]) ((xld_bs (Sep.bk _ _ _ (Sep.m1 hS169))).trans rfl) ?_
  simp only [f172, run_mv, f170, run_st, B0, reduceIte, reduceEqDiff]
  refine put2_stCx (us := [v33, v37, v41, .int .i64 s157.Sent, .int .i64 s157.Total]) rfl (cs' := [v33, v37, v41, .int .i64 s157.Sent,
      .int .i64 s157.Total]) hS169 hW rfl (all_c (SlF.one hv160) (all_c (SlN.one hv163) (all_c (SlN.one hv166) (all_c rfl (all_c rfl all_n))))) (Nat.le_of_ble_eq_true rfl) rfl
      (fun h174 hS175 => ?_)
  simp only [run_mv, run_ops_nil, run_ret, B0, reduceIte, reduceEqDiff]
  have he := some_inj hk97
  subst he
  refine end_ret_m (mapM1 (res_cell (bb := b1) (oo := 0) (v := .agg [v33, v37, v41, .int .i64 s157.Sent, .int .i64 s157.Total]) (by simp only [f170, B0, reduceIte,
      reduceEqDiff]) ((xld_bs (Sep.bk _ _ _ hS175)).trans rfl)) (mapM1 (res_t (v := v154) (by simp only [B0, reduceIte,
      reduceEqDiff])) (mapM1 (res_t (v := .bool true) (by simp only [B0, reduceIte, reduceEqDiff])) mapM0))) ?_
  exact ⟨v33, c159, v37, c162, v41, c165, v154, c155, by first | trivial | rfl, hv160, hv163, hv166, hv156, (Sep.m3 (Sep.m3 (Sep.m3 (Sep.dc ((Sep.dc (hS175)))))))⟩
theorem spec_l8Chans_x {W : Nat → Bool} {h : Heap} (hW : ∀ b,
    h.length ≤ b → W b = true) (k : Nat) (procs_0 : Int) (r : List Chan) (hF : spec_l8Chans k procs_0 = some r) : Ret E W 65 [.int .i64 procs_0] h (fun v h' => ∃ rv0 rc0,
    v = rv0 ∧ SlN Chan.R 3 74 rv0 r rc0 ∧ Sep h' h.length (rc0 ++ ([]))) := by
  refine Ret.of (fn := x65) rfl (Run.of ?_)
  unfold spec_l8Chans at hF
  have zf0 : argFr [.int .i64 procs_0] 0 = .int .i64 procs_0 := rfl
  generalize argFr [.int .i64 procs_0] = fr0 at zf0 ⊢
  have hS : Sep h h.length [] := Sep.nil h
  simp only [x65, run_seq, run_reg, run_mv, run_ops_nil, x65_14, x65_13, B0, reduceIte, reduceEqDiff]
  obtain ⟨oc15, hX17, hk18⟩ := jn_some hF
  simp only [x65_12]
  refine loopF_j (σ := (List Chan) × Int) (fun s106 => spec_l8Chans_b2 k procs_0 s106.1 s106.2) (fun s fr' h' => ∃ v9 c10,
      fr' 0 = .int .i64 procs_0 ∧ fr' 3 = v9 ∧ fr' 4 = .int .i64 s.2 ∧ SlN Chan.R 3 74 v9 s.1 c10 ∧ Sep h' h.length (c10 ++ ([]))) hX17 ⟨.nil, [], by simp only [zf0, B0,
      reduceIte, reduceEqDiff], by simp only [B0, reduceIte, reduceEqDiff], by simp only [B0, reduceIte, reduceEqDiff], SlN.nil,
      (hS : Sep _ h.length ([]))⟩ (fun _ _ _ h => h) ?_ ?_
  · rintro ⟨s7, s12⟩ fr27 h28 ⟨v9, c10, f30, f31, f32, hv11, hS29⟩ oc16 hF19 hr20 Q21 hN22 hK23 hR24 hE25
    dsimp only at *
    unfold spec_l8Chans_b2 at hF19
    simp only [x65_10, run_seq, run_reg, f32, run_mv, f30, run_bin, put1_some, xlss, run_ops_nil, run_cond, B0, reduceIte, reduceEqDiff]
    refine cond_split (t := (decide (s12 < procs_0))) (fun hc34 => ?_) (fun hc34 => ?_)
    · rw [iteT hc34] at hF19
      simp only [run_skip, x65_9, run_seq, run_block, x65_8, run_reg, run_mv, run_ops_nil, B0, reduceIte, reduceEqDiff]
      obtain ⟨oc49, hX51, hk52⟩ := jn_some hF19
      simp only [x65_7]
      refine loopF_j (σ := (List Chan) × Int) (fun s89 => spec_l8Chans_b1 procs_0 s12 s89.1 s89.2) (fun s fr' h' => ∃ v43 c44,
          fr' 0 = .int .i64 procs_0 ∧ fr' 3 = v43 ∧ fr' 4 = .int .i64 s12 ∧ fr' 5 = .int .i64 s.2 ∧ SlN Chan.R 3 74 v43 s.1 c44 ∧ Sep h' h.length (c44 ++ ([]))) hX51 ⟨v9, c10,
          by simp only [f30, B0, reduceIte, reduceEqDiff], by simp only [f31, B0, reduceIte, reduceEqDiff], by simp only [f32, B0, reduceIte, reduceEqDiff], by simp only [B0,
          reduceIte, reduceEqDiff], hv11, hS29⟩ (fun _ _ _ h => h) ?_ ?_
      · rintro ⟨s41, s46⟩ fr61 h62 ⟨v43, c44, f64, f65, f66, f67, hv45, hS63⟩ oc50 hF53 hr54 Q55 hN56 hK57 hR58 hE59
        dsimp only at *
        unfold spec_l8Chans_b1 at hF53
        simp only [x65_5, run_seq, run_reg, f67, run_mv, f64, run_bin, put1_some, xlss, run_ops_nil, run_cond, B0, reduceIte, reduceEqDiff]
        refine cond_split (t := (decide (s46 < procs_0))) (fun hc69 => ?_) (fun hc69 => ?_)
        · rw [iteT hc69] at hF53
          simp only [run_skip, x65_4, run_seq, run_block, x65_3, run_reg, f66, run_mv, f67, run_bin, put1_some, xneq, run_ops_nil, x65_2, run_cond, B0, reduceIte, reduceEqDiff]
          refine cond_split (t := (decide (s12 ≠ s46))) (fun hc70 => ?_) (fun hc70 => ?_)
          · rw [iteT hc70] at hF53
            simp only [x65_1, run_reg, f65, run_mv, f66, f67, run_build, evp, B0, reduceIte, reduceEqDiff]
            refine put1_eq (v := .agg [.int .i64 s12, .int .i64 s46, .nil]) rfl ?_
            simp only [run_buildS, evp, B0, reduceIte, reduceEqDiff]
            refine put2_buildSN (R := Chan.R) (n := 3) (cs := [.int .i64 s12, .int .i64 s46,
                .nil]) (os := []) (Sep.bi1 (c1 := []) (S := (c44 ++ ([]))) (hS63 : Sep _ h.length (c44 ++ ([])))) rfl (Chan.RI (x := (Chan.mk s12 s46 [])) SlF.nil) rfl
                (fun v71 c72 h73 hv74 hS75 => ?_)
            simp only [run_app, B0, reduceIte, reduceEqDiff]
            obtain ⟨l77, hx78, hF79⟩ := bind_some' hF53
            refine put2_appN (R := Chan.R) (c := c44) hv45 hv74 (Sep.m1 hS75) hW Chan.RO.len Chan.RO.one hx78 (fun v80 c81 h82 hv83 hS84 => ?_)
            simp only [run_mv, run_ops_nil, run_blk, run_reg, f67, run_bin, put1_some, xadd, run_nil, B0, reduceIte, reduceEqDiff]
            have e86 := some_inj hF79
            exact hN56 _ _ _ e86.symm ⟨v80, c81, by simp only [f64, B0, reduceIte, reduceEqDiff], by simp only [B0, reduceIte, reduceEqDiff], by simp only [f66, B0, reduceIte,
                reduceEqDiff], by simp only [B0, reduceIte, reduceEqDiff], hv83, hS84⟩
          rw [iteF hc70] at hF53
          simp only [run_skip, run_blk, run_reg, f67, run_mv, run_bin, put1_some, xadd, run_ops_nil, run_nil, B0, reduceIte, reduceEqDiff]
          have e87 := some_inj hF53
          exact hN56 _ _ _ e87.symm ⟨v43, c44, by simp only [f64, B0, reduceIte, reduceEqDiff], by simp only [f65, B0, reduceIte, reduceEqDiff], by simp only [f66, B0, reduceIte,
              reduceEqDiff], by simp only [B0, reduceIte, reduceEqDiff], hv45, hS63⟩
        rw [iteF hc69] at hF53
        simp only [run_exit, out_code, out_nil, B0, reduceIte, reduceEqDiff]
        have e88 := some_inj hF53
        exact hK57 _ _ _ e88.symm ⟨v43, c44, by simp only [f64, B0, reduceIte, reduceEqDiff], by simp only [f65, B0, reduceIte, reduceEqDiff], by simp only [f66, B0, reduceIte,
            reduceEqDiff], by simp only [f67, B0, reduceIte, reduceEqDiff], hv45, hS63⟩
      rintro ⟨s90, s95⟩ fr96 h97 rfl ⟨v92, c93, f99, f100, f101, f102, hv94, hS98⟩
      dsimp only [jnO] at hk52
      dsimp only at *
      unfold spec_l8Chans_j1 at hk52
      simp only [run_blk, run_reg, f101, run_mv, run_bin, put1_some, xadd, run_ops_nil, run_nil, B0, reduceIte, reduceEqDiff]
      have e103 := some_inj hk52
      exact hN22 _ _ _ e103.symm ⟨v92, c93, by simp only [f99, B0, reduceIte, reduceEqDiff], by simp only [f100, B0, reduceIte, reduceEqDiff], by simp only [B0, reduceIte,
          reduceEqDiff], hv94, hS98⟩
    rw [iteF hc34] at hF19
    simp only [run_exit, out_code, out_nil, B0, reduceIte, reduceEqDiff]
    have e105 := some_inj hF19
    exact hK23 _ _ _ e105.symm ⟨v9, c10, by simp only [f30, B0, reduceIte, reduceEqDiff], by simp only [f31, B0, reduceIte, reduceEqDiff], by simp only [f32, B0, reduceIte,
        reduceEqDiff], hv11, hS29⟩
  rintro ⟨s107, s112⟩ fr113 h114 rfl ⟨v109, c110, f116, f117, f118, hv111, hS115⟩
  dsimp only [jnO] at hk18
  dsimp only at *
  unfold spec_l8Chans_j2 at hk18
  simp only [run_seq, run_reg, f117, run_mv, run_ops_nil, run_ret, B0, reduceIte, reduceEqDiff]
  have he := some_inj hk18
  subst he
  simp only [end_ret1, B0, reduceIte, reduceEqDiff]
  exact ⟨v109, c110, by first | trivial | rfl, hv111, hS115⟩
theorem spec_l1In_x {W : Nat → Bool} {h : Heap} (hW : ∀ b,
    h.length ≤ b → W b = true) (n_0 : Int) (lo_1 : Int) (hi_2 : Int) (r : Bool) (hF : some (spec_l1In n_0 lo_1 hi_2) = some r) : Ret E W 66 [.int .i64 n_0, .int .i64 lo_1,
    .int .i64 hi_2] h (fun v h' => cut h.length h' E.sz false 9 v = some (.bool r)) := by
  refine Ret.of (fn := x66) rfl (Run.of ?_)
  unfold spec_l1In at hF
  have zf0 : argFr [.int .i64 n_0, .int .i64 lo_1, .int .i64 hi_2] 0 = .int .i64 n_0 := rfl
  have zf1 : argFr [.int .i64 n_0, .int .i64 lo_1, .int .i64 hi_2] 1 = .int .i64 lo_1 := rfl
  have zf2 : argFr [.int .i64 n_0, .int .i64 lo_1, .int .i64 hi_2] 2 = .int .i64 hi_2 := rfl
  generalize argFr [.int .i64 n_0, .int .i64 lo_1, .int .i64 hi_2] = fr0 at zf0 zf1 zf2 ⊢
  have hS : Sep h h.length [] := Sep.nil h
  simp only [x66, run_seq, run_reg, run_mv, run_ops_nil, x66_1, zf0, zf1, run_bin, put1_some, xgeq, B0, reduceIte, reduceEqDiff]
  refine ops_j 4 (fun fr' h' => Sep h' h.length ([]) ∧ fr' 14 = .bool ((decide (lo_1 ≤ n_0)) && (decide (n_0 ≤ hi_2)))) (fun Q1 hN2 => ?_) ?_
  · simp only [List.take_succ_cons, List.take_zero]
    simp only [run_guard (g := 10), B0, reduceIte, reduceEqDiff]
    refine guard_split (t := (decide (lo_1 ≤ n_0))) (fun hg3 => ?_) (fun hg3 => ?_)
    · simp only [hg3, run_guard (g := 10), guard_true, zf0, run_mv, zf2, run_bin, put1_some, xleq, run_pick, xpick_t, run_ops_nil, run_nil, B0, reduceIte, reduceEqDiff]
      exact hN2 _ _ ⟨hS, by rw [andT hg3]; simp only [B0, reduceIte, reduceEqDiff]⟩
    · simp only [hg3, run_guard (g := 10), guard_off, run_pick, put1_some, xpick_f, run_ops_nil, run_nil, B0, reduceIte, reduceEqDiff]
      exact hN2 _ _ ⟨hS, by rw [andF hg3]; simp only [B0, reduceIte, reduceEqDiff]⟩
  rintro fr4 h6 ⟨hS7, f5⟩
  simp only [List.drop_succ_cons, List.drop_zero]
  simp only [f5, run_mv, run_ops_nil, run_ret, B0, reduceIte, reduceEqDiff]
  have he := some_inj hF
  subst he
  simp only [end_ret1, B0, reduceIte, reduceEqDiff]
  exact rfl
theorem spec_NewSnap_x {W : Nat → Bool} {h : Heap} (hW : ∀ b,
    h.length ≤ b → W b = true) (k : Nat) (procs_0 : Int) (amount_1 : Int) (r : Snap × Bool) (hF : spec_NewSnap k procs_0 amount_1 = some r) : Ret E W 35 [.int .i64 procs_0,
    .int .i64 amount_1] h (fun v h' => ∃ rv0_0 rc0_0 rv0_1 rc0_1 rv0_2 rc0_2, v = .tup [.agg [rv0_0, rv0_1, rv0_2, .int .i64 r.1.Sent, .int .i64 r.1.Total],
    .bool r.2] ∧ SlF cI 1 3 rv0_0 r.1.Amounts rc0_0 ∧ SlN Chan.R 3 74 rv0_1 r.1.Chans rc0_1 ∧ SlN Picture.R 4 76 rv0_2 r.1.Pictures rc0_2 ∧ Sep h' h.length (rc0_0 ++ (rc0_1 ++
    (rc0_2 ++ ([]))))) := by
  refine Ret.of (fn := x35) rfl (Run.of ?_)
  unfold spec_NewSnap at hF
  have zf0 : argFr [.int .i64 procs_0, .int .i64 amount_1] 0 = .int .i64 procs_0 := rfl
  have zf1 : argFr [.int .i64 procs_0, .int .i64 amount_1] 1 = .int .i64 amount_1 := rfl
  generalize argFr [.int .i64 procs_0, .int .i64 amount_1] = fr0 at zf0 zf1 ⊢
  have hS : Sep h h.length [] := Sep.nil h
  simp only [x35, run_seq, run_reg, run_new, B0, reduceIte, reduceEqDiff]
  refine put2_newC hS (fun b1 h2 hS3 => ?_)
  simp only [run_mv, run_ops_nil, x35_10, run_seq, run_reg, zf0, run_call, B0, reduceIte, reduceEqDiff]
  refine call1 rfl (mapM1 snap_int (mapM1 snap_int (mapM1 snap_int mapM0))) (spec_l1In_x (fun b hb => decide_eq_true hb) procs_0 2 4 _ rfl) ?_
  simp only [run_un, put1_some, xnot, run_mv, B0, reduceIte, reduceEqDiff]
  refine ops_j 4 (fun fr' h' => Sep h' h.length ([Blk1 b1 [.nil, .nil, .nil, .int .i64 0,
      .int .i64 0] 30] ++ ([])) ∧ fr' 15 = .bool ((!(spec_l1In procs_0 2 4)) ||
      (!(spec_l1In amount_1 0 250))) ∧ fr' 0 = .int .i64 procs_0 ∧ fr' 1 = .int .i64 amount_1 ∧ fr' 4 = .ptr b1 0) (fun Q5 hN6 => ?_) ?_
  · simp only [List.take_succ_cons, List.take_zero]
    simp only [run_guard (g := 11), B0, reduceIte, reduceEqDiff]
    refine guard_split (t := (!(spec_l1In procs_0 2 4))) (fun hg7 => ?_) (fun hg7 => ?_)
    · simp only [hg7, run_guard (g := 11), guard_off', run_pick, put1_some, xpick_t, run_ops_nil, run_nil, B0, reduceIte, reduceEqDiff]
      exact hN6 _ _ ⟨hS3, by rw [orT hg7]; simp only [B0, reduceIte, reduceEqDiff], by simp only [zf0, B0, reduceIte, reduceEqDiff], by simp only [zf1, B0, reduceIte,
          reduceEqDiff], by simp only [B0, reduceIte, reduceEqDiff]⟩
    · simp only [hg7, run_guard (g := 11), guard_false, zf1, run_mv, run_call, B0, reduceIte, reduceEqDiff]
      refine call1 rfl (mapM1 snap_int (mapM1 snap_int (mapM1 snap_int mapM0))) (spec_l1In_x (fun b hb => decide_eq_true hb) amount_1 0 250 _ rfl) ?_
      simp only [hg7, run_guard (g := 11), guard_false, run_un, put1_some, xnot, run_pick, xpick_f, run_ops_nil, run_nil, B0, reduceIte, reduceEqDiff]
      exact hN6 _ _ ⟨hS3, by rw [orF hg7]; simp only [B0, reduceIte, reduceEqDiff], by simp only [zf0, B0, reduceIte, reduceEqDiff], by simp only [zf1, B0, reduceIte,
          reduceEqDiff], by simp only [B0, reduceIte, reduceEqDiff]⟩
  rintro fr8 h13 ⟨hS14, f9, f10, f11, f12⟩
  simp only [List.drop_succ_cons, List.drop_zero]
  simp only [run_ops_nil, x35_1, f9, run_cond, B0, reduceIte, reduceEqDiff]
  refine cond_split (t := ((!(spec_l1In procs_0 2 4)) || (!(spec_l1In amount_1 0 250)))) (fun hc15 => ?_) (fun hc15 => ?_)
  · rw [iteT hc15] at hF
    simp only [run_seq, run_reg, run_build, evp, B0, reduceIte, reduceEqDiff]
    refine put1_eq (v := .agg [.nil, .nil, .nil, .int .i64 0, .int .i64 0]) rfl ?_
    simp only [f12, run_st, B0, reduceIte, reduceEqDiff]
    refine put2_stCx (us := [.nil, .nil, .nil, .int .i64 0, .int .i64 0]) rfl (cs' := [.nil, .nil, .nil, .int .i64 0,
        .int .i64 0]) hS14 hW rfl rfl (Nat.le_of_ble_eq_true rfl) rfl (fun h16 hS17 => ?_)
    simp only [run_mv, run_ops_nil, run_ret, B0, reduceIte, reduceEqDiff]
    have he := some_inj hF
    subst he
    refine end_ret_m (mapM1 (res_cell (bb := b1) (oo := 0) (v := .agg [.nil, .nil, .nil, .int .i64 0, .int .i64 0]) (by simp only [f12, B0, reduceIte,
        reduceEqDiff]) ((xld_bs (Sep.bk _ _ _ hS17)).trans rfl)) (mapM1 (res_t (v := .bool false) (by simp only [B0, reduceIte, reduceEqDiff])) mapM0)) ?_
    exact ⟨.nil, [], .nil, [], .nil, [], by first | trivial | rfl, SlF.nil, SlN.nil, SlN.nil, ((Sep.dc (hS17)) : Sep _ h.length ([]))⟩
  rw [iteF hc15] at hF
  obtain ⟨v18, hx19, hF20⟩ := bind_some' hF
  simp only [run_skip, x35_9, run_seq, run_reg, f10, run_mv, run_call, B0, reduceIte, reduceEqDiff]
  refine call2 rfl hS14 (mapM1 snap_int mapM0) (spec_l8Chans_x (fun b hb => decide_eq_true hb) k procs_0 v18 hx19) ?_
  rintro v21 h25 ⟨_, c22, rfl, hv23, hS26⟩
  refine ⟨_, free_1 (SlN.free1 hv23), hS26, (pf_app (SlN.pf hv23 Chan.RO) pf_nil), fun h27 hS28 => ?_⟩
  have hS29 : Sep h27 h.length (c22 ++ ([Blk1 b1 [.nil, .nil, .nil, .int .i64 0, .int .i64 0] 30] ++ ([]))) := by simpa only [List.append_assoc, List.nil_append] using hS28
  simp only [f10, run_mv, f11, run_bin, put1_some, xmul, run_build, evp, B0, reduceIte, reduceEqDiff]
  refine put1_eq (v := .agg [.nil, v21, .nil, .int .i64 0, .int .i64 (IntKind.wrap .i64 (procs_0 * amount_1))]) (pbuild_some (fill1 (us := [v21]) (vs := [.nil, v21, .nil,
      .int .i64 0, .int .i64 0]) (cells_one (SlN.one hv23)) rfl (Nat.le_of_ble_eq_true rfl) (all_c (SlN.one hv23) all_n) rfl (fill1 (us := [.int .i64 (IntKind.wrap .i64
      (procs_0 * amount_1))]) (vs := [.nil, v21, .nil, .int .i64 0, .int .i64 (IntKind.wrap .i64 (procs_0 * amount_1))]) rfl rfl (Nat.le_of_ble_eq_true rfl) rfl rfl fill0))) ?_
  simp only [run_new, B0, reduceIte, reduceEqDiff]
  refine put2_newC hS29 (fun b30 h31 hS32 => ?_)
  simp only [run_st, B0, reduceIte, reduceEqDiff]
  refine put2_stCx (us := [.nil, v21, .nil, .int .i64 0, .int .i64 (IntKind.wrap .i64 (procs_0 * amount_1))]) rfl (cs' := [.nil, v21, .nil, .int .i64 0,
      .int .i64 (IntKind.wrap .i64 (procs_0 * amount_1))]) hS32 hW rfl (all_c rfl (all_c (SlN.one hv23) (all_c rfl (all_c rfl (all_c rfl all_n)))))
      (Nat.le_of_ble_eq_true rfl) rfl (fun h34 hS35 => ?_)
  simp only [run_ops_nil, x35_8, run_seq, run_reg, run_mv, B0, reduceIte, reduceEqDiff]
  obtain ⟨oc58, hX60, hk61⟩ := jn_some hF20
  simp only [x35_7]
  refine loopF_j (σ := Int × Snap) (fun s134 => spec_NewSnap_b1 procs_0 amount_1 v18 s134.1 s134.2) (fun s fr' h' => ∃ v49 c50 v53 c54,
      fr' 0 = .int .i64 procs_0 ∧ fr' 1 = .int .i64 amount_1 ∧ fr' 4 = .ptr b1 0 ∧ fr' 6 = .ptr b30 0 ∧ fr' 7 = .int .i64 s.1 ∧ SlF cI 1 3 v49 s.2.Amounts c50 ∧ SlN Picture.R 4 76 v53 s.2.Pictures c54 ∧ Sep h' h.length
      ([Blk1 b1 [.nil, .nil, .nil, .int .i64 0, .int .i64 0] 30] ++ ([Blk1 b30 [v49, v21, v53, .int .i64 s.2.Sent,
      .int .i64 s.2.Total] 30] ++ (c50 ++ (c22 ++ (c54 ++ ([]))))))) hX60 ⟨.nil, [], .nil, [], by simp only [f10, B0, reduceIte, reduceEqDiff], by simp only [f11, B0, reduceIte,
      reduceEqDiff], by simp only [f12, B0, reduceIte, reduceEqDiff], by simp only [B0, reduceIte, reduceEqDiff], by simp only [B0, reduceIte, reduceEqDiff], SlF.nil, SlN.nil,
      ((Sep.m2 (Sep.m1 (Sep.m1 hS35))) : Sep _ h.length ([Blk1 b1 [.nil, .nil, .nil, .int .i64 0, .int .i64 0] 30] ++ ([Blk1 b30 [.nil, v21, .nil, .int .i64 0,
      .int .i64 (IntKind.wrap .i64 (procs_0 * amount_1))] 30] ++ (c22 ++ ([])))))⟩ (fun _ _ _ h => h) ?_ ?_
  · rintro ⟨s46, s47⟩ fr70 h71 ⟨v49, c50, v53, c54, f73, f74, f75, f76, f77, hv51, hv55, hS72⟩ oc59 hF62 hr63 Q64 hN65 hK66 hR67 hE68
    dsimp only at *
    unfold spec_NewSnap_b1 at hF62
    simp only [x35_5, run_seq, run_reg, f77, run_mv, f73, run_bin, put1_some, xlss, run_ops_nil, run_cond, B0, reduceIte, reduceEqDiff]
    refine cond_split (t := (decide (s46 < procs_0))) (fun hc79 => ?_) (fun hc79 => ?_)
    · rw [iteT hc79] at hF62
      simp only [run_skip, x35_4, run_seq, run_block, x35_3, run_reg, f76, run_fa, put1_some, Nat.reduceAdd, Nat.zero_add, Nat.add_zero, xfa_ptr, run_ld, B0, reduceIte,
          reduceEqDiff]
      refine put1_eq (v := v49) ((xld_b (Sep.bk _ _ _ (Sep.m1 hS72))).trans rfl) ?_
      simp only [f74, run_mv, run_buildS, evp, B0, reduceIte, reduceEqDiff]
      refine put2_buildSF (n := 1) (f := cI) [amount_1] hS72 rfl rfl (fun v80 c81 h82 hv83 hS84 => ?_)
      simp only [run_app, B0, reduceIte, reduceEqDiff]
      obtain ⟨l86, hx87, hF88⟩ := bind_some' hF62
      refine put2_appF (f := cI) hv51 (Sep.m3 hS84) hW (fun _ => rfl) (fun _ => rfl) (SlF.first hv83 hS84 (fun _ => rfl)) hx87 (fun v89 c90 h91 hv92 hS93 => ?_)
      simp only [f76, run_fa, put1_some, Nat.reduceAdd, Nat.zero_add, Nat.add_zero, xfa_ptr, run_st, B0, reduceIte, reduceEqDiff]
      refine put2_stCx (us := [v89]) (cells_one (SlF.one hv92)) (cs' := [v89, v21, v53, .int .i64 s47.Sent,
          .int .i64 s47.Total]) (Sep.m3 hS93) hW rfl (all_c (SlF.one hv92) all_n) (Nat.le_of_ble_eq_true rfl) rfl (fun h95 hS96 => ?_)
      simp only [run_ops_nil, x35_2, run_draw, f76, d4_fa, put1d_some, Nat.reduceAdd, Nat.zero_add, Nat.add_zero, xfa_ptr, d4_ld, B0, reduceIte, reduceEqDiff]
      refine put1d_eq (v := v53) ((xld_b (Sep.bk _ _ _ hS96)).trans rfl) ?_
      obtain ⟨l97, hx98, hF99⟩ := bind_some' hF88
      simp only [f73, d4_mv, put1d_some, d4_mkS, B0, reduceIte, reduceEqDiff]
      refine put2d_mkSF (f := cI) (z := (0 : Int)) hS96 hx98 rfl (fun v100 c101 h102 hv103 hS104 => ?_)
      obtain ⟨l106, hx107, hF108⟩ := bind_some' hF99
      simp only [f73, d4_mv, put1d_some, d4_mkS, B0, reduceIte, reduceEqDiff]
      refine put2d_mkSF (f := cB) (z := false) hS104 hx107 rfl (fun v109 c110 h111 hv112 hS113 => ?_)
      simp only [d4_build, evp, B0, reduceIte, reduceEqDiff]
      refine put1d_eq (v := .agg [.bool false, .int .i64 0, v100, v109]) (pbuild_some (fill1 (us := [v100]) (vs := [.bool false, .int .i64 0, v100,
          .nil]) (cells_one (SlF.one hv103)) rfl (Nat.le_of_ble_eq_true rfl) (all_c (SlF.one hv103) all_n) rfl (fill1 (us := [v109]) (vs := [.bool false, .int .i64 0, v100,
          v109]) (cells_one (SlF.one hv112)) rfl (Nat.le_of_ble_eq_true rfl) (all_c (SlF.one hv112) all_n) rfl fill0))) ?_
      simp only [d4_buildS, evp, B0, reduceIte, reduceEqDiff]
      refine put2d_buildSN (R := Picture.R) (n := 4) (cs := [.bool false, .int .i64 0, v100,
          v109]) (os := c101 ++ (c110)) (Sep.bi2 (c1 := c101) (c2 := c110) (Sep.m1 hS113)) (fill1 (us := [.bool false, .int .i64 0, v100, v109]) (vs := [.bool false, .int .i64 0,
          v100, v109]) rfl rfl (Nat.le_of_ble_eq_true rfl) (all_c rfl (all_c rfl (all_c (SlF.one hv103) (all_c (SlF.one hv112) all_n)))) rfl fill0) (Picture.RI (x :=
          (Picture.mk false 0 l97 l106)) hv103 hv112) rfl (fun v115 c116 h117 hv118 hS119 => ?_)
      simp only [d3_app, B0, reduceIte, reduceEqDiff]
      obtain ⟨l121, hx122, hF123⟩ := bind_some' hF108
      refine put2d_appN (R := Picture.R) (c := c54) hv55 hv118 (Sep.m6 hS119) hW Picture.RO.len Picture.RO.one hx122 (fun v124 c125 h126 hv127 hS128 => ?_)
      simp only [f76, d4_fa, put1d_some, Nat.reduceAdd, Nat.zero_add, Nat.add_zero, xfa_ptr, d3_st, B0, reduceIte, reduceEqDiff]
      refine put2d_stCx (us := [v124]) (cells_one (SlN.one hv127)) (cs' := [v89, v21, v124, .int .i64 s47.Sent,
          .int .i64 s47.Total]) (Sep.m1 hS128) hW rfl (all_c (SlN.one hv127) all_n) (Nat.le_of_ble_eq_true rfl) rfl (fun h130 hS131 => ?_)
      simp only [run_draw_nil, run_blk, run_reg, f77, run_mv, run_bin, put1_some, xadd, run_ops_nil, run_nil, B0, reduceIte, reduceEqDiff]
      have e132 := some_inj hF123
      exact hN65 _ _ _ e132.symm ⟨v89, c90, v124, c125, by simp only [f73, B0, reduceIte, reduceEqDiff], by simp only [f74, B0, reduceIte, reduceEqDiff], by simp only [f75, B0,
          reduceIte, reduceEqDiff], by simp only [f76, B0, reduceIte, reduceEqDiff], by simp only [B0, reduceIte, reduceEqDiff], hv92, hv127,
          (Sep.m4 (Sep.m3 (Sep.m3 (Sep.m4 (Sep.m1 (Sep.dc (Sep.m3 hS131)))))))⟩
    rw [iteF hc79] at hF62
    simp only [run_exit, out_code, out_nil, B0, reduceIte, reduceEqDiff]
    have e133 := some_inj hF62
    exact hK66 _ _ _ e133.symm ⟨v49, c50, v53, c54, by simp only [f73, B0, reduceIte, reduceEqDiff], by simp only [f74, B0, reduceIte, reduceEqDiff], by simp only [f75, B0,
        reduceIte, reduceEqDiff], by simp only [f76, B0, reduceIte, reduceEqDiff], by simp only [f77, B0, reduceIte, reduceEqDiff], hv51, hv55,
        (Sep.m4 (Sep.m4 (Sep.m4 (Sep.m4 (Sep.m4 hS72)))))⟩
  rintro ⟨s135, s136⟩ fr145 h146 rfl ⟨v138, c139, v142, c143, f148, f149, f150, f151, f152, hv140, hv144, hS147⟩
  dsimp only [jnO] at hk61
  dsimp only at *
  unfold spec_NewSnap_j1 at hk61
  simp only [run_seq, run_reg, f151, run_ld, B0, reduceIte, reduceEqDiff]
  refine put1_eq (v := .agg [v138, v21, v142, .int .i64 s136.Sent, .int .i64 s136.Total]) ((xld_bs (Sep.bk _ _ _ (Sep.m1 hS147))).trans rfl) ?_
  simp only [f150, run_st, B0, reduceIte, reduceEqDiff]
  refine put2_stCx (us := [v138, v21, v142, .int .i64 s136.Sent, .int .i64 s136.Total]) rfl (cs' := [v138, v21, v142, .int .i64 s136.Sent,
      .int .i64 s136.Total]) hS147 hW rfl (all_c (SlF.one hv140) (all_c (SlN.one hv23) (all_c (SlN.one hv144) (all_c rfl (all_c rfl all_n))))) (Nat.le_of_ble_eq_true rfl) rfl
      (fun h153 hS154 => ?_)
  simp only [run_mv, run_ops_nil, run_ret, B0, reduceIte, reduceEqDiff]
  have he := some_inj hk61
  subst he
  refine end_ret_m (mapM1 (res_cell (bb := b1) (oo := 0) (v := .agg [v138, v21, v142, .int .i64 s136.Sent, .int .i64 s136.Total]) (by simp only [f150, B0, reduceIte,
      reduceEqDiff]) ((xld_bs (Sep.bk _ _ _ hS154)).trans rfl)) (mapM1 (res_t (v := .bool true) (by simp only [B0, reduceIte, reduceEqDiff])) mapM0)) ?_
  exact ⟨v138, c139, v21, c22, v142, c143, by first | trivial | rfl, hv140, hv23, hv144, (Sep.m2 (Sep.m2 (Sep.m2 (Sep.dc ((Sep.dc (hS154)))))))⟩
theorem spec_l8Take_x {W : Nat → Bool} {h : Heap} {lo : Nat} {S0 : List Obj} (hW : ∀ b,
    lo ≤ b → W b = true) (v_0 : Snap) (pv0_0 : XV) (pc0_0 : List Obj) (ph0_0 : SlF cI 1 3 pv0_0 v_0.Amounts pc0_0) (pv0_1 : XV) (pc0_1 : List Obj)
    (ph0_1 : SlN Chan.R 3 74 pv0_1 v_0.Chans pc0_1) (pv0_2 : XV) (pc0_2 : List Obj) (ph0_2 : SlN Picture.R 4 76 pv0_2 v_0.Pictures pc0_2) (v_1 : Int) (r : Snap × Bool)
    (hF : spec_l8Take v_0 v_1 = some r) (hS : Sep h lo (pc0_0 ++ (pc0_1 ++ (pc0_2 ++ (S0))))) : Ret E W 71 [.agg [pv0_0, pv0_1, pv0_2, .int .i64 v_0.Sent, .int .i64 v_0.Total],
    .int .i64 v_1] h (fun v h' => ∃ rc0_0 rc0_1 rc0_2, v = .tup [.agg [pv0_0, pv0_1, pv0_2, .int .i64 r.1.Sent, .int .i64 r.1.Total],
    .bool r.2] ∧ SlF cI 1 3 pv0_0 r.1.Amounts rc0_0 ∧ SlN Chan.R 3 74 pv0_1 r.1.Chans rc0_1 ∧ SlN Picture.R 4 76 pv0_2 r.1.Pictures rc0_2 ∧ Sep h' lo (rc0_0 ++ (rc0_1 ++
    (rc0_2 ++ (S0))))) := by
  refine Ret.of (fn := x71) rfl (Run.of ?_)
  unfold spec_l8Take at hF
  have zf0 : argFr [.agg [pv0_0, pv0_1, pv0_2, .int .i64 v_0.Sent, .int .i64 v_0.Total], .int .i64 v_1] 0 = .agg [pv0_0, pv0_1, pv0_2, .int .i64 v_0.Sent,
      .int .i64 v_0.Total] := rfl
  have zf1 : argFr [.agg [pv0_0, pv0_1, pv0_2, .int .i64 v_0.Sent, .int .i64 v_0.Total], .int .i64 v_1] 1 = .int .i64 v_1 := rfl
  generalize argFr [.agg [pv0_0, pv0_1, pv0_2, .int .i64 v_0.Sent, .int .i64 v_0.Total], .int .i64 v_1] = fr0 at zf0 zf1 ⊢
  simp only [x71, run_seq, run_reg, run_box, zf0, B0, reduceIte, reduceEqDiff]
  refine put2_boxC (cs := [pv0_0, pv0_1, pv0_2, .int .i64 v_0.Sent,
      .int .i64 v_0.Total]) hS rfl rfl (all_c (SlF.one ph0_0) (all_c (SlN.one ph0_1) (all_c (SlN.one ph0_2) (all_c rfl (all_c rfl all_n))))) (fun b1 h2 hS3 => ?_)
  simp only [run_new, B0, reduceIte, reduceEqDiff]
  refine put2_newC hS3 (fun b5 h6 hS7 => ?_)
  simp only [run_mv, run_ops_nil, B0, reduceIte, reduceEqDiff]
  refine frz_stepC (Sep.m1 hS7) hW (by simp only [B0, reduceIte, reduceEqDiff]) (fun h9 hS10 => ?_)
  simp only [run_frz_nil, x71_16, run_seq, run_reg, run_fa, put1_some, Nat.reduceAdd, Nat.zero_add, Nat.add_zero, xfa_ref, run_ld, B0, reduceIte, reduceEqDiff]
  refine put1_eq (v := pv0_1) rfl ?_
  simp only [run_len, put1_some, SlN.len ph0_1, run_mv, run_ops_nil, B0, reduceIte, reduceEqDiff]
  obtain ⟨oc19, hX21, hk22⟩ := jn_some hF
  simp only [x71_5]
  refine rangeN_j (σ := (List Chan)) (fun i17 s93 => spec_l8Take_b1 v_0 v_1 i17 s93) (fun s fr' h' => ∃ c15, fr' 1 = .int .i64 v_1 ∧ fr' 2 = .ref [pv0_0, pv0_1, pv0_2,
      .int .i64 v_0.Sent, .int .i64 v_0.Total] 0 ∧ fr' 4 = .ptr b5 0 ∧ fr' 11 = pv0_1 ∧ SlN Chan.R 3 74 pv0_1 s c15 ∧ Sep h' lo (pc0_0 ++ (c15 ++ (pc0_2 ++ ([Blk1 b5 [.nil, .nil,
      .nil, .int .i64 0, .int .i64 0] 30] ++ (S0)))))) hX21 ⟨pc0_1, by simp only [zf1, B0, reduceIte, reduceEqDiff], by simp only [B0, reduceIte, reduceEqDiff], by simp only [B0,
      reduceIte, reduceEqDiff], by simp only [B0, reduceIte, reduceEqDiff], ph0_1, (Sep.m3 (Sep.m3 (Sep.m3 hS10)))⟩ (by simp only [B0, reduceIte, reduceEqDiff]) (by simp only [B0,
      reduceIte, reduceEqDiff]) (fun _ _ _ h => h) rfl rfl (fun _ _ _ _ h => h) (fun _ _ _ _ h => h) (fun _ _ _ _ h => h) (by decide) ?_ ?_
  · rintro i17 s14 fr31 h32 hx38 ⟨c15, f34, f35, f36, f37, hv16, hS33⟩ f39 f40 oc20 hF23 hr24 Q25 hN26 hB30 hK27 hR28 hE29
    unfold spec_l8Take_b1 at hF23
    obtain ⟨x41, hx42, hF43⟩ := bind_some' hF23
    simp only [x71_3, run_seq, run_reg, f37, f39, run_ia, B0, reduceIte, reduceEqDiff]
    obtain ⟨b44, hb45⟩ := SlN.isrow hv16 (geti_ne hx42)
    refine put1_eq (SlN.ia hv16 hb45 hx42) ?_
    obtain ⟨c46, cs47, os48, hv49, hR50, hS51⟩ := SlG.opn (SlN.toG hv16 hb45 Chan.RO.len) hx42 hk_nil Chan.RO.len (Sep.m1 hS33)
    obtain ⟨v53, c54, hv55, rfl, rfl⟩ := hR50
    have hS52 := Sep.no1 hS51
    simp only [run_ld, B0, reduceIte, reduceEqDiff]
    refine put1_eq (v := .agg [.int .i64 x41.From, .int .i64 x41.To, v53]) ((SlG.lds (o := 0) hv49 rfl hx42 hS52 (Nat.le_of_ble_eq_true rfl)).trans rfl) ?_
    simp only [run_new, B0, reduceIte, reduceEqDiff]
    refine put2_newC hS52 (fun b57 h58 hS59 => ?_)
    simp only [run_st, B0, reduceIte, reduceEqDiff]
    refine put2_stCx (us := [.int .i64 x41.From, .int .i64 x41.To, v53]) rfl (cs' := [.int .i64 x41.From, .int .i64 x41.To,
        v53]) hS59 hW rfl (all_c rfl (all_c rfl (all_c (SlF.one hv55) all_n))) (Nat.le_of_ble_eq_true rfl) rfl (fun h61 hS62 => ?_)
    simp only [run_ops_nil, B0, reduceIte, reduceEqDiff]
    refine frz_stepC hS62 hW (by simp only [B0, reduceIte, reduceEqDiff]) (fun h63 hS64 => ?_)
    simp only [run_frz_nil, x71_2, run_seq, run_reg, run_fa, put1_some, Nat.reduceAdd, Nat.zero_add, Nat.add_zero, xfa_ref, run_ld, B0, reduceIte, reduceEqDiff]
    refine put1_eq (v := .int .i64 x41.From) rfl ?_
    simp only [f34, run_mv, run_bin, put1_some, xeql, B0, reduceIte, reduceEqDiff]
    refine ops_j 5 (fun fr' h' => Sep h' lo (pc0_0 ++ (c46 ++ (pc0_2 ++ ([Blk1 b5 [.nil, .nil, .nil, .int .i64 0,
        .int .i64 0] 30] ++ (c54 ++ (S0)))))) ∧ fr' 26 = .bool ((decide (x41.From = v_1)) && (decide
        ((List.length x41.Way : Int) = 8))) ∧ fr' 1 = .int .i64 v_1 ∧ fr' 2 = .ref [pv0_0, pv0_1, pv0_2, .int .i64 v_0.Sent,
        .int .i64 v_0.Total] 0 ∧ fr' 4 = .ptr b5 0 ∧ fr' 11 = pv0_1 ∧ fr' 12 = .int .i64 (List.length v_0.Chans : Int) ∧ fr' 13 = .int .i64 (i17 : Int)) (fun Q65 hN66 => ?_) ?_
    · simp only [List.take_succ_cons, List.take_zero]
      simp only [run_guard (g := 21), B0, reduceIte, reduceEqDiff]
      refine guard_split (t := (decide (x41.From = v_1))) (fun hg67 => ?_) (fun hg67 => ?_)
      · simp only [hg67, run_guard (g := 21), guard_true, run_fa, put1_some, Nat.reduceAdd, Nat.zero_add, Nat.add_zero, xfa_ref, run_ld, B0, reduceIte, reduceEqDiff]
        refine put1_eq (v := v53) rfl ?_
        simp only [hg67, run_guard (g := 21), guard_true, run_len, put1_some, SlF.plen hv55, run_bin, xeql, run_pick, xpick_t, run_ops_nil, run_nil, B0, reduceIte, reduceEqDiff]
        exact hN66 _ _ ⟨(Sep.m4 (Sep.m3 (Sep.m4 (Sep.m4 (Sep.m1 hS64))))), by rw [andT hg67]; simp only [B0, reduceIte, reduceEqDiff], by simp only [f34, B0, reduceIte,
            reduceEqDiff], by simp only [f35, B0, reduceIte, reduceEqDiff], by simp only [f36, B0, reduceIte, reduceEqDiff], by simp only [f37, B0, reduceIte, reduceEqDiff],
            by simp only [f40, B0, reduceIte, reduceEqDiff], by simp only [f39, B0, reduceIte, reduceEqDiff]⟩
      · simp only [hg67, run_guard (g := 21), guard_off, run_pick, put1_some, xpick_f, run_ops_nil, run_nil, B0, reduceIte, reduceEqDiff]
        exact hN66 _ _ ⟨(Sep.m4 (Sep.m3 (Sep.m4 (Sep.m4 (Sep.m1 hS64))))), by rw [andF hg67]; simp only [B0, reduceIte, reduceEqDiff], by simp only [f34, B0, reduceIte,
            reduceEqDiff], by simp only [f35, B0, reduceIte, reduceEqDiff], by simp only [f36, B0, reduceIte, reduceEqDiff], by simp only [f37, B0, reduceIte, reduceEqDiff],
            by simp only [f40, B0, reduceIte, reduceEqDiff], by simp only [f39, B0, reduceIte, reduceEqDiff]⟩
    rintro fr68 h76 ⟨hS77, f69, f70, f71, f72, f73, f74, f75⟩
    simp only [List.drop_succ_cons, List.drop_zero]
    simp only [run_ops_nil, x71_1, f69, run_cond, B0, reduceIte, reduceEqDiff]
    refine cond_split (t := ((decide (x41.From = v_1)) && (decide ((List.length x41.Way : Int) = 8)))) (fun hc78 => ?_) (fun hc78 => ?_)
    · rw [iteT hc78] at hF43
      simp only [run_seq, run_reg, f71, run_ld, B0, reduceIte, reduceEqDiff]
      refine put1_eq (v := .agg [pv0_0, pv0_1, pv0_2, .int .i64 v_0.Sent, .int .i64 v_0.Total]) rfl ?_
      simp only [f72, run_st, B0, reduceIte, reduceEqDiff]
      refine put2_stCx (us := [pv0_0, pv0_1, pv0_2, .int .i64 v_0.Sent, .int .i64 v_0.Total]) rfl (cs' := [pv0_0, pv0_1, pv0_2, .int .i64 v_0.Sent,
          .int .i64 v_0.Total]) (Sep.m3 hS77) hW rfl (all_c (SlF.one ph0_0) (all_c (SlG.one hv49) (all_c (SlN.one ph0_2) (all_c rfl (all_c rfl all_n)))))
          (Nat.le_of_ble_eq_true rfl) rfl (fun h79 hS80 => ?_)
      simp only [run_mv, run_ops_nil, run_ret, B0, reduceIte, reduceEqDiff]
      have e81 := some_inj hF43
      subst e81
      have ho82 := hr24 _ rfl
      have hk83 := hk22
      rw [ho82] at hk83
      dsimp only [jnO] at hk83
      apply hR28
      obtain ⟨c84, hv85, hS86⟩ := SlG.cls0 (c := c46) (os := c54) hv49 rfl hx42 hk_nil (Chan.RI (x := x41) hv55) (Sep.m3 (Sep.m4 hS80))
      have hv87 := SlG.toN hv85
      have he := some_inj hk83
      subst he
      refine end_ret_m (mapM1 (res_cell (bb := b5) (oo := 0) (v := .agg [pv0_0, pv0_1, pv0_2, .int .i64 v_0.Sent, .int .i64 v_0.Total]) (by simp only [f72, B0, reduceIte,
          reduceEqDiff]) ((xld_bs (Sep.bk _ _ _ (Sep.m1 hS86))).trans rfl)) (mapM1 (res_t (v := .bool false) (by simp only [B0, reduceIte, reduceEqDiff])) mapM0)) ?_
      exact ⟨pc0_0, c84, pc0_2, by first | trivial | rfl, ph0_0, hv87, ph0_2, (Sep.m2 (Sep.m1 (Sep.m2 (Sep.dc (Sep.m1 hS86)))))⟩
    rw [iteF hc78] at hF43
    simp only [run_skip, run_nil, B0, reduceIte, reduceEqDiff]
    obtain ⟨c88, hv89, hS90⟩ := SlG.cls0 (c := c46) (os := c54) hv49 rfl hx42 hk_nil (Chan.RI (x := x41) hv55) (Sep.m2 (Sep.m4 hS77))
    have hv91 := SlG.toN hv89
    have e92 := some_inj hF43
    exact hN26 _ _ _ e92.symm ⟨c88, by simp only [f70, B0, reduceIte, reduceEqDiff], by simp only [f71, B0, reduceIte, reduceEqDiff], by simp only [f72, B0, reduceIte,
        reduceEqDiff], by simp only [f73, B0, reduceIte, reduceEqDiff], hv91, (Sep.m3 (Sep.m2 (Sep.m3 (Sep.m3 hS90))))⟩ (by simp only [f75, B0, reduceIte,
        reduceEqDiff]) (by simp only [f74, B0, reduceIte, reduceEqDiff])
  rintro s94 fr97 h98 rfl ⟨c95, f100, f101, f102, f103, hv96, hS99⟩
  dsimp only [jnO] at hk22
  unfold spec_l8Take_j2 at hk22
  simp only [x71_15, run_seq, run_reg, f101, run_fa, put1_some, Nat.reduceAdd, Nat.zero_add, Nat.add_zero, xfa_ref, run_ld, B0, reduceIte, reduceEqDiff]
  refine put1_eq (v := pv0_1) rfl ?_
  simp only [run_len, put1_some, SlN.len hv96, run_mv, run_ops_nil, B0, reduceIte, reduceEqDiff]
  obtain ⟨oc112, hX114, hk115⟩ := jn_some hk22
  simp only [x71_11]
  refine rangeN_j (σ := (List Chan)) (fun i110 s189 => spec_l8Take_b2 v_1 i110 s189) (fun s fr' h' => ∃ c108, fr' 1 = .int .i64 v_1 ∧ fr' 2 = .ref [pv0_0, pv0_1, pv0_2,
      .int .i64 v_0.Sent, .int .i64 v_0.Total] 0 ∧ fr' 4 = .ptr b5 0 ∧ fr' 30 = pv0_1 ∧ SlN Chan.R 3 74 pv0_1 s c108 ∧ Sep h' lo (pc0_0 ++ (c108 ++ (pc0_2 ++ ([Blk1 b5 [.nil,
      .nil, .nil, .int .i64 0, .int .i64 0] 30] ++ (S0)))))) hX114 ⟨c95, by simp only [f100, B0, reduceIte, reduceEqDiff], by simp only [f101, B0, reduceIte, reduceEqDiff],
      by simp only [f102, B0, reduceIte, reduceEqDiff], by simp only [B0, reduceIte, reduceEqDiff], hv96, (Sep.m3 (Sep.m3 (Sep.m3 (Sep.m3 hS99))))⟩ (by simp only [B0, reduceIte,
      reduceEqDiff]) (by simp only [B0, reduceIte, reduceEqDiff]) (fun _ _ _ h => h) rfl rfl (fun _ _ _ _ h => h) (fun _ _ _ _ h => h) (fun _ _ _ _ h => h) (by decide) ?_ ?_
  · rintro i110 s107 fr124 h125 hx131 ⟨c108, f127, f128, f129, f130, hv109, hS126⟩ f132 f133 oc113 hF116 hr117 Q118 hN119 hB123 hK120 hR121 hE122
    unfold spec_l8Take_b2 at hF116
    obtain ⟨x134, hx135, hF136⟩ := bind_some' hF116
    simp only [x71_9, run_seq, run_reg, f132, run_mv, f130, run_ia, B0, reduceIte, reduceEqDiff]
    obtain ⟨b137, hb138⟩ := SlN.isrow hv109 (geti_ne hx135)
    refine put1_eq (SlN.ia hv109 hb138 hx135) ?_
    obtain ⟨c139, cs140, os141, hv142, hR143, hS144⟩ := SlG.opn (SlN.toG hv109 hb138 Chan.RO.len) hx135 hk_nil Chan.RO.len (Sep.m1 hS126)
    obtain ⟨v146, c147, hv148, rfl, rfl⟩ := hR143
    have hS145 := Sep.no1 hS144
    simp only [run_ld, B0, reduceIte, reduceEqDiff]
    refine put1_eq (v := .agg [.int .i64 x134.From, .int .i64 x134.To, v146]) ((SlG.lds (o := 0) hv142 rfl hx135 hS145 (Nat.le_of_ble_eq_true rfl)).trans rfl) ?_
    simp only [run_new, B0, reduceIte, reduceEqDiff]
    refine put2_newC hS145 (fun b150 h151 hS152 => ?_)
    simp only [run_mv, run_st, B0, reduceIte, reduceEqDiff]
    refine put2_stCx (us := [.int .i64 x134.From, .int .i64 x134.To, v146]) rfl (cs' := [.int .i64 x134.From, .int .i64 x134.To,
        v146]) hS152 hW rfl (all_c rfl (all_c rfl (all_c (SlF.one hv148) all_n))) (Nat.le_of_ble_eq_true rfl) rfl (fun h154 hS155 => ?_)
    simp only [run_ops_nil, B0, reduceIte, reduceEqDiff]
    refine frz_stepC hS155 hW (by simp only [B0, reduceIte, reduceEqDiff]) (fun h156 hS157 => ?_)
    simp only [run_frz_nil, x71_8, run_seq, run_reg, run_fa, put1_some, Nat.reduceAdd, Nat.zero_add, Nat.add_zero, xfa_ref, run_ld, B0, reduceIte, reduceEqDiff]
    refine put1_eq (v := .int .i64 x134.From) rfl ?_
    simp only [f127, run_mv, run_bin, put1_some, xeql, run_ops_nil, x71_7, run_cond, B0, reduceIte, reduceEqDiff]
    refine cond_split (t := (decide (x134.From = v_1))) (fun hc158 => ?_) (fun hc158 => ?_)
    · rw [iteT hc158] at hF136
      simp only [x71_6, run_draw, f128, d1_fa, put1d_some, Nat.reduceAdd, Nat.zero_add, Nat.add_zero, xfa_ref, d1_ld, ldd_ref, B0, reduceIte, reduceEqDiff]
      refine put1d_eq (v := pv0_1) rfl ?_
      simp only [d1_mv, put1d_some, f128, d4_fa, Nat.reduceAdd, Nat.zero_add, Nat.add_zero, xfa_ref, d4_ld, B0, reduceIte, reduceEqDiff]
      refine put1d_eq (v := pv0_1) rfl ?_
      simp only [d4_mv, put1d_some, d4_ia, B0, reduceIte, reduceEqDiff]
      refine put1d_eq (SlG.ia hv142 hx135) ?_
      simp only [d4_fa, put1d_some, Nat.reduceAdd, Nat.zero_add, Nat.add_zero, xfa_ptr, d4_ld, B0, reduceIte, reduceEqDiff]
      refine put1d_eq (v := v146) ((SlG.ld (o := 2) hv142 rfl hx135 hS157 (Nat.le_of_ble_eq_true rfl)).trans rfl) ?_
      simp only [d4_buildS, evp, B0, reduceIte, reduceEqDiff]
      refine put2d_buildSF (n := 1) (f := cI) [0] hS157 rfl rfl (fun v159 c160 h161 hv162 hS163 => ?_)
      simp only [d2_appQ, B0, reduceIte, reduceEqDiff]
      obtain ⟨l165, hx166, hF167⟩ := bind_some' hF136
      refine q_app disjR0 ?_
      refine put2d_appF (f := cI) hv148 (Sep.m2 hS163) hW (fun _ => rfl) (fun _ => rfl) (SlF.first hv162 hS163 (fun _ => rfl)) hx166 (fun v168 c169 h170 hv171 hS172 => ?_)
      simp only [d4_ia, B0, reduceIte, reduceEqDiff]
      refine put1d_eq (SlG.ia hv142 hx135) ?_
      simp only [d4_fa, put1d_some, Nat.reduceAdd, Nat.zero_add, Nat.add_zero, xfa_ptr, d3_st, B0, reduceIte, reduceEqDiff]
      refine put2d_stGx (us := [v168]) (o := 2) (cs' := [.int .i64 x134.From, .int .i64 x134.To,
          v168]) (cells_one (SlF.one hv171)) hv142 rfl hx135 (Sep.m2 hS172) hW rfl (all_c (SlF.one hv171) all_n) (Nat.le_of_ble_eq_true rfl) rfl (fun c176 h174 hv177 hS175 => ?_)
      simp only [run_draw_nil, run_nil, B0, reduceIte, reduceEqDiff]
      obtain ⟨c178, hv179, hS180⟩ := SlG.cls (e' := (Chan.mk x134.From x134.To l165)) (c := c176) (os := c169) hv177 rfl hx135 hk_nil (Chan.RI (x :=
          (Chan.mk x134.From x134.To l165)) hv171) (Sep.m1 (Sep.m1 hS175))
      have hx181 := geti_set (x' := (Chan.mk x134.From x134.To l165)) hx135
      have hv182 := SlG.toN hv179
      have e183 := some_inj hF167
      exact hN119 _ _ _ e183.symm ⟨c178, by simp only [f127, B0, reduceIte, reduceEqDiff], by simp only [f128, B0, reduceIte, reduceEqDiff], by simp only [f129, B0, reduceIte,
          reduceEqDiff], by simp only [f130, B0, reduceIte, reduceEqDiff], hv182, (Sep.m3 (Sep.m2 (Sep.m3 (Sep.m3 (Sep.dc (Sep.m1 hS180))))))⟩ (by simp only [f132, B0, reduceIte,
          reduceEqDiff]) (by simp only [f133, B0, reduceIte, reduceEqDiff])
    rw [iteF hc158] at hF136
    simp only [run_skip, run_nil, B0, reduceIte, reduceEqDiff]
    obtain ⟨c184, hv185, hS186⟩ := SlG.cls0 (c := c139) (os := c147) hv142 rfl hx135 hk_nil (Chan.RI (x := x134) hv148) (Sep.m1 (Sep.m1 hS157))
    have hv187 := SlG.toN hv185
    have e188 := some_inj hF136
    exact hN119 _ _ _ e188.symm ⟨c184, by simp only [f127, B0, reduceIte, reduceEqDiff], by simp only [f128, B0, reduceIte, reduceEqDiff], by simp only [f129, B0, reduceIte,
        reduceEqDiff], by simp only [f130, B0, reduceIte, reduceEqDiff], hv187, (Sep.m3 (Sep.m2 (Sep.m3 (Sep.m3 hS186))))⟩ (by simp only [f132, B0, reduceIte,
        reduceEqDiff]) (by simp only [f133, B0, reduceIte, reduceEqDiff])
  rintro s190 fr193 h194 rfl ⟨c191, f196, f197, f198, f199, hv192, hS195⟩
  dsimp only [jnO] at hk115
  unfold spec_l8Take_j1 at hk115
  simp only [x71_14, run_seq, run_reg, f197, run_fa, put1_some, Nat.reduceAdd, Nat.zero_add, Nat.add_zero, xfa_ref, run_ld, B0, reduceIte, reduceEqDiff]
  refine put1_eq (v := pv0_2) rfl ?_
  obtain ⟨x200, hx201, hF202⟩ := bind_some' hk115
  simp only [f196, run_mv, run_ia, B0, reduceIte, reduceEqDiff]
  obtain ⟨b203, hb204⟩ := SlN.isrow ph0_2 (geti_ne hx201)
  refine put1_eq (SlN.ia ph0_2 hb204 hx201) ?_
  obtain ⟨c207, cs208, os209, hv210, hR211, hS212⟩ := SlG.opn (SlN.toG ph0_2 hb204 Picture.RO.len) hx201 hk_nil Picture.RO.len (Sep.m2 hS195)
  obtain ⟨v214, c215, v218, c219, hv216, hv220, rfl, rfl⟩ := hR211
  have hS213 := Sep.no2 hS212
  simp only [run_fa, put1_some, Nat.reduceAdd, Nat.zero_add, Nat.add_zero, xfa_ptr, run_st, B0, reduceIte, reduceEqDiff]
  refine put2_stGx (us := [.bool true]) (o := 0) (cs' := [.bool true, .int .i64 x200.Amount, v214,
      v218]) rfl hv210 rfl hx201 hS213 hW rfl rfl (Nat.le_of_ble_eq_true rfl) rfl (fun c222 h205 hv223 hS206 => ?_)
  simp only [run_ops_nil, x71_13, run_seq, run_draw, f197, d4_fa, put1d_some, Nat.reduceAdd, Nat.zero_add, Nat.add_zero, xfa_ref, d4_ld, B0, reduceIte, reduceEqDiff]
  refine put1d_eq (v := pv0_2) rfl ?_
  simp only [f196, d4_mv, put1d_some, f197, d4_fa, Nat.reduceAdd, Nat.zero_add, Nat.add_zero, xfa_ref, d4_ld, B0, reduceIte, reduceEqDiff]
  refine put1d_eq (v := pv0_0) rfl ?_
  obtain ⟨x224, hx225, hF226⟩ := bind_some' hF202
  simp only [f196, d4_mv, put1d_some, d4_ia, B0, reduceIte, reduceEqDiff]
  obtain ⟨b227, hb228⟩ := SlF.isrow ph0_0 (geti_ne hx225)
  refine put1d_eq (SlF.ia ph0_0 hb228 hx225) ?_
  simp only [d4_ld, B0, reduceIte, reduceEqDiff]
  refine put1d_eq (v := .int .i64 x224) ((SlF.ld (o := 0) ph0_0 (Sep.m3 hS206) hb228 hx225 (fun _ => rfl) (Nat.le_of_ble_eq_true rfl)).trans rfl) ?_
  simp only [d4_ia, B0, reduceIte, reduceEqDiff]
  refine put1d_eq (SlG.ia hv223 hx201) ?_
  simp only [d4_fa, put1d_some, Nat.reduceAdd, Nat.zero_add, Nat.add_zero, xfa_ptr, d3_st, B0, reduceIte, reduceEqDiff]
  refine put2d_stGx (us := [.int .i64 x224]) (o := 1) (cs' := [.bool true, .int .i64 x224, v214,
      v218]) rfl hv223 rfl hx201 hS206 hW rfl rfl (Nat.le_of_ble_eq_true rfl) rfl (fun c231 h229 hv232 hS230 => ?_)
  simp only [run_draw_nil, x71_12, run_seq, run_reg, f197, run_fa, put1_some, Nat.reduceAdd, Nat.zero_add, Nat.add_zero, xfa_ref, run_ld, B0, reduceIte, reduceEqDiff]
  refine put1_eq (v := pv0_2) rfl ?_
  simp only [f196, run_mv, run_ia, B0, reduceIte, reduceEqDiff]
  refine put1_eq (SlG.ia hv232 hx201) ?_
  simp only [run_fa, put1_some, Nat.reduceAdd, Nat.zero_add, Nat.add_zero, xfa_ptr, run_ld, B0, reduceIte, reduceEqDiff]
  refine put1_eq (v := v218) ((SlG.ld (o := 3) hv232 rfl hx201 hS230 (Nat.le_of_ble_eq_true rfl)).trans rfl) ?_
  obtain ⟨x233, hx234, hF235⟩ := bind_some' hF226
  simp only [f196, run_mv, run_ia, B0, reduceIte, reduceEqDiff]
  obtain ⟨b236, hb237⟩ := SlF.isrow hv220 (geti_ne hx234)
  refine put1_eq (SlF.ia hv220 hb237 hx234) ?_
  simp only [run_st, B0, reduceIte, reduceEqDiff]
  refine put2_stF (f := cB) (x' := true) (o := 0) hv220 (Sep.m2 hS230) hW hb237 hx234 (fun _ => rfl) rfl rfl (Nat.le_of_ble_eq_true rfl) rfl (fun c240 h238 hv241 hS239 => ?_)
  have hx242 := geti_set (x' := true) hx234
  simp only [run_ops_nil, run_seq, run_reg, f197, run_ld, B0, reduceIte, reduceEqDiff]
  refine put1_eq (v := .agg [pv0_0, pv0_1, pv0_2, .int .i64 v_0.Sent, .int .i64 v_0.Total]) rfl ?_
  simp only [f198, run_st, B0, reduceIte, reduceEqDiff]
  refine put2_stCx (us := [pv0_0, pv0_1, pv0_2, .int .i64 v_0.Sent, .int .i64 v_0.Total]) rfl (cs' := [pv0_0, pv0_1, pv0_2, .int .i64 v_0.Sent,
      .int .i64 v_0.Total]) (Sep.m5 hS239) hW rfl (all_c (SlF.one ph0_0) (all_c (SlN.one hv192) (all_c (SlG.one hv232) (all_c rfl (all_c rfl all_n)))))
      (Nat.le_of_ble_eq_true rfl) rfl (fun h243 hS244 => ?_)
  simp only [run_mv, run_ops_nil, run_ret, B0, reduceIte, reduceEqDiff]
  obtain ⟨c245, hv246, hS247⟩ := SlG.cls (e' := (Picture.mk true x224 x200.In (List.set x200.Closed v_1.toNat true))) (c := c231) (os := c215 ++ (c240)) hv232 rfl hx201 hk_nil
      (Picture.RI (x := (Picture.mk true x224 x200.In (List.set x200.Closed v_1.toNat true))) hv216 hv241) (Sep.ni2 (c1 := c215) (c2 := c240) (Sep.m3 (Sep.m3 (Sep.m1 hS244))))
  have hx248 := geti_set (x' := (Picture.mk true x224 x200.In (List.set x200.Closed v_1.toNat true))) hx201
  have hv249 := SlG.toN hv246
  have he := some_inj hF235
  subst he
  refine end_ret_m (mapM1 (res_cell (bb := b5) (oo := 0) (v := .agg [pv0_0, pv0_1, pv0_2, .int .i64 v_0.Sent, .int .i64 v_0.Total]) (by simp only [f198, B0, reduceIte,
      reduceEqDiff]) ((xld_bs (Sep.bk _ _ _ (Sep.m1 hS247))).trans rfl)) (mapM1 (res_t (v := .bool true) (by simp only [B0, reduceIte, reduceEqDiff])) mapM0)) ?_
  exact ⟨pc0_0, c191, c245, by first | trivial | rfl, ph0_0, hv192, hv249, (Sep.m2 (Sep.m2 (Sep.dc (Sep.m1 hS247))))⟩
end Go.Proofs.Ytpkiieniipenjaa.X
namespace Go.Proofs.Ytpkiieniipenjaa.X
open Go
open Nat (reduceEqDiff)
theorem spec_l8Come_x {W : Nat → Bool} {h : Heap} {lo : Nat} {S0 : List Obj} (hW : ∀ b,
    lo ≤ b → W b = true) (v_0 : Snap) (pv0_0 : XV) (pc0_0 : List Obj) (ph0_0 : SlF cI 1 3 pv0_0 v_0.Amounts pc0_0) (pv0_1 : XV) (pc0_1 : List Obj)
    (ph0_1 : SlN Chan.R 3 74 pv0_1 v_0.Chans pc0_1) (pv0_2 : XV) (pc0_2 : List Obj) (ph0_2 : SlN Picture.R 4 76 pv0_2 v_0.Pictures pc0_2) (v_1 : Int) (r : Snap × Bool)
    (hF : spec_l8Come v_0 v_1 = some r) (hS : Sep h lo (pc0_0 ++ (pc0_1 ++ (pc0_2 ++ (S0))))) : Ret E W 73 [.agg [pv0_0, pv0_1, pv0_2, .int .i64 v_0.Sent, .int .i64 v_0.Total],
    .int .i64 v_1] h (fun v h' => ∃ rc0_0 rc0_1 rc0_2, v = .tup [.agg [pv0_0, pv0_1, pv0_2, .int .i64 r.1.Sent, .int .i64 r.1.Total],
    .bool r.2] ∧ SlF cI 1 3 pv0_0 r.1.Amounts rc0_0 ∧ SlN Chan.R 3 74 pv0_1 r.1.Chans rc0_1 ∧ SlN Picture.R 4 76 pv0_2 r.1.Pictures rc0_2 ∧ Sep h' lo (rc0_0 ++ (rc0_1 ++
    (rc0_2 ++ (S0))))) := by
  refine Ret.of (fn := x73) rfl (Run.of ?_)
  unfold spec_l8Come at hF
  have zf0 : argFr [.agg [pv0_0, pv0_1, pv0_2, .int .i64 v_0.Sent, .int .i64 v_0.Total], .int .i64 v_1] 0 = .agg [pv0_0, pv0_1, pv0_2, .int .i64 v_0.Sent,
      .int .i64 v_0.Total] := rfl
  have zf1 : argFr [.agg [pv0_0, pv0_1, pv0_2, .int .i64 v_0.Sent, .int .i64 v_0.Total], .int .i64 v_1] 1 = .int .i64 v_1 := rfl
  generalize argFr [.agg [pv0_0, pv0_1, pv0_2, .int .i64 v_0.Sent, .int .i64 v_0.Total], .int .i64 v_1] = fr0 at zf0 zf1 ⊢
  simp only [x73, run_seq, run_reg, run_box, zf0, B0, reduceIte, reduceEqDiff]
  refine put2_boxC (cs := [pv0_0, pv0_1, pv0_2, .int .i64 v_0.Sent,
      .int .i64 v_0.Total]) hS rfl rfl (all_c (SlF.one ph0_0) (all_c (SlN.one ph0_1) (all_c (SlN.one ph0_2) (all_c rfl (all_c rfl all_n))))) (fun b1 h2 hS3 => ?_)
  simp only [run_new, B0, reduceIte, reduceEqDiff]
  refine put2_newC hS3 (fun b5 h6 hS7 => ?_)
  simp only [run_mv, run_ops_nil, x73_15, run_seq, run_reg, run_fa, put1_some, Nat.reduceAdd, Nat.zero_add, Nat.add_zero, xfa_ptr, run_ld, B0, reduceIte, reduceEqDiff]
  refine put1_eq (v := pv0_1) ((xld_b (Sep.bk _ _ _ (Sep.m1 hS7))).trans rfl) ?_
  obtain ⟨x9, hx10, hF11⟩ := bind_some' hF
  simp only [zf1, run_mv, run_ia, B0, reduceIte, reduceEqDiff]
  obtain ⟨b12, hb13⟩ := SlN.isrow ph0_1 (geti_ne hx10)
  refine put1_eq (SlN.ia ph0_1 hb13 hx10) ?_
  obtain ⟨c14, cs15, os16, hv17, hR18, hS19⟩ := SlG.opn (SlN.toG ph0_1 hb13 Chan.RO.len) hx10 hk_nil Chan.RO.len (Sep.m3 hS7)
  obtain ⟨v21, c22, hv23, rfl, rfl⟩ := hR18
  have hS20 := Sep.no1 hS19
  simp only [run_ld, B0, reduceIte, reduceEqDiff]
  refine put1_eq (v := .agg [.int .i64 x9.From, .int .i64 x9.To, v21]) ((SlG.lds (o := 0) hv17 rfl hx10 hS20 (Nat.le_of_ble_eq_true rfl)).trans rfl) ?_
  simp only [run_new, B0, reduceIte, reduceEqDiff]
  refine put2_newC hS20 (fun b25 h26 hS27 => ?_)
  simp only [run_st, B0, reduceIte, reduceEqDiff]
  refine put2_stCx (us := [.int .i64 x9.From, .int .i64 x9.To, v21]) rfl (cs' := [.int .i64 x9.From, .int .i64 x9.To,
      v21]) hS27 hW rfl (all_c rfl (all_c rfl (all_c (SlF.one hv23) all_n))) (Nat.le_of_ble_eq_true rfl) rfl (fun h29 hS30 => ?_)
  simp only [run_ops_nil, B0, reduceIte, reduceEqDiff]
  refine frz_stepC hS30 hW (by simp only [B0, reduceIte, reduceEqDiff]) (fun h31 hS32 => ?_)
  simp only [run_frz_nil, x73_14, run_seq, run_reg, run_fa, put1_some, Nat.reduceAdd, Nat.zero_add, Nat.add_zero, xfa_ref, run_ld, B0, reduceIte, reduceEqDiff]
  refine put1_eq (v := v21) rfl ?_
  obtain ⟨x33, hx34, hF35⟩ := bind_some' hF11
  simp only [run_ia, B0, reduceIte, reduceEqDiff]
  obtain ⟨b36, hb37⟩ := SlF.isrow hv23 (geti_ne hx34)
  refine put1_eq (SlF.ia hv23 hb37 hx34) ?_
  simp only [run_ld, B0, reduceIte, reduceEqDiff]
  refine put1_eq (v := .int .i64 x33) ((SlF.ld (o := 0) hv23 (Sep.m1 hS32) hb37 hx34 (fun _ => rfl) (Nat.le_of_ble_eq_true rfl)).trans rfl) ?_
  simp only [run_mv, run_ops_nil, x73_13, run_seq, run_draw, d1_fa, put1d_some, Nat.reduceAdd, Nat.zero_add, Nat.add_zero, xfa_ptr, d1_ld, B0, reduceIte, reduceEqDiff]
  refine ldd_ptr (Sep.ltk (Sep.m3 hS32)) ?_
  refine put1d_eq (v := pv0_1) ((xld_b (Sep.bk _ _ _ (Sep.m3 hS32))).trans rfl) ?_
  simp only [zf1, d1_mv, put1d_some, d4_buildS, evp, B0, reduceIte, reduceEqDiff]
  refine put2d_buildSF (n := 1) (f := cI) ([] : List Int) hS32 rfl rfl (fun v38 c39 h40 hv41 hS42 => ?_)
  simp only [d4_fa, put1d_some, Nat.reduceAdd, Nat.zero_add, Nat.add_zero, xfa_ref, d4_ld, B0, reduceIte, reduceEqDiff]
  refine put1d_eq (v := v21) rfl ?_
  obtain ⟨l44, hx45, hF46⟩ := bind_some' hF35
  simp only [d4_slc, Option.map_some, Option.map_none, B0, reduceIte, reduceEqDiff]
  obtain ⟨w47, i48, he49, hw50⟩ := SlF.win (f := cI) (ty := 3) (some (1 : Int)) none hv23 hx45 (Sep.m2 hS42)
  refine put1d_eq he49 ?_
  simp only [d2_appQ, B0, reduceIte, reduceEqDiff]
  obtain ⟨l51, hx52, hF53⟩ := bind_some' hF46
  refine q_app (disjR1 (fun z hz => Sep.dj (Sep.m1 (Sep.m4 hS42)) blkfp (SlF.rowfp hv41 z hz)) disjR0) ?_
  refine put2d_appF (f := cI) hv41 hS42 hW (fun _ => rfl) (fun _ => rfl) (SlW.first hw50 hv23 (Sep.m2 hS42) (fun _ => rfl)) hx52 (fun v54 c55 h56 hv57 hS58 => ?_)
  simp only [d4_ia, B0, reduceIte, reduceEqDiff]
  refine put1d_eq (SlG.ia hv17 hx10) ?_
  simp only [d4_fa, put1d_some, Nat.reduceAdd, Nat.zero_add, Nat.add_zero, xfa_ptr, d3_st, B0, reduceIte, reduceEqDiff]
  refine put2d_stGx (us := [v54]) (o := 2) (cs' := [.int .i64 x9.From, .int .i64 x9.To,
      v54]) (cells_one (SlF.one hv57)) hv17 rfl hx10 (Sep.m1 hS58) hW rfl (all_c (SlF.one hv57) all_n) (Nat.le_of_ble_eq_true rfl) rfl (fun c62 h60 hv63 hS61 => ?_)
  simp only [run_draw_nil, x73_12, run_seq, run_reg, run_mv, run_bin, put1_some, xgtr, run_ops_nil, x73_5, run_cond, B0, reduceIte, reduceEqDiff]
  refine cond_split (t := (decide ((0 : Int) < x33))) (fun hc64 => ?_) (fun hc64 => ?_)
  · rw [iteT hc64] at hF53
    simp only [x73_4, run_seq, run_reg, run_fa, put1_some, Nat.reduceAdd, Nat.zero_add, Nat.add_zero, xfa_ptr, run_ld, B0, reduceIte, reduceEqDiff]
    refine put1_eq (v := pv0_0) ((xld_b (Sep.bk _ _ _ (Sep.m4 hS61))).trans rfl) ?_
    simp only [run_fa, put1_some, Nat.reduceAdd, Nat.zero_add, Nat.add_zero, xfa_ref, run_ld, B0, reduceIte, reduceEqDiff]
    refine put1_eq (v := .int .i64 x9.To) rfl ?_
    obtain ⟨x65, hx66, hF67⟩ := bind_some' hF53
    simp only [run_ia, B0, reduceIte, reduceEqDiff]
    obtain ⟨b68, hb69⟩ := SlF.isrow ph0_0 (geti_ne hx66)
    refine put1_eq (SlF.ia ph0_0 hb69 hx66) ?_
    simp only [run_ld, B0, reduceIte, reduceEqDiff]
    refine put1_eq (v := .int .i64 x65) ((SlF.ld (o := 0) ph0_0 (Sep.m5 hS61) hb69 hx66 (fun _ => rfl) (Nat.le_of_ble_eq_true rfl)).trans rfl) ?_
    simp only [run_mv, run_bin, put1_some, xadd, run_ia, B0, reduceIte, reduceEqDiff]
    refine put1_eq (SlF.ia ph0_0 hb69 hx66) ?_
    simp only [run_st, B0, reduceIte, reduceEqDiff]
    refine put2_stF (f := cI) (x' := (IntKind.wrap .i64 (x65 + x33))) (o := 0) ph0_0 (Sep.m5 hS61) hW hb69 hx66 (fun _ => rfl) rfl rfl (Nat.le_of_ble_eq_true rfl) rfl
        (fun c72 h70 hv73 hS71 => ?_)
    have hx74 := geti_set (x' := (IntKind.wrap .i64 (x65 + x33))) hx66
    simp only [run_ops_nil, x73_3, run_seq, run_draw, d4_fa, put1d_some, Nat.reduceAdd, Nat.zero_add, Nat.add_zero, xfa_ptr, d4_ld, B0, reduceIte, reduceEqDiff]
    refine put1d_eq (v := pv0_2) ((xld_b (Sep.bk _ _ _ (Sep.m5 hS71))).trans rfl) ?_
    simp only [d4_fa, put1d_some, Nat.reduceAdd, Nat.zero_add, Nat.add_zero, xfa_ref, d4_ld, B0, reduceIte, reduceEqDiff]
    refine put1d_eq (v := .int .i64 x9.To) rfl ?_
    obtain ⟨x75, hx76, hF77⟩ := bind_some' hF67
    simp only [d4_ia, B0, reduceIte, reduceEqDiff]
    obtain ⟨b78, hb79⟩ := SlN.isrow ph0_2 (geti_ne hx76)
    refine put1d_eq (SlN.ia ph0_2 hb79 hx76) ?_
    obtain ⟨c80, cs81, os82, hv83, hR84, hS85⟩ := SlG.opn (SlN.toG ph0_2 hb79 Picture.RO.len) hx76 hk_nil Picture.RO.len (Sep.m6 hS71)
    obtain ⟨v87, c88, v91, c92, hv89, hv93, rfl, rfl⟩ := hR84
    have hS86 := Sep.no2 hS85
    simp only [d4_fa, put1d_some, Nat.reduceAdd, Nat.zero_add, Nat.add_zero, xfa_ptr, d4_ld, B0, reduceIte, reduceEqDiff]
    refine put1d_eq (v := .bool x75.Taken) ((SlG.ld (o := 0) hv83 rfl hx76 hS86 (Nat.le_of_ble_eq_true rfl)).trans rfl) ?_
    simp only [d4_mv, put1d_some, B0, reduceIte, reduceEqDiff]
    obtain ⟨v98, hx99, hF100⟩ := bind_some' hF77
    refine draw_j 13 (fun fr' h' => Sep h' lo ([Blk1 b1 [pv0_0, pv0_1, pv0_2, .int .i64 v_0.Sent, .int .i64 v_0.Total] 30] ++ ([Blk1 b5 [.nil, .nil, .nil, .int .i64 0,
        .int .i64 0] 30] ++ (c22 ++ (c72 ++ (c62 ++ (c80 ++ (c55 ++ (c88 ++ (c92 ++
        (S0)))))))))) ∧ fr' 60 = .bool v98 ∧ fr' 2 = .ptr b1 0 ∧ fr' 4 = .ptr b5 0 ∧ fr' 6 = .ref [.int .i64 x9.From, .int .i64 x9.To,
        v21] 0 ∧ fr' 7 = .int .i64 x33) rfl (fun Q95 hN96 => ?_) ?_
    · simp only [List.take_succ_cons, List.take_zero]
      simp only [run_guardd (g := 47), B0, reduceIte, reduceEqDiff]
      refine guardd_split (t := x75.Taken) (fun hg97 => ?_) (fun hg97 => ?_)
      · rw [iteT hg97] at hx99
        simp only [hg97, run_guardd (g := 47), guardd_true, d4_fa, put1d_some, Nat.reduceAdd, Nat.zero_add, Nat.add_zero, xfa_ptr, d4_ld, B0, reduceIte, reduceEqDiff]
        refine put1d_eq (v := pv0_2) ((xld_b (Sep.bk _ _ _ (Sep.m8 hS86))).trans rfl) ?_
        simp only [hg97, run_guardd (g := 47), guardd_true, d4_fa, put1d_some, Nat.reduceAdd, Nat.zero_add, Nat.add_zero, xfa_ref, d4_ld, B0, reduceIte, reduceEqDiff]
        refine put1d_eq (v := .int .i64 x9.To) rfl ?_
        simp only [hg97, run_guardd (g := 47), guardd_true, d4_ia, B0, reduceIte, reduceEqDiff]
        refine put1d_eq (SlG.ia hv83 hx76) ?_
        simp only [hg97, run_guardd (g := 47), guardd_true, d4_fa, put1d_some, Nat.reduceAdd, Nat.zero_add, Nat.add_zero, xfa_ptr, d4_ld, B0, reduceIte, reduceEqDiff]
        refine put1d_eq (v := v91) ((SlG.ld (o := 3) hv83 rfl hx76 hS86 (Nat.le_of_ble_eq_true rfl)).trans rfl) ?_
        simp only [hg97, run_guardd (g := 47), guardd_true, d4_fa, put1d_some, Nat.reduceAdd, Nat.zero_add, Nat.add_zero, xfa_ref, d4_ld, B0, reduceIte, reduceEqDiff]
        refine put1d_eq (v := .int .i64 x9.From) rfl ?_
        obtain ⟨x101, hx102, hF103⟩ := bind_some' hx99
        simp only [hg97, run_guardd (g := 47), guardd_true, d4_ia, B0, reduceIte, reduceEqDiff]
        obtain ⟨b104, hb105⟩ := SlF.isrow hv93 (geti_ne hx102)
        refine put1d_eq (SlF.ia hv93 hb105 hx102) ?_
        simp only [hg97, run_guardd (g := 47), guardd_true, d4_ld, B0, reduceIte, reduceEqDiff]
        refine put1d_eq (v := .bool x101) ((SlF.ld (o := 0) hv93 (Sep.m2 hS86) hb105 hx102 (fun _ => rfl) (Nat.le_of_ble_eq_true rfl)).trans rfl) ?_
        simp only [hg97, run_guardd (g := 47), guardd_true, d4_un, put1d_some, xnot, d4_pick, xpick_t, run_draw_nil, run_nil, B0, reduceIte, reduceEqDiff]
        have e106 := some_inj hF103
        exact hN96 _ _ ⟨(Sep.m8 (Sep.m7 (Sep.m6 (Sep.m5 (Sep.m5 (Sep.m3 (Sep.m5 (Sep.m2 (Sep.m2 hS86))))))))), by rw [← e106]; simp only [B0, reduceIte, reduceEqDiff],
            by simp only [B0, reduceIte, reduceEqDiff], by simp only [B0, reduceIte, reduceEqDiff], by simp only [B0, reduceIte, reduceEqDiff], by simp only [B0, reduceIte,
            reduceEqDiff]⟩
      · rw [iteF hg97] at hx99
        simp only [hg97, run_guardd (g := 47), guardd_off, d4_pick, put1d_some, xpick_f, run_draw_nil, run_nil, B0, reduceIte, reduceEqDiff]
        have e107 := some_inj hx99
        exact hN96 _ _ ⟨(Sep.m8 (Sep.m7 (Sep.m6 (Sep.m5 (Sep.m5 (Sep.m3 (Sep.m5 (Sep.m2 (Sep.m2 hS86))))))))), by rw [← e107]; simp only [B0, reduceIte, reduceEqDiff],
            by simp only [B0, reduceIte, reduceEqDiff], by simp only [B0, reduceIte, reduceEqDiff], by simp only [B0, reduceIte, reduceEqDiff], by simp only [B0, reduceIte,
            reduceEqDiff]⟩
    rintro fr108 h114 ⟨hS115, f109, f110, f111, f112, f113⟩
    simp only [List.drop_succ_cons, List.drop_zero]
    simp only [run_draw_nil, x73_2, f109, run_cond, B0, reduceIte, reduceEqDiff]
    obtain ⟨c116, hv117, hS118⟩ := SlG.cls (e' := (Chan.mk x9.From x9.To l51)) (c := c62) (os := c55) hv63 rfl hx10 hk_nil (Chan.RI (x := (Chan.mk x9.From x9.To l51)) hv57)
        (Sep.m5 (Sep.m6 hS115))
    have hx119 := geti_set (x' := (Chan.mk x9.From x9.To l51)) hx10
    have hv120 := SlG.toN hv117
    obtain ⟨c121, hv122, hS123⟩ := SlG.cls0 (c := c80) (os := c88 ++ (c92)) hv83 rfl hx76 hk_nil (Picture.RI (x := x75) hv89 hv93) (Sep.ni2 (c1 := c88) (c2 := c92) (Sep.m7
        (Sep.m7 (Sep.m7 hS118))))
    have hv124 := SlG.toN hv122
    obtain ⟨s125, hX129, hk130⟩ := bind_some' hF100
    refine cond_j (t := v98) (fun fr' h' => ∃ c126, fr' 2 = .ptr b1 0 ∧ fr' 4 = .ptr b5 0 ∧ SlN Picture.R 4 76 pv0_2 s125 c126 ∧ Sep h' lo ([Blk1 b1 [pv0_0, pv0_1, pv0_2,
        .int .i64 v_0.Sent, .int .i64 v_0.Total] 30] ++ ([Blk1 b5 [.nil, .nil, .nil, .int .i64 0,
        .int .i64 0] 30] ++ (c72 ++ (c116 ++ (c126 ++ (S0))))))) (fun Q131 hN132 hR133 hE134 => ⟨fun hc135 => ?_, fun hc135 => ?_⟩) ?_
    · rw [iteT hc135] at hX129
      simp only [x73_1, run_draw, f110, d4_fa, put1d_some, Nat.reduceAdd, Nat.zero_add, Nat.add_zero, xfa_ptr, d4_ld, B0, reduceIte, reduceEqDiff]
      refine put1d_eq (v := pv0_2) ((xld_b (Sep.bk _ _ _ (Sep.m2 hS123))).trans rfl) ?_
      simp only [f112, d4_fa, put1d_some, Nat.reduceAdd, Nat.zero_add, Nat.add_zero, xfa_ref, d4_ld, B0, reduceIte, reduceEqDiff]
      refine put1d_eq (v := .int .i64 x9.To) rfl ?_
      simp only [d4_ia, B0, reduceIte, reduceEqDiff]
      refine put1d_eq (SlN.ia hv124 hb79 hx76) ?_
      obtain ⟨c136, cs137, os138, hv139, hR140, hS141⟩ := SlG.opn (SlN.toG hv124 hb79 Picture.RO.len) hx76 hk_nil Picture.RO.len hS123
      obtain ⟨v143, c144, v147, c148, hv145, hv149, rfl, rfl⟩ := hR140
      have hS142 := Sep.no2 hS141
      simp only [d4_fa, put1d_some, Nat.reduceAdd, Nat.zero_add, Nat.add_zero, xfa_ptr, d4_ld, B0, reduceIte, reduceEqDiff]
      refine put1d_eq (v := v143) ((SlG.ld (o := 2) hv139 rfl hx76 hS142 (Nat.le_of_ble_eq_true rfl)).trans rfl) ?_
      simp only [f112, d4_fa, put1d_some, Nat.reduceAdd, Nat.zero_add, Nat.add_zero, xfa_ref, d4_ld, B0, reduceIte, reduceEqDiff]
      refine put1d_eq (v := .int .i64 x9.From) rfl ?_
      obtain ⟨x151, hx152, hF153⟩ := bind_some' hX129
      simp only [d4_ia, B0, reduceIte, reduceEqDiff]
      obtain ⟨b154, hb155⟩ := SlF.isrow hv145 (geti_ne hx152)
      refine put1d_eq (SlF.ia hv145 hb155 hx152) ?_
      simp only [d4_ld, B0, reduceIte, reduceEqDiff]
      refine put1d_eq (v := .int .i64 x151) ((SlF.ld (o := 0) hv145 (Sep.m1 hS142) hb155 hx152 (fun _ => rfl) (Nat.le_of_ble_eq_true rfl)).trans rfl) ?_
      simp only [f113, d4_mv, put1d_some, d4_bin, xadd, d4_ia, B0, reduceIte, reduceEqDiff]
      refine put1d_eq (SlF.ia hv145 hb155 hx152) ?_
      simp only [d3_st, B0, reduceIte, reduceEqDiff]
      refine put2d_stF (f := cI) (x' := (IntKind.wrap .i64 (x151 + x33))) (o := 0) hv145 (Sep.m1 hS142) hW hb155 hx152 (fun _ => rfl) rfl rfl (Nat.le_of_ble_eq_true rfl) rfl
          (fun c158 h156 hv159 hS157 => ?_)
      have hx160 := geti_set (x' := (IntKind.wrap .i64 (x151 + x33))) hx152
      simp only [run_draw_nil, run_nil, B0, reduceIte, reduceEqDiff]
      obtain ⟨c161, hv162, hS163⟩ := SlG.cls (e' := (Picture.mk x75.Taken x75.Amount (List.set x75.In x9.From.toNat (IntKind.wrap .i64 (x151 + x33))) x75.Closed)) (c := c136)
          (os := c158 ++ (c148)) hv139 rfl hx76 hk_nil (Picture.RI (x := (Picture.mk x75.Taken x75.Amount (List.set x75.In x9.From.toNat (IntKind.wrap .i64
          (x151 + x33))) x75.Closed)) hv159 hv149) (Sep.ni2 (c1 := c158) (c2 := c148) (Sep.m2 (Sep.m1 (Sep.m2 hS157))))
      have hx164 := geti_set (x' := (Picture.mk x75.Taken x75.Amount (List.set x75.In x9.From.toNat (IntKind.wrap .i64 (x151 + x33))) x75.Closed)) hx76
      have hv165 := SlG.toN hv162
      have e166 := some_inj hF153
      subst e166
      exact hN132 _ _ ⟨c161, by simp only [f110, B0, reduceIte, reduceEqDiff], by simp only [f111, B0, reduceIte, reduceEqDiff], hv165,
          (Sep.m4 (Sep.m4 (Sep.m4 (Sep.m1 (Sep.dc (Sep.m4 hS163))))))⟩
    · rw [iteF hc135] at hX129
      simp only [run_skip, run_nil, B0, reduceIte, reduceEqDiff]
      have e167 := some_inj hX129
      subst e167
      exact hN132 _ _ ⟨c121, by simp only [f110, B0, reduceIte, reduceEqDiff], by simp only [f111, B0, reduceIte, reduceEqDiff], hv124,
          (Sep.m4 (Sep.m4 (Sep.m4 (Sep.m1 (Sep.dc (Sep.m4 hS123))))))⟩
    rintro fr168 h169 ⟨c126, f171, f172, hv127, hS170⟩
    unfold spec_l8Come_j1 at hk130
    simp only [run_seq, run_reg, f171, run_ld, B0, reduceIte, reduceEqDiff]
    refine put1_eq (v := .agg [pv0_0, pv0_1, pv0_2, .int .i64 v_0.Sent, .int .i64 v_0.Total]) ((xld_bs (Sep.bk _ _ _ hS170)).trans rfl) ?_
    simp only [f172, run_st, B0, reduceIte, reduceEqDiff]
    refine put2_stCx (us := [pv0_0, pv0_1, pv0_2, .int .i64 v_0.Sent, .int .i64 v_0.Total]) rfl (cs' := [pv0_0, pv0_1, pv0_2, .int .i64 v_0.Sent,
        .int .i64 v_0.Total]) (Sep.m1 hS170) hW rfl (all_c (SlF.one hv73) (all_c (SlN.one hv120) (all_c (SlN.one hv127) (all_c rfl (all_c rfl all_n)))))
        (Nat.le_of_ble_eq_true rfl) rfl (fun h173 hS174 => ?_)
    simp only [run_mv, run_ops_nil, run_ret, B0, reduceIte, reduceEqDiff]
    have he := some_inj hk130
    subst he
    refine end_ret_m (mapM1 (res_cell (bb := b5) (oo := 0) (v := .agg [pv0_0, pv0_1, pv0_2, .int .i64 v_0.Sent, .int .i64 v_0.Total]) (by simp only [f172, B0, reduceIte,
        reduceEqDiff]) ((xld_bs (Sep.bk _ _ _ hS174)).trans rfl)) (mapM1 (res_t (v := .bool true) (by simp only [B0, reduceIte, reduceEqDiff])) mapM0)) ?_
    exact ⟨c72, c116, c126, by first | trivial | rfl, hv73, hv120, hv127, (Sep.m2 (Sep.m2 (Sep.m2 (Sep.dc ((Sep.dc (hS174)))))))⟩
  rw [iteF hc64] at hF53
  simp only [run_skip, x73_11, run_seq, run_reg, run_fa, put1_some, Nat.reduceAdd, Nat.zero_add, Nat.add_zero, xfa_ptr, run_ld, B0, reduceIte, reduceEqDiff]
  refine put1_eq (v := pv0_2) ((xld_b (Sep.bk _ _ _ (Sep.m4 hS61))).trans rfl) ?_
  simp only [run_fa, put1_some, Nat.reduceAdd, Nat.zero_add, Nat.add_zero, xfa_ref, run_ld, B0, reduceIte, reduceEqDiff]
  refine put1_eq (v := .int .i64 x9.To) rfl ?_
  obtain ⟨x176, hx177, hF178⟩ := bind_some' hF53
  simp only [run_ia, B0, reduceIte, reduceEqDiff]
  obtain ⟨b179, hb180⟩ := SlN.isrow ph0_2 (geti_ne hx177)
  refine put1_eq (SlN.ia ph0_2 hb180 hx177) ?_
  obtain ⟨c181, cs182, os183, hv184, hR185, hS186⟩ := SlG.opn (SlN.toG ph0_2 hb180 Picture.RO.len) hx177 hk_nil Picture.RO.len (Sep.m6 hS61)
  obtain ⟨v188, c189, v192, c193, hv190, hv194, rfl, rfl⟩ := hR185
  have hS187 := Sep.no2 hS186
  simp only [run_fa, put1_some, Nat.reduceAdd, Nat.zero_add, Nat.add_zero, xfa_ptr, run_ld, B0, reduceIte, reduceEqDiff]
  refine put1_eq (v := .bool x176.Taken) ((SlG.ld (o := 0) hv184 rfl hx177 hS187 (Nat.le_of_ble_eq_true rfl)).trans rfl) ?_
  simp only [run_un, put1_some, xnot, run_ops_nil, x73_9, run_cond, B0, reduceIte, reduceEqDiff]
  obtain ⟨c196, hv197, hS198⟩ := SlG.cls0 (c := c181) (os := c189 ++ (c193)) hv184 rfl hx177 hk_nil (Picture.RI (x := x176) hv190 hv194) (Sep.ni2 (c1 := c189) (c2 := c193)
      (Sep.m2 (Sep.m2 (Sep.m2 hS187))))
  have hv199 := SlG.toN hv197
  obtain ⟨c200, hv201, hS202⟩ := SlG.cls (e' := (Chan.mk x9.From x9.To l51)) (c := c62) (os := c55) hv63 rfl hx10 hk_nil (Chan.RI (x := (Chan.mk x9.From x9.To l51)) hv57) (Sep.m2
      (Sep.m2 hS198))
  have hx203 := geti_set (x' := (Chan.mk x9.From x9.To l51)) hx10
  have hv204 := SlG.toN hv201
  obtain ⟨oc215, hX216, hk217⟩ := jn_some hF178
  refine cond_j (t := (!x176.Taken)) (fun fr' h' => ∃ s, oc215 = .nxt s ∧ ∃ c207 c210 c213, fr' 2 = .ptr b1 0 ∧ fr' 4 = .ptr b5 0 ∧ fr' 6 = .ref [.int .i64 x9.From,
      .int .i64 x9.To, v21] 0 ∧ SlF cI 1 3 pv0_0 s.2.1 c207 ∧ SlN Chan.R 3 74 pv0_1 s.2.2.1 c210 ∧ SlN Picture.R 4 76 pv0_2 s.2.2.2 c213 ∧ Sep h' lo ([Blk1 b1 [pv0_0, pv0_1,
      pv0_2, .int .i64 s.1.Sent, .int .i64 s.1.Total] 30] ++ ([Blk1 b5 [.nil, .nil, .nil, .int .i64 0,
      .int .i64 0] 30] ++ (c22 ++ (c207 ++ (c210 ++ (c213 ++ (S0)))))))) (fun Q218 hN219 hR220 hE221 => ⟨fun hc222 => ?_, fun hc222 => ?_⟩) ?_
  · rw [iteT hc222] at hX216
    simp only [x73_8, run_seq, run_reg, run_ld, B0, reduceIte, reduceEqDiff]
    refine put1_eq (v := .agg [pv0_0, pv0_1, pv0_2, .int .i64 v_0.Sent, .int .i64 v_0.Total]) ((xld_bs (Sep.bk _ _ _ (Sep.m4 hS202))).trans rfl) ?_
    simp only [run_fa, put1_some, Nat.reduceAdd, Nat.zero_add, Nat.add_zero, xfa_ref, run_ld, B0, reduceIte, reduceEqDiff]
    refine put1_eq (v := .int .i64 x9.To) rfl ?_
    obtain ⟨v223, hx224, hF225⟩ := bind_some' hX216
    simp only [run_call, B0, reduceIte, reduceEqDiff]
    refine call0 rfl (spec_l8Take_x hW (Snap.mk v_0.Amounts (List.set v_0.Chans v_1.toNat
        (Chan.mk x9.From x9.To l51)) v_0.Pictures v_0.Sent v_0.Total) pv0_0 pc0_0 ph0_0 pv0_1 c200 hv204 pv0_2 c196 hv199 x9.To v223 hx224 (Sep.m5 (Sep.m1 (Sep.m1 hS202)))) ?_
    rintro _ h232 ⟨c226, c228, c230, rfl, hv227, hv229, hv231, hS233⟩
    simp only [run_mv, run_ext, put1_some, xext_0, xext_1, run_new, B0, reduceIte, reduceEqDiff]
    refine put2_newC hS233 (fun b234 h235 hS236 => ?_)
    simp only [run_st, B0, reduceIte, reduceEqDiff]
    refine put2_stCx (us := [pv0_0, pv0_1, pv0_2, .int .i64 v223.1.Sent, .int .i64 v223.1.Total]) rfl (cs' := [pv0_0, pv0_1, pv0_2, .int .i64 v223.1.Sent,
        .int .i64 v223.1.Total]) hS236 hW rfl (all_c (SlF.one hv227) (all_c (SlN.one hv229) (all_c (SlN.one hv231) (all_c rfl (all_c rfl all_n)))))
        (Nat.le_of_ble_eq_true rfl) rfl (fun h238 hS239 => ?_)
    simp only [run_mv, run_ops_nil, B0, reduceIte, reduceEqDiff]
    refine frz_stepC hS239 hW (by simp only [B0, reduceIte, reduceEqDiff]) (fun h240 hS241 => ?_)
    simp only [run_frz_nil, x73_7, run_seq, run_reg, run_mv, run_un, put1_some, xnot, run_ops_nil, x73_6, run_cond, B0, reduceIte, reduceEqDiff]
    refine cond_split (t := (!v223.2)) (fun hc242 => ?_) (fun hc242 => ?_)
    · rw [iteT hc242] at hF225
      simp only [run_seq, run_reg, run_ld, B0, reduceIte, reduceEqDiff]
      refine put1_eq (v := .agg [pv0_0, pv0_1, pv0_2, .int .i64 v_0.Sent, .int .i64 v_0.Total]) ((xld_bs (Sep.bk _ _ _ (Sep.m5 hS241))).trans rfl) ?_
      simp only [run_st, B0, reduceIte, reduceEqDiff]
      refine put2_stCx (us := [pv0_0, pv0_1, pv0_2, .int .i64 v_0.Sent, .int .i64 v_0.Total]) rfl (cs' := [pv0_0, pv0_1, pv0_2, .int .i64 v_0.Sent,
          .int .i64 v_0.Total]) (Sep.m4 hS241) hW rfl (all_c (SlF.one hv227) (all_c (SlN.one hv229) (all_c (SlN.one hv231) (all_c rfl (all_c rfl all_n)))))
          (Nat.le_of_ble_eq_true rfl) rfl (fun h243 hS244 => ?_)
      simp only [run_mv, run_ops_nil, run_ret, B0, reduceIte, reduceEqDiff]
      have e245 := some_inj hF225
      subst e245
      have hk217' := hk217
      dsimp only [jnO] at hk217'
      apply hR220
      have he := some_inj hk217'
      subst he
      refine end_ret_m (mapM1 (res_cell (bb := b5) (oo := 0) (v := .agg [pv0_0, pv0_1, pv0_2, .int .i64 v_0.Sent, .int .i64 v_0.Total]) (by simp only [B0, reduceIte,
          reduceEqDiff]) ((xld_bs (Sep.bk _ _ _ hS244)).trans rfl)) (mapM1 (res_t (v := .bool false) (by simp only [B0, reduceIte, reduceEqDiff])) mapM0)) ?_
      exact ⟨c226, c228, c230, by first | trivial | rfl, hv227, hv229, hv231, (Sep.m2 (Sep.m2 (Sep.m2 (Sep.dc (Sep.m3 (Sep.dc (Sep.m3 (Sep.dc (hS244)))))))))⟩
    rw [iteF hc242] at hF225
    simp only [run_skip, run_reg, run_ld, B0, reduceIte, reduceEqDiff]
    refine put1_eq (v := .agg [pv0_0, pv0_1, pv0_2, .int .i64 v223.1.Sent, .int .i64 v223.1.Total]) rfl ?_
    simp only [run_st, B0, reduceIte, reduceEqDiff]
    refine put2_stCx (us := [pv0_0, pv0_1, pv0_2, .int .i64 v223.1.Sent, .int .i64 v223.1.Total]) rfl (cs' := [pv0_0, pv0_1, pv0_2, .int .i64 v223.1.Sent,
        .int .i64 v223.1.Total]) (Sep.m5 hS241) hW rfl (all_c (SlF.one hv227) (all_c (SlN.one hv229) (all_c (SlN.one hv231) (all_c rfl (all_c rfl all_n)))))
        (Nat.le_of_ble_eq_true rfl) rfl (fun h246 hS247 => ?_)
    simp only [run_ops_nil, run_nil, B0, reduceIte, reduceEqDiff]
    have e248 := some_inj hF225
    exact hN219 _ _ ⟨_, e248.symm, c226, c228, c230, by simp only [B0, reduceIte, reduceEqDiff], by simp only [B0, reduceIte, reduceEqDiff], by simp only [B0, reduceIte,
        reduceEqDiff], hv227, hv229, hv231, (Sep.m5 (Sep.m5 (Sep.m4 (Sep.m3 (Sep.m3 (Sep.m3 hS247))))))⟩
  · rw [iteF hc222] at hX216
    simp only [run_skip, run_nil, B0, reduceIte, reduceEqDiff]
    have e249 := some_inj hX216
    exact hN219 _ _ ⟨_, e249.symm, pc0_0, c200, c196, by simp only [B0, reduceIte, reduceEqDiff], by simp only [B0, reduceIte, reduceEqDiff], by simp only [B0, reduceIte,
        reduceEqDiff], ph0_0, hv204, hv199, (Sep.m5 (Sep.m4 (Sep.m3 (Sep.m5 (Sep.m1 (Sep.m1 hS202))))))⟩
  rintro fr250 h251 ⟨⟨s205, s206, s209, s212⟩, rfl, c207, c210, c213, f253, f254, f255, hv208, hv211, hv214, hS252⟩
  dsimp only [jnO] at hk217
  dsimp only at *
  unfold spec_l8Come_j2 at hk217
  simp only [x73_10, run_seq, run_draw, f253, d4_fa, put1d_some, Nat.reduceAdd, Nat.zero_add, Nat.add_zero, xfa_ptr, d4_ld, B0, reduceIte, reduceEqDiff]
  refine put1d_eq (v := pv0_2) ((xld_b (Sep.bk _ _ _ hS252)).trans rfl) ?_
  simp only [f255, d4_fa, put1d_some, Nat.reduceAdd, Nat.zero_add, Nat.add_zero, xfa_ref, d4_ld, B0, reduceIte, reduceEqDiff]
  refine put1d_eq (v := .int .i64 x9.To) rfl ?_
  obtain ⟨x256, hx257, hF258⟩ := bind_some' hk217
  simp only [d4_ia, B0, reduceIte, reduceEqDiff]
  refine put1d_eq (SlN.ia hv214 hb180 hx257) ?_
  obtain ⟨c259, cs260, os261, hv262, hR263, hS264⟩ := SlG.opn (SlN.toG hv214 hb180 Picture.RO.len) hx257 hk_nil Picture.RO.len (Sep.m5 hS252)
  obtain ⟨v266, c267, v270, c271, hv268, hv272, rfl, rfl⟩ := hR263
  have hS265 := Sep.no2 hS264
  simp only [d4_fa, put1d_some, Nat.reduceAdd, Nat.zero_add, Nat.add_zero, xfa_ptr, d4_ld, B0, reduceIte, reduceEqDiff]
  refine put1d_eq (v := v270) ((SlG.ld (o := 3) hv262 rfl hx257 hS265 (Nat.le_of_ble_eq_true rfl)).trans rfl) ?_
  simp only [f255, d4_fa, put1d_some, Nat.reduceAdd, Nat.zero_add, Nat.add_zero, xfa_ref, d4_ld, B0, reduceIte, reduceEqDiff]
  refine put1d_eq (v := .int .i64 x9.From) rfl ?_
  obtain ⟨x274, hx275, hF276⟩ := bind_some' hF258
  simp only [d4_ia, B0, reduceIte, reduceEqDiff]
  obtain ⟨b277, hb278⟩ := SlF.isrow hv272 (geti_ne hx275)
  refine put1d_eq (SlF.ia hv272 hb278 hx275) ?_
  simp only [d3_st, B0, reduceIte, reduceEqDiff]
  refine put2d_stF (f := cB) (x' := true) (o := 0) hv272 (Sep.m2 hS265) hW hb278 hx275 (fun _ => rfl) rfl rfl (Nat.le_of_ble_eq_true rfl) rfl (fun c281 h279 hv282 hS280 => ?_)
  have hx283 := geti_set (x' := true) hx275
  simp only [run_draw_nil, run_seq, run_reg, f253, run_ld, B0, reduceIte, reduceEqDiff]
  refine put1_eq (v := .agg [pv0_0, pv0_1, pv0_2, .int .i64 s205.Sent, .int .i64 s205.Total]) ((xld_bs (Sep.bk _ _ _ (Sep.m3 hS280))).trans rfl) ?_
  simp only [f254, run_st, B0, reduceIte, reduceEqDiff]
  refine put2_stCx (us := [pv0_0, pv0_1, pv0_2, .int .i64 s205.Sent, .int .i64 s205.Total]) rfl (cs' := [pv0_0, pv0_1, pv0_2, .int .i64 s205.Sent,
      .int .i64 s205.Total]) (Sep.m4 hS280) hW rfl (all_c (SlF.one hv208) (all_c (SlN.one hv211) (all_c (SlG.one hv262) (all_c rfl (all_c rfl all_n)))))
      (Nat.le_of_ble_eq_true rfl) rfl (fun h284 hS285 => ?_)
  simp only [run_mv, run_ops_nil, run_ret, B0, reduceIte, reduceEqDiff]
  obtain ⟨c286, hv287, hS288⟩ := SlG.cls (e' := (Picture.mk x256.Taken x256.Amount x256.In (List.set x256.Closed x9.From.toNat true))) (c := c259) (os := c267 ++
      (c281)) hv262 rfl hx257 hk_nil (Picture.RI (x := (Picture.mk x256.Taken x256.Amount x256.In (List.set x256.Closed x9.From.toNat true))) hv268 hv282) (Sep.ni2 (c1 := c267)
      (c2 := c281) (Sep.m3 (Sep.m3 (Sep.m1 hS285))))
  have hx289 := geti_set (x' := (Picture.mk x256.Taken x256.Amount x256.In (List.set x256.Closed x9.From.toNat true))) hx257
  have hv290 := SlG.toN hv287
  have he := some_inj hF276
  subst he
  refine end_ret_m (mapM1 (res_cell (bb := b5) (oo := 0) (v := .agg [pv0_0, pv0_1, pv0_2, .int .i64 s205.Sent, .int .i64 s205.Total]) (by simp only [f254, B0, reduceIte,
      reduceEqDiff]) ((xld_bs (Sep.bk _ _ _ (Sep.m1 hS288))).trans rfl)) (mapM1 (res_t (v := .bool true) (by simp only [B0, reduceIte, reduceEqDiff])) mapM0)) ?_
  exact ⟨c207, c210, c286, by first | trivial | rfl, hv208, hv211, hv290, (Sep.m2 (Sep.m2 (Sep.dc (Sep.m1 (Sep.dc (Sep.m1 (Sep.dc (Sep.m1 hS288))))))))⟩
end Go.Proofs.Ytpkiieniipenjaa.X
