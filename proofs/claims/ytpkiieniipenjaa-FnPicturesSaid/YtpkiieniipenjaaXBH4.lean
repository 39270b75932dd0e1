/- The functions' code comes to what the plain functions say (4). -/
import Derived.Test.YtpkiieniipenjaaXBH3
set_option linter.unusedVariables false
set_option linter.unusedSimpArgs false
set_option maxRecDepth 100000
namespace Go.Proofs.Ytpkiieniipenjaa.X
open Go
open Nat (reduceEqDiff)
theorem spec_PlaySnap_x {W : Nat → Bool} {h : Heap} (hW : ∀ b,
    (geL h.length) b → W b = true) (k : Nat) (procs_0 : Int) (amount_1 : Int) (l_2 : List SnapStep) (r : Snap × (List Bool) × Bool)
    (hF : spec_PlaySnap k procs_0 amount_1 l_2 = some r) : Ret E W 8 [.int .i64 procs_0, .int .i64 amount_1,
    lst SnapStep.cells l_2] h (fun v h' => ∃ rv0_0 rc0_0 rv0_1 rc0_1 rv0_2 rc0_2 rv1 rc1, v = .tup [.agg [rv0_0, rv0_1, rv0_2, .int .i64 r.1.Sent, .int .i64 r.1.Total], rv1,
    .bool r.2.2] ∧ SlF cI 1 3 rv0_0 r.1.Amounts rc0_0 ∧ SlN Chan.R 3 74 rv0_1 r.1.Chans rc0_1 ∧ SlN Picture.R 4 76 rv0_2 r.1.Pictures rc0_2 ∧ SlF cB 1 4 rv1 r.2.1 rc1 ∧ Sep h'
    (geL h.length) (rc0_0 ++ (rc0_1 ++ (rc0_2 ++ (rc1 ++ ([])))))) := by
  refine Ret.of (fn := x8) rfl (Run.of ?_)
  unfold spec_PlaySnap at hF
  have zf0 : argFr [.int .i64 procs_0, .int .i64 amount_1, lst SnapStep.cells l_2] 0 = .int .i64 procs_0 := rfl
  have zf1 : argFr [.int .i64 procs_0, .int .i64 amount_1, lst SnapStep.cells l_2] 1 = .int .i64 amount_1 := rfl
  have zf2 : argFr [.int .i64 procs_0, .int .i64 amount_1, lst SnapStep.cells l_2] 2 = lst SnapStep.cells l_2 := rfl
  generalize argFr [.int .i64 procs_0, .int .i64 amount_1, lst SnapStep.cells l_2] = fr0 at zf0 zf1 zf2 ⊢
  have hS : Sep h (geL h.length) [] := Sep.nil h
  simp only [x8, run_seq, run_reg, run_new, B0, reduceIte, reduceEqDiff]
  refine put2_newC hS (fun b1 h2 hS3 => ?_)
  obtain ⟨v5, hx6, hF7⟩ := bind_some' hF
  simp only [run_mv, run_ops_nil, x8_14, run_seq, run_reg, zf0, zf1, run_call, B0, reduceIte, reduceEqDiff]
  refine call2 rfl hS3 (mapM1 snap_int (mapM1 snap_int mapM0)) (spec_NewSnap_x (fun b hb => decide_eq_true hb) k procs_0 amount_1 v5 hx6) ?_
  rintro _ h20 ⟨v8, c9, v12, c13, v16, c17, rfl, hv10, hv14, hv18, hS21⟩
  refine ⟨_, free_t (all_c (free2_a (all_c (SlF.free1 hv10) (all_c (SlN.free1 hv14) (all_c (SlN.free1 hv18) (all_c rfl (all_c rfl all_n)))))) (all_c rfl all_n)), hS21,
      (pf_app (SlF.pf hv10 (fun _ => rfl)) (pf_app (SlN.pf hv14 Chan.RO) (pf_app (SlN.pf hv18 Picture.RO) pf_nil))), fun h22 hS23 => ?_⟩
  have hS24 : Sep h22 (geL h.length) (c9 ++ (c13 ++ (c17 ++ ([Blk1 b1 [.nil, .nil, .nil, .int .i64 0, .int .i64 0] 30] ++ ([]))))) := by simpa only [List.append_assoc,
      List.nil_append] using hS23
  simp only [run_mv, run_ext, put1_some, xext_0, xext_1, run_new, B0, reduceIte, reduceEqDiff]
  refine put2_newC hS24 (fun b25 h26 hS27 => ?_)
  simp only [run_st, B0, reduceIte, reduceEqDiff]
  refine put2_stCx (us := [v8, v12, v16, .int .i64 v5.1.Sent, .int .i64 v5.1.Total]) rfl (cs' := [v8, v12, v16, .int .i64 v5.1.Sent,
      .int .i64 v5.1.Total]) hS27 hW rfl (all_c (SlF.one hv10) (all_c (SlN.one hv14) (all_c (SlN.one hv18) (all_c rfl (all_c rfl all_n))))) (Nat.le_of_ble_eq_true rfl) rfl
      (fun h29 hS30 => ?_)
  simp only [run_mv, run_ops_nil, x8_13, run_seq, run_reg, run_un, put1_some, xnot, B0, reduceIte, reduceEqDiff]
  refine ops_j 4 (fun fr' h' => Sep h' (geL h.length) ([Blk1 b1 [.nil, .nil, .nil, .int .i64 0, .int .i64 0] 30] ++ ([Blk1 b25 [v8, v12, v16, .int .i64 v5.1.Sent,
      .int .i64 v5.1.Total] 30] ++ (c9 ++ (c13 ++ (c17 ++ ([])))))) ∧ fr' 28 = .bool ((!v5.2) || (decide ((80 : Int) <
      (List.length l_2 : Int)))) ∧ fr' 2 = lst SnapStep.cells l_2 ∧ fr' 6 = .ptr b1 0 ∧ fr' 9 = .ptr b25 0) (fun Q31 hN32 => ?_) ?_
  · simp only [List.take_succ_cons, List.take_zero]
    simp only [run_guard (g := 24), B0, reduceIte, reduceEqDiff]
    refine guard_split (t := (!v5.2)) (fun hg33 => ?_) (fun hg33 => ?_)
    · simp only [hg33, run_guard (g := 24), guard_off', run_pick, put1_some, xpick_t, run_ops_nil, run_nil, B0, reduceIte, reduceEqDiff]
      exact hN32 _ _ ⟨(Sep.m4 (Sep.m3 (Sep.m3 (Sep.m3 (Sep.m3 hS30))))), by rw [orT hg33]; simp only [B0, reduceIte, reduceEqDiff], zf2, rfl, rfl⟩
    · simp only [hg33, run_guard (g := 24), guard_false, zf2, run_mv, run_len, put1_some, xlen_lst, run_bin, xgtr, run_pick, xpick_f, run_ops_nil, run_nil, B0, reduceIte,
        reduceEqDiff]
      exact hN32 _ _ ⟨(Sep.m4 (Sep.m3 (Sep.m3 (Sep.m3 (Sep.m3 hS30))))), by rw [orF hg33]; simp only [B0, reduceIte, reduceEqDiff], zf2, rfl, rfl⟩
  rintro fr34 h39 ⟨hS40, f35, f36, f37, f38⟩
  simp only [List.drop_succ_cons, List.drop_zero]
  simp only [run_ops_nil, x8_2, f35, run_cond, B0, reduceIte, reduceEqDiff]
  refine cond_split (t := ((!v5.2) || (decide ((80 : Int) < (List.length l_2 : Int))))) (fun hc41 => ?_) (fun hc41 => ?_)
  · rw [iteT hc41] at hF7
    simp only [x8_1, run_seq, run_reg, run_build, evp, B0, reduceIte, reduceEqDiff]
    refine put1_eq (v := .agg [.nil, .nil, .nil, .int .i64 0, .int .i64 0]) rfl ?_
    simp only [f37, run_st, B0, reduceIte, reduceEqDiff]
    refine put2_stCx (us := [.nil, .nil, .nil, .int .i64 0, .int .i64 0]) rfl (cs' := [.nil, .nil, .nil, .int .i64 0,
        .int .i64 0]) hS40 hW rfl rfl (Nat.le_of_ble_eq_true rfl) rfl (fun h42 hS43 => ?_)
    simp only [run_mv, run_ops_nil, run_ret, B0, reduceIte, reduceEqDiff]
    have he := some_inj hF7
    subst he
    refine end_ret_m (mapM1 (res_cell (bb := b1) (oo := 0) (v := .agg [.nil, .nil, .nil, .int .i64 0,
        .int .i64 0]) (f37) ((xld_bs (Sep.bk _ _ _ hS43)).trans rfl)) (mapM1 (res_t (v := .nil) (rfl)) (mapM1 (res_t (v := .bool false) (rfl)) mapM0))) ?_
    exact ⟨.nil, [], .nil, [], .nil, [], .nil, [], by first | trivial | rfl, SlF.nil, SlN.nil, SlN.nil, SlF.nil,
        ((Sep.dc ((Sep.dc ((Sep.dc ((Sep.dc ((Sep.dc (hS43)))))))))) : Sep _ (geL h.length) ([]))⟩
  rw [iteF hc41] at hF7
  simp only [run_skip, x8_12, run_seq, run_reg, run_mv, run_ops_nil, x8_11, f36, run_len, put1_some, xlen_lst, B0, reduceIte, reduceEqDiff]
  obtain ⟨oc82, hX84, hk85⟩ := jn_some hF7
  simp only [x8_9]
  refine rangeL_j (σ := (List Bool) × Snap) l_2 (fun i80 x81 s203 => spec_PlaySnap_b1 i80 x81 s203.1 s203.2) (fun s fr' h' => ∃ v64 c65 v69 c70 v73 c74 v77 c78,
      fr' 6 = .ptr b1 0 ∧ fr' 9 = .ptr b25 0 ∧ fr' 11 = v64 ∧ fr' 30 = lst SnapStep.cells l_2 ∧ SlF cB 1 4 v64 s.1 c65 ∧ SlF cI 1 3 v69 s.2.Amounts c70 ∧ SlN Chan.R 3 74 v73 s.2.Chans c74 ∧ SlN Picture.R 4 76 v77 s.2.Pictures c78 ∧ Sep h'
      (geL h.length) ([Blk1 b1 [.nil, .nil, .nil, .int .i64 0, .int .i64 0] 30] ++ ([Blk1 b25 [v69, v73, v77, .int .i64 s.2.Sent,
      .int .i64 s.2.Total] 30] ++ (c65 ++ (c70 ++ (c74 ++ (c78 ++ ([])))))))) hX84 ⟨.nil, [], v8, c9, v12, c13, v16, c17, f37, f38, rfl, rfl, SlF.nil, hv10, hv14, hv18,
      ((Sep.m4 (Sep.m4 (Sep.m4 (Sep.m4 (Sep.m4 hS40))))) : Sep _ (geL h.length) ([Blk1 b1 [.nil, .nil, .nil, .int .i64 0, .int .i64 0] 30] ++ ([Blk1 b25 [v8, v12, v16,
      .int .i64 v5.1.Sent, .int .i64 v5.1.Total] 30] ++ (c9 ++ (c13 ++ (c17 ++ ([])))))))⟩ (by simp only [B0, reduceIte, reduceEqDiff]) (by simp only [B0, reduceIte,
      reduceEqDiff]) (fun _ _ _ h => h) rfl rfl (fun _ _ _ _ h => h) (fun _ _ _ _ h => h) (fun _ _ _ _ h => h) (by decide) ?_ ?_
  · rintro i80 x81 ⟨s62, s67⟩ fr94 h95 hx101 ⟨v64, c65, v69, c70, v73, c74, v77, c78, f97, f98, f99, f100, hv66, hv71, hv75, hv79,
      hS96⟩ f102 f103 oc83 hF86 hr87 Q88 hN89 hB93 hK90 hR91 hE92
    dsimp only at *
    unfold spec_PlaySnap_b1 at hF86
    simp only [x8_7, run_seq, run_reg, f100, f102, run_ia, B0, reduceIte, reduceEqDiff]
    refine put1_eq (v := .ref (SnapStep.cells x81) 0) (xia_lstN hx101 rfl) ?_
    simp only [run_ld, B0, reduceIte, reduceEqDiff]
    refine put1_eq (v := .agg [.int .i64 x81.Kind, .int .i64 x81.K, .int .i64 x81.N]) rfl ?_
    simp only [run_new, B0, reduceIte, reduceEqDiff]
    refine put2_newC hS96 (fun b104 h105 hS106 => ?_)
    simp only [run_st, B0, reduceIte, reduceEqDiff]
    refine put2_stCx (us := [.int .i64 x81.Kind, .int .i64 x81.K, .int .i64 x81.N]) rfl (cs' := [.int .i64 x81.Kind, .int .i64 x81.K,
        .int .i64 x81.N]) hS106 hW rfl rfl (Nat.le_of_ble_eq_true rfl) rfl (fun h108 hS109 => ?_)
    simp only [run_ops_nil, B0, reduceIte, reduceEqDiff]
    refine frz_stepC hS109 hW (by simp only [B0, reduceIte, reduceEqDiff]) (fun h110 hS111 => ?_)
    simp only [run_frz_nil, x8_6, run_seq, run_draw, d1_new, B0, reduceIte, reduceEqDiff]
    refine put2d_newC hS111 (fun b112 h113 hS114 => ?_)
    simp only [f98, d4_ld, B0, reduceIte, reduceEqDiff]
    refine put1d_eq (v := .agg [v69, v73, v77, .int .i64 s67.Sent, .int .i64 s67.Total]) ((xld_bs (Sep.bk _ _ _ (Sep.m2 hS114))).trans rfl) ?_
    obtain ⟨v116, hx117, hF118⟩ := bind_some' hF86
    simp only [run_d2_call, B0, reduceIte, reduceEqDiff]
    refine call2q rfl hS114 (mapM1 (snap_agg (mapM1 (SlF.snap hv71 (Sep.m4 hS114) rfl (fun _ => rfl) (fun _ => rfl)) (mapM1 (SlN.snap hv75 _ (Sep.m5 hS114) rfl Chan.RO) (mapM1
        (SlN.snap hv79 _ (Sep.m6 hS114) rfl Picture.RO) (mapM1 snap_int (mapM1 snap_int mapM0)))))) mapM0) (spec_l8Own_x (fun b hb => decide_eq_true hb) s67 v116 hx117) ?_
    rintro _ h131 ⟨v119, c120, v123, c124, v127, c128, rfl, hv121, hv125, hv129, hS132⟩
    refine ⟨_, free_a (all_c (SlF.free1 hv121) (all_c (SlN.free1 hv125) (all_c (SlN.free1 hv129) (all_c rfl (all_c rfl all_n))))), hS132,
        (pf_app (SlF.pf hv121 (fun _ => rfl)) (pf_app (SlN.pf hv125 Chan.RO) (pf_app (SlN.pf hv129 Picture.RO) pf_nil))), fun h133 hS134 => ?_⟩
    have hS135 : Sep h133 (geL h.length) (c120 ++ (c124 ++ (c128 ++ ([Blk1 b112 [.nil, .nil, .nil, .int .i64 0, .int .i64 0] 30] ++ ([Blk1 b1 [.nil, .nil, .nil, .int .i64 0,
        .int .i64 0] 30] ++ ([Blk1 b25 [v69, v73, v77, .int .i64 s67.Sent,
        .int .i64 s67.Total] 30] ++ (c65 ++ (c70 ++ (c74 ++ (c78 ++ ([]))))))))))) := by simpa only [List.append_assoc, List.nil_append] using hS134
    simp only [d1_ld, ldd_ref, B0, reduceIte, reduceEqDiff]
    refine put1d_eq (v := .agg [.int .i64 x81.Kind, .int .i64 x81.K, .int .i64 x81.N]) rfl ?_
    obtain ⟨v136, hx137, hF138⟩ := bind_some' hF118
    simp only [run_d3_call, B0, reduceIte, reduceEqDiff]
    refine call0d rfl (spec_l8Step_x hW v116 v119 c120 hv121 v123 c124 hv125 v127 c128 hv129 x81 v136 hx137 (Sep.m2 (Sep.m2 (Sep.m2 hS135)))) ?_
    rintro _ h145 ⟨c139, c141, c143, rfl, hv140, hv142, hv144, hS146⟩
    simp only [d4_mv, put1d_some, d4_ext, xext_0, d1_ext, xext_1, d3_st, B0, reduceIte, reduceEqDiff]
    refine put2d_stCx (us := [v119, v123, v127, .int .i64 v136.1.Sent, .int .i64 v136.1.Total]) rfl (cs' := [v119, v123, v127, .int .i64 v136.1.Sent,
        .int .i64 v136.1.Total]) (Sep.m3 hS146) hW rfl (all_c (SlF.one hv140) (all_c (SlN.one hv142) (all_c (SlN.one hv144) (all_c rfl (all_c rfl all_n)))))
        (Nat.le_of_ble_eq_true rfl) rfl (fun h147 hS148 => ?_)
    simp only [d4_mv, put1d_some, run_draw_nil, B0, reduceIte, reduceEqDiff]
    refine frz_stepC hS148 hW (by simp only [B0, reduceIte, reduceEqDiff]) (fun h149 hS150 => ?_)
    simp only [run_frz_nil, x8_5, run_seq, run_reg, run_mv, run_ops_nil, x8_3, run_cond, B0, reduceIte, reduceEqDiff]
    obtain ⟨s151, hX165, hk166⟩ := bind_some' hF138
    refine cond_j (t := v136.2) (fun fr' h' => ∃ v153 c154 v157 c158 v161 c162,
        fr' 6 = .ptr b1 0 ∧ fr' 9 = .ptr b25 0 ∧ fr' 11 = v64 ∧ fr' 15 = .bool v136.2 ∧ fr' 30 = lst SnapStep.cells l_2 ∧ fr' 31 = .int .i64
        (List.length l_2 : Int) ∧ fr' 32 = .int .i64
        (i80 : Int) ∧ SlF cI 1 3 v153 s151.Amounts c154 ∧ SlN Chan.R 3 74 v157 s151.Chans c158 ∧ SlN Picture.R 4 76 v161 s151.Pictures c162 ∧ Sep h' (geL h.length)
        ([Blk1 b1 [.nil, .nil, .nil, .int .i64 0, .int .i64 0] 30] ++ ([Blk1 b25 [v153, v157, v161, .int .i64 s151.Sent,
        .int .i64 s151.Total] 30] ++ (c65 ++ (c154 ++ (c158 ++ (c162 ++ ([])))))))) (fun Q167 hN168 hR169 hE170 => ⟨fun hc171 => ?_, fun hc171 => ?_⟩) ?_
    · rw [iteT hc171] at hX165
      simp only [run_reg, run_ld, B0, reduceIte, reduceEqDiff]
      refine put1_eq (v := .agg [v119, v123, v127, .int .i64 v136.1.Sent, .int .i64 v136.1.Total]) rfl ?_
      simp only [f98, run_st, B0, reduceIte, reduceEqDiff]
      refine put2_stCx (us := [v119, v123, v127, .int .i64 v136.1.Sent, .int .i64 v136.1.Total]) rfl (cs' := [v119, v123, v127, .int .i64 v136.1.Sent,
          .int .i64 v136.1.Total]) (Sep.m4 hS150) hW rfl (all_c (SlF.one hv140) (all_c (SlN.one hv142) (all_c (SlN.one hv144) (all_c rfl (all_c rfl all_n)))))
          (Nat.le_of_ble_eq_true rfl) rfl (fun h172 hS173 => ?_)
      simp only [run_ops_nil, run_nil, B0, reduceIte, reduceEqDiff]
      have e174 := some_inj hX165
      subst e174
      exact hN168 _ _ ⟨v119, c139, v123, c141, v127, c143, f97, f98, f99, rfl, f100, f103, f102, hv140, hv142, hv144,
          (Sep.m5 (Sep.m4 (Sep.m5 (Sep.m3 (Sep.m3 (Sep.m3 (Sep.dc (Sep.m6 (Sep.dc (Sep.m6 (Sep.dc (Sep.m6 hS173))))))))))))⟩
    · rw [iteF hc171] at hX165
      simp only [run_skip, run_nil, B0, reduceIte, reduceEqDiff]
      have e175 := some_inj hX165
      subst e175
      exact hN168 _ _ ⟨v69, c70, v73, c74, v77, c78, f97, f98, f99, rfl, f100, f103, f102, hv71, hv75, hv79,
          (Sep.m5 (Sep.m5 (Sep.m5 (Sep.m5 (Sep.m5 (Sep.m5 (Sep.dc ((Sep.dc ((Sep.dc (hS150))))))))))))⟩
    rintro fr176 h177 ⟨v153, c154, v157, c158, v161, c162, f179, f180, f181, f182, f183, f184, f185, hv155, hv159, hv163, hS178⟩
    unfold spec_PlaySnap_j1 at hk166
    simp only [x8_4, run_reg, f181, run_mv, f182, run_buildS, evp, B0, reduceIte, reduceEqDiff]
    refine put2_buildSF (n := 1) (f := cB) [v136.2] hS178 rfl rfl (fun v186 c187 h188 hv189 hS190 => ?_)
    simp only [run_app, B0, reduceIte, reduceEqDiff]
    obtain ⟨l192, hx193, hF194⟩ := bind_some' hk166
    refine put2_appF (f := cB) hv66 (Sep.m3 hS190) hW (fun _ => rfl) (fun _ => rfl) (SlF.first hv189 hS190 (fun _ => rfl)) hx193 (fun v195 c196 h197 hv198 hS199 => ?_)
    simp only [run_mv, run_ops_nil, run_nil, B0, reduceIte, reduceEqDiff]
    have e201 := some_inj hF194
    exact hN89 _ _ _ e201.symm ⟨v195, c196, v153, c154, v157, c158, v161, c162, f179, f180, rfl, f183, hv198, hv155, hv159, hv163,
        (Sep.m5 (Sep.m5 (Sep.m3 (Sep.m5 (Sep.m5 (Sep.m5 (Sep.dc (Sep.m1 hS199))))))))⟩ (f185) (f184)
  rintro ⟨s204, s209⟩ fr222 h223 rfl ⟨v206, c207, v211, c212, v215, c216, v219, c220, f225, f226, f227, f228, hv208, hv213, hv217, hv221, hS224⟩
  dsimp only [jnO] at hk85
  dsimp only at *
  unfold spec_PlaySnap_j2 at hk85
  simp only [x8_10, run_seq, run_reg, f226, run_ld, B0, reduceIte, reduceEqDiff]
  refine put1_eq (v := .agg [v211, v215, v219, .int .i64 s209.Sent, .int .i64 s209.Total]) ((xld_bs (Sep.bk _ _ _ (Sep.m1 hS224))).trans rfl) ?_
  obtain ⟨v229, hx230, hF231⟩ := bind_some' hk85
  simp only [run_call, B0, reduceIte, reduceEqDiff]
  refine call2 rfl hS224 (mapM1 (snap_agg (mapM1 (SlF.snap hv213 (Sep.m3 hS224) rfl (fun _ => rfl) (fun _ => rfl)) (mapM1 (SlN.snap hv217 _ (Sep.m4 hS224) rfl Chan.RO) (mapM1
      (SlN.snap hv221 _ (Sep.m5 hS224) rfl Picture.RO) (mapM1 snap_int (mapM1 snap_int mapM0)))))) mapM0) (spec_l8Own_x (fun b hb => decide_eq_true hb) s209 v229 hx230) ?_
  rintro _ h244 ⟨v232, c233, v236, c237, v240, c241, rfl, hv234, hv238, hv242, hS245⟩
  refine ⟨_, free_a (all_c (SlF.free1 hv234) (all_c (SlN.free1 hv238) (all_c (SlN.free1 hv242) (all_c rfl (all_c rfl all_n))))), hS245,
      (pf_app (SlF.pf hv234 (fun _ => rfl)) (pf_app (SlN.pf hv238 Chan.RO) (pf_app (SlN.pf hv242 Picture.RO) pf_nil))), fun h246 hS247 => ?_⟩
  have hS248 : Sep h246 (geL h.length) (c233 ++ (c237 ++ (c241 ++ ([Blk1 b1 [.nil, .nil, .nil, .int .i64 0, .int .i64 0] 30] ++ ([Blk1 b25 [v211, v215, v219, .int .i64 s209.Sent,
      .int .i64 s209.Total] 30] ++ (c207 ++ (c212 ++ (c216 ++ (c220 ++ ([])))))))))) := by simpa only [List.append_assoc, List.nil_append] using hS247
  simp only [f227, run_mv, f225, run_st, B0, reduceIte, reduceEqDiff]
  refine put2_stCx (us := [v232, v236, v240, .int .i64 v229.Sent, .int .i64 v229.Total]) rfl (cs' := [v232, v236, v240, .int .i64 v229.Sent,
      .int .i64 v229.Total]) (Sep.m3 hS248) hW rfl (all_c (SlF.one hv234) (all_c (SlN.one hv238) (all_c (SlN.one hv242) (all_c rfl (all_c rfl all_n)))))
      (Nat.le_of_ble_eq_true rfl) rfl (fun h249 hS250 => ?_)
  simp only [run_mv, run_ops_nil, run_ret, B0, reduceIte, reduceEqDiff]
  have he := some_inj hF231
  subst he
  refine end_ret_m (mapM1 (res_cell (bb := b1) (oo := 0) (v := .agg [v232, v236, v240, .int .i64 v229.Sent,
      .int .i64 v229.Total]) (f225) ((xld_bs (Sep.bk _ _ _ hS250)).trans rfl)) (mapM1 (res_t (v := v206) (rfl)) (mapM1 (res_t (v := .bool true) (rfl)) mapM0))) ?_
  exact ⟨v232, c233, v236, c237, v240, c241, v206, c207, by first | trivial | rfl, hv234, hv238, hv242, hv208,
      (Sep.m3 (Sep.m3 (Sep.m3 (Sep.m3 (Sep.dc (Sep.m4 (Sep.dc (Sep.m4 (Sep.dc (Sep.m4 (Sep.dc (Sep.m3 (Sep.dc (hS250))))))))))))))⟩
theorem laws_sameBools_x {W : Nat → Bool} {h : Heap} (hW : ∀ b,
    (geL h.length) b → W b = true) (a_0 : List Bool) (b_1 : List Bool) (r : Bool) (hF : laws_sameBools a_0 b_1 = some r) : Ret E W 9 [lst cB a_0,
    lst cB b_1] h (fun v h' => cut h.length h' E.sz false 9 v = some (.bool r)) := by
  refine Ret.of (fn := x9) rfl (Run.of ?_)
  unfold laws_sameBools at hF
  have zf0 : argFr [lst cB a_0, lst cB b_1] 0 = lst cB a_0 := rfl
  have zf1 : argFr [lst cB a_0, lst cB b_1] 1 = lst cB b_1 := rfl
  generalize argFr [lst cB a_0, lst cB b_1] = fr0 at zf0 zf1 ⊢
  have hS : Sep h (geL h.length) [] := Sep.nil h
  simp only [x9, run_seq, run_reg, run_mv, run_ops_nil, x9_6, zf0, run_len, put1_some, xlen_lst, zf1, run_bin, xneq, run_cond, B0, reduceIte, reduceEqDiff]
  refine cond_split (t := (decide ((List.length a_0 : Int) ≠ (List.length b_1 : Int)))) (fun hc1 => ?_) (fun hc1 => ?_)
  · rw [iteT hc1] at hF
    simp only [run_seq, run_reg, run_mv, run_ops_nil, run_ret, B0, reduceIte, reduceEqDiff]
    have he := some_inj hF
    subst he
    simp only [end_ret1, B0, reduceIte, reduceEqDiff]
    exact rfl
  rw [iteF hc1] at hF
  simp only [run_skip, x9_5, run_seq, run_reg, zf0, run_mv, run_len, put1_some, xlen_lst, run_ops_nil, B0, reduceIte, reduceEqDiff]
  obtain ⟨oc4, hX6, hk7⟩ := jn_some hF
  simp only [x9_4]
  refine rangeL_j (σ := Unit) a_0 (fun i2 x3 _ => laws_sameBools_b1 b_1 i2 x3 ) (fun s fr' h' => fr' 0 = lst cB a_0 ∧ fr' 1 = lst cB b_1 ∧ Sep h' (geL h.length) ([])) hX6 ⟨zf0,
      zf1, hS⟩ (by simp only [B0, reduceIte, reduceEqDiff]) (by simp only [B0, reduceIte,
      reduceEqDiff]) (fun _ _ _ h => h) rfl rfl (fun _ _ _ _ h => h) (fun _ _ _ _ h => h) (fun _ _ _ _ h => h) (by decide) ?_ ?_
  · rintro i2 x3 _ fr16 h17 hx21 ⟨f19, f20, hS18⟩ f22 f23 oc5 hF8 hr9 Q10 hN11 hB15 hK12 hR13 hE14
    unfold laws_sameBools_b1 at hF8
    simp only [x9_2, run_seq, run_reg, f22, run_mv, run_ops_nil, x9_1, run_draw, f19, d4_mv, put1d_some, d4_ia, B0, reduceIte, reduceEqDiff]
    refine put1d_eq (v := .ref (cB x3) 0) (xia_lstN hx21 rfl) ?_
    simp only [d4_ld, B0, reduceIte, reduceEqDiff]
    refine put1d_eq (v := .bool x3) rfl ?_
    obtain ⟨x24, hx25, hF26⟩ := bind_some' hF8
    simp only [f20, d4_mv, put1d_some, d4_ia, B0, reduceIte, reduceEqDiff]
    refine put1d_eq (v := .ref (cB x24) 0) (xia_lst hx25 rfl) ?_
    simp only [d4_ld, B0, reduceIte, reduceEqDiff]
    refine put1d_eq (v := .bool x24) rfl ?_
    simp only [d4_eqb, put1d_some, xeqb_t, run_draw_nil, run_cond, B0, reduceIte, reduceEqDiff]
    refine cond_split (t := (!(x3 == x24))) (fun hc27 => ?_) (fun hc27 => ?_)
    · rw [iteT hc27] at hF26
      simp only [run_seq, run_reg, run_mv, run_ops_nil, run_ret, B0, reduceIte, reduceEqDiff]
      have e28 := some_inj hF26
      subst e28
      have ho29 := hr9 _ rfl
      have hk30 := hk7
      rw [ho29] at hk30
      dsimp only [jnO] at hk30
      apply hR13
      have he := some_inj hk30
      subst he
      simp only [end_ret1, B0, reduceIte, reduceEqDiff]
      exact rfl
    rw [iteF hc27] at hF26
    simp only [run_skip, run_nil, B0, reduceIte, reduceEqDiff]
    have e31 := some_inj hF26
    exact hN11 _ _ _ e31.symm ⟨f19, f20, hS18⟩ (f22) (f23)
  rintro _ fr33 h34 rfl ⟨f36, f37, hS35⟩
  dsimp only [jnO] at hk7
  unfold laws_sameBools_j1 at hk7
  simp only [run_seq, run_reg, run_mv, run_ops_nil, run_ret, B0, reduceIte, reduceEqDiff]
  have he := some_inj hk7
  subst he
  simp only [end_ret1, B0, reduceIte, reduceEqDiff]
  exact rfl
theorem laws_sameInts_x {W : Nat → Bool} {h : Heap} (hW : ∀ b,
    (geL h.length) b → W b = true) (a_0 : List Int) (b_1 : List Int) (r : Bool) (hF : laws_sameInts a_0 b_1 = some r) : Ret E W 44 [lst cI a_0,
    lst cI b_1] h (fun v h' => cut h.length h' E.sz false 9 v = some (.bool r)) := by
  refine Ret.of (fn := x44) rfl (Run.of ?_)
  unfold laws_sameInts at hF
  have zf0 : argFr [lst cI a_0, lst cI b_1] 0 = lst cI a_0 := rfl
  have zf1 : argFr [lst cI a_0, lst cI b_1] 1 = lst cI b_1 := rfl
  generalize argFr [lst cI a_0, lst cI b_1] = fr0 at zf0 zf1 ⊢
  have hS : Sep h (geL h.length) [] := Sep.nil h
  simp only [x44, run_seq, run_reg, run_mv, run_ops_nil, x44_6, zf0, run_len, put1_some, xlen_lst, zf1, run_bin, xneq, run_cond, B0, reduceIte, reduceEqDiff]
  refine cond_split (t := (decide ((List.length a_0 : Int) ≠ (List.length b_1 : Int)))) (fun hc1 => ?_) (fun hc1 => ?_)
  · rw [iteT hc1] at hF
    simp only [run_seq, run_reg, run_mv, run_ops_nil, run_ret, B0, reduceIte, reduceEqDiff]
    have he := some_inj hF
    subst he
    simp only [end_ret1, B0, reduceIte, reduceEqDiff]
    exact rfl
  rw [iteF hc1] at hF
  simp only [run_skip, x44_5, run_seq, run_reg, zf0, run_mv, run_len, put1_some, xlen_lst, run_ops_nil, B0, reduceIte, reduceEqDiff]
  obtain ⟨oc4, hX6, hk7⟩ := jn_some hF
  simp only [x44_4]
  refine rangeL_j (σ := Unit) a_0 (fun i2 x3 _ => laws_sameInts_b1 b_1 i2 x3 ) (fun s fr' h' => fr' 0 = lst cI a_0 ∧ fr' 1 = lst cI b_1 ∧ Sep h' (geL h.length) ([])) hX6 ⟨zf0,
      zf1, hS⟩ (by simp only [B0, reduceIte, reduceEqDiff]) (by simp only [B0, reduceIte,
      reduceEqDiff]) (fun _ _ _ h => h) rfl rfl (fun _ _ _ _ h => h) (fun _ _ _ _ h => h) (fun _ _ _ _ h => h) (by decide) ?_ ?_
  · rintro i2 x3 _ fr16 h17 hx21 ⟨f19, f20, hS18⟩ f22 f23 oc5 hF8 hr9 Q10 hN11 hB15 hK12 hR13 hE14
    unfold laws_sameInts_b1 at hF8
    simp only [x44_2, run_seq, run_reg, f22, run_mv, run_ops_nil, x44_1, run_draw, f19, d4_mv, put1d_some, d4_ia, B0, reduceIte, reduceEqDiff]
    refine put1d_eq (v := .ref (cI x3) 0) (xia_lstN hx21 rfl) ?_
    simp only [d4_ld, B0, reduceIte, reduceEqDiff]
    refine put1d_eq (v := .int .i64 x3) rfl ?_
    obtain ⟨x24, hx25, hF26⟩ := bind_some' hF8
    simp only [f20, d4_mv, put1d_some, d4_ia, B0, reduceIte, reduceEqDiff]
    refine put1d_eq (v := .ref (cI x24) 0) (xia_lst hx25 rfl) ?_
    simp only [d4_ld, B0, reduceIte, reduceEqDiff]
    refine put1d_eq (v := .int .i64 x24) rfl ?_
    simp only [d4_bin, put1d_some, xneq, run_draw_nil, run_cond, B0, reduceIte, reduceEqDiff]
    refine cond_split (t := (decide (x3 ≠ x24))) (fun hc27 => ?_) (fun hc27 => ?_)
    · rw [iteT hc27] at hF26
      simp only [run_seq, run_reg, run_mv, run_ops_nil, run_ret, B0, reduceIte, reduceEqDiff]
      have e28 := some_inj hF26
      subst e28
      have ho29 := hr9 _ rfl
      have hk30 := hk7
      rw [ho29] at hk30
      dsimp only [jnO] at hk30
      apply hR13
      have he := some_inj hk30
      subst he
      simp only [end_ret1, B0, reduceIte, reduceEqDiff]
      exact rfl
    rw [iteF hc27] at hF26
    simp only [run_skip, run_nil, B0, reduceIte, reduceEqDiff]
    have e31 := some_inj hF26
    exact hN11 _ _ _ e31.symm ⟨f19, f20, hS18⟩ (f22) (f23)
  rintro _ fr33 h34 rfl ⟨f36, f37, hS35⟩
  dsimp only [jnO] at hk7
  unfold laws_sameInts_j1 at hk7
  simp only [run_seq, run_reg, run_mv, run_ops_nil, run_ret, B0, reduceIte, reduceEqDiff]
  have he := some_inj hk7
  subst he
  simp only [end_ret1, B0, reduceIte, reduceEqDiff]
  exact rfl
theorem laws_sameSnaps_x {W : Nat → Bool} {h : Heap} (hW : ∀ b,
    (geL h.length) b → W b = true) (v_0 : Snap) (v_1 : Snap) (r : Bool) (hF : laws_sameSnaps v_0 v_1 = some r) : Ret E W 10 [.agg [lst cI v_0.Amounts, lst Chan.cells v_0.Chans,
    lst Picture.cells v_0.Pictures, .int .i64 v_0.Sent, .int .i64 v_0.Total], .agg [lst cI v_1.Amounts, lst Chan.cells v_1.Chans, lst Picture.cells v_1.Pictures,
    .int .i64 v_1.Sent, .int .i64 v_1.Total]] h (fun v h' => cut h.length h' E.sz false 9 v = some (.bool r)) := by
  refine Ret.of (fn := x10) rfl (Run.of ?_)
  unfold laws_sameSnaps at hF
  have zf0 : argFr [.agg [lst cI v_0.Amounts, lst Chan.cells v_0.Chans, lst Picture.cells v_0.Pictures, .int .i64 v_0.Sent, .int .i64 v_0.Total], .agg [lst cI v_1.Amounts,
      lst Chan.cells v_1.Chans, lst Picture.cells v_1.Pictures, .int .i64 v_1.Sent, .int .i64 v_1.Total]] 0 = .agg [lst cI v_0.Amounts, lst Chan.cells v_0.Chans,
      lst Picture.cells v_0.Pictures, .int .i64 v_0.Sent, .int .i64 v_0.Total] := rfl
  have zf1 : argFr [.agg [lst cI v_0.Amounts, lst Chan.cells v_0.Chans, lst Picture.cells v_0.Pictures, .int .i64 v_0.Sent, .int .i64 v_0.Total], .agg [lst cI v_1.Amounts,
      lst Chan.cells v_1.Chans, lst Picture.cells v_1.Pictures, .int .i64 v_1.Sent, .int .i64 v_1.Total]] 1 = .agg [lst cI v_1.Amounts, lst Chan.cells v_1.Chans,
      lst Picture.cells v_1.Pictures, .int .i64 v_1.Sent, .int .i64 v_1.Total] := rfl
  generalize argFr [.agg [lst cI v_0.Amounts, lst Chan.cells v_0.Chans, lst Picture.cells v_0.Pictures, .int .i64 v_0.Sent, .int .i64 v_0.Total], .agg [lst cI v_1.Amounts,
      lst Chan.cells v_1.Chans, lst Picture.cells v_1.Pictures, .int .i64 v_1.Sent, .int .i64 v_1.Total]] = fr0 at zf0 zf1 ⊢
  have hS : Sep h (geL h.length) [] := Sep.nil h
  simp only [x10, run_seq, run_reg, run_box, zf0, B0, reduceIte, reduceEqDiff]
  refine put2_boxC (cs := [lst cI v_0.Amounts, lst Chan.cells v_0.Chans, lst Picture.cells v_0.Pictures, .int .i64 v_0.Sent,
      .int .i64 v_0.Total]) hS rfl rfl rfl (fun b1 h2 hS3 => ?_)
  simp only [run_box, zf1, B0, reduceIte, reduceEqDiff]
  refine put2_boxC (cs := [lst cI v_1.Amounts, lst Chan.cells v_1.Chans, lst Picture.cells v_1.Pictures, .int .i64 v_1.Sent,
      .int .i64 v_1.Total]) hS3 rfl rfl rfl (fun b5 h6 hS7 => ?_)
  simp only [run_mv, run_ops_nil, B0, reduceIte, reduceEqDiff]
  refine frz_stepC (Sep.m1 hS7) hW (by simp only [B0, reduceIte, reduceEqDiff]) (fun h9 hS10 => ?_)
  refine frz_stepC hS10 hW (by simp only [B0, reduceIte, reduceEqDiff]) (fun h11 hS12 => ?_)
  simp only [run_frz_nil, x10_13, run_seq, run_reg, run_fa, put1_some, Nat.reduceAdd, Nat.zero_add, Nat.add_zero, xfa_ref, run_ld, B0, reduceIte, reduceEqDiff]
  refine put1_eq (v := lst cI v_0.Amounts) rfl ?_
  simp only [run_fa, put1_some, Nat.reduceAdd, Nat.zero_add, Nat.add_zero, xfa_ref, run_ld, B0, reduceIte, reduceEqDiff]
  refine put1_eq (v := lst cI v_1.Amounts) rfl ?_
  obtain ⟨v13, hx14, hF15⟩ := bind_some' hF
  simp only [run_call, B0, reduceIte, reduceEqDiff]
  refine call1 rfl (mapM1 snap_lst (mapM1 snap_lst mapM0)) (laws_sameInts_x (fun b hb => decide_eq_true hb) v_0.Amounts v_1.Amounts v13 hx14) ?_
  simp only [run_un, put1_some, xnot, run_mv, B0, reduceIte, reduceEqDiff]
  refine ops_j 6 (fun fr' h' => Sep h' (geL h.length) ([]) ∧ fr' 21 = .bool ((!v13) || (decide (v_0.Sent ≠ v_1.Sent))) ∧ fr' 2 = .ref [lst cI v_0.Amounts,
      lst Chan.cells v_0.Chans, lst Picture.cells v_0.Pictures, .int .i64 v_0.Sent, .int .i64 v_0.Total] 0 ∧ fr' 3 = .ref [lst cI v_1.Amounts, lst Chan.cells v_1.Chans,
      lst Picture.cells v_1.Pictures, .int .i64 v_1.Sent, .int .i64 v_1.Total] 0) (fun Q16 hN17 => ?_) ?_
  · simp only [List.take_succ_cons, List.take_zero]
    simp only [run_guard (g := 15), B0, reduceIte, reduceEqDiff]
    refine guard_split (t := (!v13)) (fun hg18 => ?_) (fun hg18 => ?_)
    · simp only [hg18, run_guard (g := 15), guard_off', run_pick, put1_some, xpick_t, run_ops_nil, run_nil, B0, reduceIte, reduceEqDiff]
      exact hN17 _ _ ⟨hS12, by rw [orT hg18]; simp only [B0, reduceIte, reduceEqDiff], rfl, rfl⟩
    · simp only [hg18, run_guard (g := 15), guard_false, run_fa, put1_some, Nat.reduceAdd, Nat.zero_add, Nat.add_zero, xfa_ref, run_ld, B0, reduceIte, reduceEqDiff]
      refine put1_eq (v := .int .i64 v_0.Sent) rfl ?_
      simp only [hg18, run_guard (g := 15), guard_false, run_fa, put1_some, Nat.reduceAdd, Nat.zero_add, Nat.add_zero, xfa_ref, run_ld, B0, reduceIte, reduceEqDiff]
      refine put1_eq (v := .int .i64 v_1.Sent) rfl ?_
      simp only [hg18, run_guard (g := 15), guard_false, run_bin, put1_some, xneq, run_pick, xpick_f, run_ops_nil, run_nil, B0, reduceIte, reduceEqDiff]
      exact hN17 _ _ ⟨hS12, by rw [orF hg18]; simp only [B0, reduceIte, reduceEqDiff], rfl, rfl⟩
  rintro fr19 h23 ⟨hS24, f20, f21, f22⟩
  simp only [List.drop_succ_cons, List.drop_zero]
  simp only [f20, run_mv, B0, reduceIte, reduceEqDiff]
  refine ops_j 6 (fun fr' h' => Sep h' (geL h.length) ([]) ∧ fr' 28 = .bool (((!v13) || (decide (v_0.Sent ≠ v_1.Sent))) || (decide
      (v_0.Total ≠ v_1.Total))) ∧ fr' 2 = .ref [lst cI v_0.Amounts, lst Chan.cells v_0.Chans, lst Picture.cells v_0.Pictures, .int .i64 v_0.Sent,
      .int .i64 v_0.Total] 0 ∧ fr' 3 = .ref [lst cI v_1.Amounts, lst Chan.cells v_1.Chans, lst Picture.cells v_1.Pictures, .int .i64 v_1.Sent,
      .int .i64 v_1.Total] 0) (fun Q25 hN26 => ?_) ?_
  · simp only [List.take_succ_cons, List.take_zero]
    simp only [run_guard (g := 22), B0, reduceIte, reduceEqDiff]
    refine guard_split (t := ((!v13) || (decide (v_0.Sent ≠ v_1.Sent)))) (fun hg27 => ?_) (fun hg27 => ?_)
    · simp only [hg27, run_guard (g := 22), guard_off', run_pick, put1_some, xpick_t, run_ops_nil, run_nil, B0, reduceIte, reduceEqDiff]
      exact hN26 _ _ ⟨hS24, by rw [orT hg27]; simp only [B0, reduceIte, reduceEqDiff], f21, f22⟩
    · simp only [hg27, run_guard (g := 22), guard_false, f21, run_fa, put1_some, Nat.reduceAdd, Nat.zero_add, Nat.add_zero, xfa_ref, run_ld, B0, reduceIte, reduceEqDiff]
      refine put1_eq (v := .int .i64 v_0.Total) rfl ?_
      simp only [hg27, run_guard (g := 22), guard_false, f22, run_fa, put1_some, Nat.reduceAdd, Nat.zero_add, Nat.add_zero, xfa_ref, run_ld, B0, reduceIte, reduceEqDiff]
      refine put1_eq (v := .int .i64 v_1.Total) rfl ?_
      simp only [hg27, run_guard (g := 22), guard_false, run_bin, put1_some, xneq, run_pick, xpick_f, run_ops_nil, run_nil, B0, reduceIte, reduceEqDiff]
      exact hN26 _ _ ⟨hS24, by rw [orF hg27]; simp only [B0, reduceIte, reduceEqDiff], f21, f22⟩
  rintro fr28 h32 ⟨hS33, f29, f30, f31⟩
  simp only [List.drop_succ_cons, List.drop_zero]
  simp only [f29, run_mv, B0, reduceIte, reduceEqDiff]
  refine ops_j 8 (fun fr' h' => Sep h' (geL h.length) ([]) ∧ fr' 37 = .bool ((((!v13) || (decide (v_0.Sent ≠ v_1.Sent))) || (decide (v_0.Total ≠ v_1.Total))) || (decide
      ((List.length v_0.Chans : Int) ≠ (List.length v_1.Chans : Int)))) ∧ fr' 2 = .ref [lst cI v_0.Amounts, lst Chan.cells v_0.Chans, lst Picture.cells v_0.Pictures,
      .int .i64 v_0.Sent, .int .i64 v_0.Total] 0 ∧ fr' 3 = .ref [lst cI v_1.Amounts, lst Chan.cells v_1.Chans, lst Picture.cells v_1.Pictures, .int .i64 v_1.Sent,
      .int .i64 v_1.Total] 0) (fun Q34 hN35 => ?_) ?_
  · simp only [List.take_succ_cons, List.take_zero]
    simp only [run_guard (g := 29), B0, reduceIte, reduceEqDiff]
    refine guard_split (t := (((!v13) || (decide (v_0.Sent ≠ v_1.Sent))) || (decide (v_0.Total ≠ v_1.Total)))) (fun hg36 => ?_) (fun hg36 => ?_)
    · simp only [hg36, run_guard (g := 29), guard_off', run_pick, put1_some, xpick_t, run_ops_nil, run_nil, B0, reduceIte, reduceEqDiff]
      exact hN35 _ _ ⟨hS33, by rw [orT hg36]; simp only [B0, reduceIte, reduceEqDiff], f30, f31⟩
    · simp only [hg36, run_guard (g := 29), guard_false, f30, run_fa, put1_some, Nat.reduceAdd, Nat.zero_add, Nat.add_zero, xfa_ref, run_ld, B0, reduceIte, reduceEqDiff]
      refine put1_eq (v := lst Chan.cells v_0.Chans) rfl ?_
      simp only [hg36, run_guard (g := 29), guard_false, run_len, put1_some, xlen_lst, f31, run_fa, Nat.reduceAdd, Nat.zero_add, Nat.add_zero, xfa_ref, run_ld, B0, reduceIte,
          reduceEqDiff]
      refine put1_eq (v := lst Chan.cells v_1.Chans) rfl ?_
      simp only [hg36, run_guard (g := 29), guard_false, run_len, put1_some, xlen_lst, run_bin, xneq, run_pick, xpick_f, run_ops_nil, run_nil, B0, reduceIte, reduceEqDiff]
      exact hN35 _ _ ⟨hS33, by rw [orF hg36]; simp only [B0, reduceIte, reduceEqDiff], f30, f31⟩
  rintro fr37 h41 ⟨hS42, f38, f39, f40⟩
  simp only [List.drop_succ_cons, List.drop_zero]
  simp only [f38, run_mv, B0, reduceIte, reduceEqDiff]
  refine ops_j 8 (fun fr' h' => Sep h' (geL h.length) ([]) ∧ fr' 46 = .bool (((((!v13) || (decide (v_0.Sent ≠ v_1.Sent))) || (decide (v_0.Total ≠ v_1.Total))) || (decide
      ((List.length v_0.Chans : Int) ≠ (List.length v_1.Chans : Int)))) || (decide ((List.length v_0.Pictures : Int) ≠
      (List.length v_1.Pictures : Int)))) ∧ fr' 2 = .ref [lst cI v_0.Amounts, lst Chan.cells v_0.Chans, lst Picture.cells v_0.Pictures, .int .i64 v_0.Sent,
      .int .i64 v_0.Total] 0 ∧ fr' 3 = .ref [lst cI v_1.Amounts, lst Chan.cells v_1.Chans, lst Picture.cells v_1.Pictures, .int .i64 v_1.Sent,
      .int .i64 v_1.Total] 0) (fun Q43 hN44 => ?_) ?_
  · simp only [List.take_succ_cons, List.take_zero]
    simp only [run_guard (g := 38), B0, reduceIte, reduceEqDiff]
    refine guard_split (t := ((((!v13) || (decide (v_0.Sent ≠ v_1.Sent))) || (decide (v_0.Total ≠ v_1.Total))) || (decide ((List.length v_0.Chans : Int) ≠
        (List.length v_1.Chans : Int))))) (fun hg45 => ?_) (fun hg45 => ?_)
    · simp only [hg45, run_guard (g := 38), guard_off', run_pick, put1_some, xpick_t, run_ops_nil, run_nil, B0, reduceIte, reduceEqDiff]
      exact hN44 _ _ ⟨hS42, by rw [orT hg45]; simp only [B0, reduceIte, reduceEqDiff], f39, f40⟩
    · simp only [hg45, run_guard (g := 38), guard_false, f39, run_fa, put1_some, Nat.reduceAdd, Nat.zero_add, Nat.add_zero, xfa_ref, run_ld, B0, reduceIte, reduceEqDiff]
      refine put1_eq (v := lst Picture.cells v_0.Pictures) rfl ?_
      simp only [hg45, run_guard (g := 38), guard_false, run_len, put1_some, xlen_lst, f40, run_fa, Nat.reduceAdd, Nat.zero_add, Nat.add_zero, xfa_ref, run_ld, B0, reduceIte,
          reduceEqDiff]
      refine put1_eq (v := lst Picture.cells v_1.Pictures) rfl ?_
      simp only [hg45, run_guard (g := 38), guard_false, run_len, put1_some, xlen_lst, run_bin, xneq, run_pick, xpick_f, run_ops_nil, run_nil, B0, reduceIte, reduceEqDiff]
      exact hN44 _ _ ⟨hS42, by rw [orF hg45]; simp only [B0, reduceIte, reduceEqDiff], f39, f40⟩
  rintro fr46 h50 ⟨hS51, f47, f48, f49⟩
  simp only [List.drop_succ_cons, List.drop_zero]
  simp only [run_ops_nil, f47, run_cond, B0, reduceIte, reduceEqDiff]
  refine cond_split (t := (((((!v13) || (decide (v_0.Sent ≠ v_1.Sent))) || (decide (v_0.Total ≠ v_1.Total))) || (decide ((List.length v_0.Chans : Int) ≠
      (List.length v_1.Chans : Int)))) || (decide ((List.length v_0.Pictures : Int) ≠ (List.length v_1.Pictures : Int))))) (fun hc52 => ?_) (fun hc52 => ?_)
  · rw [iteT hc52] at hF15
    simp only [run_seq, run_reg, run_mv, run_ops_nil, run_ret, B0, reduceIte, reduceEqDiff]
    have he := some_inj hF15
    subst he
    simp only [end_ret1, B0, reduceIte, reduceEqDiff]
    exact rfl
  rw [iteF hc52] at hF15
  simp only [run_skip, x10_12, run_seq, run_reg, f48, run_fa, put1_some, Nat.reduceAdd, Nat.zero_add, Nat.add_zero, xfa_ref, run_ld, B0, reduceIte, reduceEqDiff]
  refine put1_eq (v := lst Chan.cells v_0.Chans) rfl ?_
  simp only [run_len, put1_some, xlen_lst, run_mv, run_ops_nil, B0, reduceIte, reduceEqDiff]
  obtain ⟨oc55, hX57, hk58⟩ := jn_some hF15
  simp only [x10_4]
  refine rangeN_j (σ := Unit) (fun i53 _ => laws_sameSnaps_b1 v_0 v_1 i53 ) (fun s fr' h' => fr' 2 = .ref [lst cI v_0.Amounts, lst Chan.cells v_0.Chans,
      lst Picture.cells v_0.Pictures, .int .i64 v_0.Sent, .int .i64 v_0.Total] 0 ∧ fr' 3 = .ref [lst cI v_1.Amounts, lst Chan.cells v_1.Chans, lst Picture.cells v_1.Pictures,
      .int .i64 v_1.Sent, .int .i64 v_1.Total] 0 ∧ Sep h' (geL h.length) ([])) hX57 ⟨f48, f49, hS51⟩ (by simp only [B0, reduceIte, reduceEqDiff]) (by simp only [B0, reduceIte,
      reduceEqDiff]) (fun _ _ _ h => h) rfl rfl (fun _ _ _ _ h => h) (fun _ _ _ _ h => h) (fun _ _ _ _ h => h) (by decide) ?_ ?_
  · rintro i53 _ fr67 h68 hx72 ⟨f70, f71, hS69⟩ f73 f74 oc56 hF59 hr60 Q61 hN62 hB66 hK63 hR64 hE65
    unfold laws_sameSnaps_b1 at hF59
    simp only [x10_2, run_seq, run_reg, f73, run_mv, run_ops_nil, x10_1, run_draw, f70, d4_fa, put1d_some, Nat.reduceAdd, Nat.zero_add, Nat.add_zero, xfa_ref, d4_ld, B0,
        reduceIte, reduceEqDiff]
    refine put1d_eq (v := lst Chan.cells v_0.Chans) rfl ?_
    obtain ⟨x75, hx76, hF77⟩ := bind_some' hF59
    simp only [d4_mv, put1d_some, d4_ia, B0, reduceIte, reduceEqDiff]
    refine put1d_eq (v := .ref (Chan.cells x75) 0) (xia_lst hx76 rfl) ?_
    simp only [d4_fa, put1d_some, Nat.reduceAdd, Nat.zero_add, Nat.add_zero, xfa_ref, d4_ld, B0, reduceIte, reduceEqDiff]
    refine put1d_eq (v := .int .i64 x75.From) rfl ?_
    simp only [f71, d4_fa, put1d_some, Nat.reduceAdd, Nat.zero_add, Nat.add_zero, xfa_ref, d4_ld, B0, reduceIte, reduceEqDiff]
    refine put1d_eq (v := lst Chan.cells v_1.Chans) rfl ?_
    obtain ⟨x78, hx79, hF80⟩ := bind_some' hF77
    simp only [d4_mv, put1d_some, d4_ia, B0, reduceIte, reduceEqDiff]
    refine put1d_eq (v := .ref (Chan.cells x78) 0) (xia_lst hx79 rfl) ?_
    simp only [d4_fa, put1d_some, Nat.reduceAdd, Nat.zero_add, Nat.add_zero, xfa_ref, d4_ld, B0, reduceIte, reduceEqDiff]
    refine put1d_eq (v := .int .i64 x78.From) rfl ?_
    simp only [d4_bin, put1d_some, xneq, d4_mv, B0, reduceIte, reduceEqDiff]
    obtain ⟨v84, hx85, hF86⟩ := bind_some' hF80
    refine draw_j 14 (fun fr' h' => Sep h' (geL h.length) ([]) ∧ fr' 80 = .bool v84 ∧ fr' 2 = .ref [lst cI v_0.Amounts, lst Chan.cells v_0.Chans, lst Picture.cells v_0.Pictures,
        .int .i64 v_0.Sent, .int .i64 v_0.Total] 0 ∧ fr' 3 = .ref [lst cI v_1.Amounts, lst Chan.cells v_1.Chans, lst Picture.cells v_1.Pictures, .int .i64 v_1.Sent,
        .int .i64 v_1.Total] 0 ∧ fr' 5 = .int .i64 (i53 : Int) ∧ fr' 49 = .int .i64 (List.length v_0.Chans : Int) ∧ fr' 50 = .int .i64 (i53 : Int)) rfl (fun Q81 hN82 => ?_) ?_
    · simp only [List.take_succ_cons, List.take_zero]
      simp only [run_guardd (g := 66), B0, reduceIte, reduceEqDiff]
      refine guardd_split (t := (decide (x75.From ≠ x78.From))) (fun hg83 => ?_) (fun hg83 => ?_)
      · rw [iteT hg83] at hx85
        simp only [hg83, run_guardd (g := 66), guardd_off', d4_pick, put1d_some, xpick_t, run_draw_nil, run_nil, B0, reduceIte, reduceEqDiff]
        have e87 := some_inj hx85
        exact hN82 _ _ ⟨hS69, by rw [← e87]; simp only [B0, reduceIte, reduceEqDiff], f70, f71, rfl, f74, f73⟩
      · rw [iteF hg83] at hx85
        simp only [hg83, run_guardd (g := 66), guardd_false, f70, d4_fa, put1d_some, Nat.reduceAdd, Nat.zero_add, Nat.add_zero, xfa_ref, d4_ld, B0, reduceIte, reduceEqDiff]
        refine put1d_eq (v := lst Chan.cells v_0.Chans) rfl ?_
        obtain ⟨x88, hx89, hF90⟩ := bind_some' hx85
        simp only [hg83, run_guardd (g := 66), guardd_false, d4_mv, put1d_some, d4_ia, B0, reduceIte, reduceEqDiff]
        refine put1d_eq (v := .ref (Chan.cells x88) 0) (xia_lst hx89 rfl) ?_
        simp only [hg83, run_guardd (g := 66), guardd_false, d4_fa, put1d_some, Nat.reduceAdd, Nat.zero_add, Nat.add_zero, xfa_ref, d4_ld, B0, reduceIte, reduceEqDiff]
        refine put1d_eq (v := .int .i64 x88.To) rfl ?_
        simp only [hg83, run_guardd (g := 66), guardd_false, f71, d4_fa, put1d_some, Nat.reduceAdd, Nat.zero_add, Nat.add_zero, xfa_ref, d4_ld, B0, reduceIte, reduceEqDiff]
        refine put1d_eq (v := lst Chan.cells v_1.Chans) rfl ?_
        obtain ⟨x91, hx92, hF93⟩ := bind_some' hF90
        simp only [hg83, run_guardd (g := 66), guardd_false, d4_mv, put1d_some, d4_ia, B0, reduceIte, reduceEqDiff]
        refine put1d_eq (v := .ref (Chan.cells x91) 0) (xia_lst hx92 rfl) ?_
        simp only [hg83, run_guardd (g := 66), guardd_false, d4_fa, put1d_some, Nat.reduceAdd, Nat.zero_add, Nat.add_zero, xfa_ref, d4_ld, B0, reduceIte, reduceEqDiff]
        refine put1d_eq (v := .int .i64 x91.To) rfl ?_
        simp only [hg83, run_guardd (g := 66), guardd_false, d4_bin, put1d_some, xneq, d4_pick, xpick_f, run_draw_nil, run_nil, B0, reduceIte, reduceEqDiff]
        have e94 := some_inj hF93
        exact hN82 _ _ ⟨hS69, by rw [← e94]; simp only [B0, reduceIte, reduceEqDiff], f70, f71, rfl, f74, f73⟩
    rintro fr95 h102 ⟨hS103, f96, f97, f98, f99, f100, f101⟩
    simp only [List.drop_succ_cons, List.drop_zero]
    simp only [f96, d4_mv, put1d_some, B0, reduceIte, reduceEqDiff]
    simp only [run_guardd (g := 81), B0, reduceIte, reduceEqDiff]
    refine guardd_split (t := v84) (fun hg104 => ?_) (fun hg104 => ?_)
    · rw [iteT hg104] at hF86
      simp only [hg104, run_guardd (g := 81), guardd_off', d4_pick, put1d_some, xpick_t, run_draw_nil, run_cond, cond_true, run_seq, run_reg, run_mv, run_ops_nil, run_ret, B0,
          reduceIte, reduceEqDiff]
      have e105 := some_inj hF86
      subst e105
      have ho106 := hr60 _ rfl
      have hk107 := hk58
      rw [ho106] at hk107
      dsimp only [jnO] at hk107
      apply hR64
      have he := some_inj hk107
      subst he
      simp only [end_ret1, B0, reduceIte, reduceEqDiff]
      exact rfl
    rw [iteF hg104] at hF86
    simp only [hg104, run_guardd (g := 81), guardd_false, f97, d4_fa, put1d_some, Nat.reduceAdd, Nat.zero_add, Nat.add_zero, xfa_ref, d4_ld, B0, reduceIte, reduceEqDiff]
    refine put1d_eq (v := lst Chan.cells v_0.Chans) rfl ?_
    obtain ⟨x108, hx109, hF110⟩ := bind_some' hF86
    simp only [hg104, run_guardd (g := 81), guardd_false, f99, d4_mv, put1d_some, d4_ia, B0, reduceIte, reduceEqDiff]
    refine put1d_eq (v := .ref (Chan.cells x108) 0) (xia_lst hx109 rfl) ?_
    simp only [hg104, run_guardd (g := 81), guardd_false, d4_fa, put1d_some, Nat.reduceAdd, Nat.zero_add, Nat.add_zero, xfa_ref, d4_ld, B0, reduceIte, reduceEqDiff]
    refine put1d_eq (v := lst cI x108.Way) rfl ?_
    simp only [hg104, run_guardd (g := 81), guardd_false, f98, d4_fa, put1d_some, Nat.reduceAdd, Nat.zero_add, Nat.add_zero, xfa_ref, d4_ld, B0, reduceIte, reduceEqDiff]
    refine put1d_eq (v := lst Chan.cells v_1.Chans) rfl ?_
    obtain ⟨x111, hx112, hF113⟩ := bind_some' hF110
    simp only [hg104, run_guardd (g := 81), guardd_false, f99, d4_mv, put1d_some, d4_ia, B0, reduceIte, reduceEqDiff]
    refine put1d_eq (v := .ref (Chan.cells x111) 0) (xia_lst hx112 rfl) ?_
    simp only [hg104, run_guardd (g := 81), guardd_false, d4_fa, put1d_some, Nat.reduceAdd, Nat.zero_add, Nat.add_zero, xfa_ref, d4_ld, B0, reduceIte, reduceEqDiff]
    refine put1d_eq (v := lst cI x111.Way) rfl ?_
    obtain ⟨v114, hx115, hF116⟩ := bind_some' hF113
    simp only [hg104, run_guardd (g := 81), guardd_false, run_d3_call, B0, reduceIte, reduceEqDiff]
    refine call1d rfl (mapM1 snap_lst (mapM1 snap_lst mapM0)) (laws_sameInts_x (fun b hb => decide_eq_true hb) x108.Way x111.Way v114 hx115) ?_
    simp only [hg104, run_guardd (g := 81), guardd_false, d4_un, put1d_some, xnot, d4_pick, xpick_f, run_draw_nil, run_cond, B0, reduceIte, reduceEqDiff]
    refine cond_split (t := (!v114)) (fun hc117 => ?_) (fun hc117 => ?_)
    · rw [iteT hc117] at hF116
      simp only [run_seq, run_reg, run_mv, run_ops_nil, run_ret, B0, reduceIte, reduceEqDiff]
      have e118 := some_inj hF116
      subst e118
      have ho119 := hr60 _ rfl
      have hk120 := hk58
      rw [ho119] at hk120
      dsimp only [jnO] at hk120
      apply hR64
      have he := some_inj hk120
      subst he
      simp only [end_ret1, B0, reduceIte, reduceEqDiff]
      exact rfl
    rw [iteF hc117] at hF116
    simp only [run_skip, run_nil, B0, reduceIte, reduceEqDiff]
    have e121 := some_inj hF116
    exact hN62 _ _ _ e121.symm ⟨f97, f98, hS103⟩ (f101) (f100)
  rintro _ fr123 h124 rfl ⟨f126, f127, hS125⟩
  dsimp only [jnO] at hk58
  unfold laws_sameSnaps_j2 at hk58
  simp only [x10_11, run_seq, run_reg, f126, run_fa, put1_some, Nat.reduceAdd, Nat.zero_add, Nat.add_zero, xfa_ref, run_ld, B0, reduceIte, reduceEqDiff]
  refine put1_eq (v := lst Picture.cells v_0.Pictures) rfl ?_
  simp only [run_len, put1_some, xlen_lst, run_mv, run_ops_nil, B0, reduceIte, reduceEqDiff]
  obtain ⟨oc130, hX132, hk133⟩ := jn_some hk58
  simp only [x10_10]
  refine rangeN_j (σ := Unit) (fun i128 _ => laws_sameSnaps_b2 v_0 v_1 i128 ) (fun s fr' h' => fr' 2 = .ref [lst cI v_0.Amounts, lst Chan.cells v_0.Chans,
      lst Picture.cells v_0.Pictures, .int .i64 v_0.Sent, .int .i64 v_0.Total] 0 ∧ fr' 3 = .ref [lst cI v_1.Amounts, lst Chan.cells v_1.Chans, lst Picture.cells v_1.Pictures,
      .int .i64 v_1.Sent, .int .i64 v_1.Total] 0 ∧ Sep h' (geL h.length) ([])) hX132 ⟨f126, f127, hS125⟩ (by simp only [B0, reduceIte, reduceEqDiff]) (by simp only [B0, reduceIte,
      reduceEqDiff]) (fun _ _ _ h => h) rfl rfl (fun _ _ _ _ h => h) (fun _ _ _ _ h => h) (fun _ _ _ _ h => h) (by decide) ?_ ?_
  · rintro i128 _ fr142 h143 hx147 ⟨f145, f146, hS144⟩ f148 f149 oc131 hF134 hr135 Q136 hN137 hB141 hK138 hR139 hE140
    unfold laws_sameSnaps_b2 at hF134
    simp only [x10_8, run_seq, run_reg, f148, run_mv, run_ops_nil, x10_7, f145, run_fa, put1_some, Nat.reduceAdd, Nat.zero_add, Nat.add_zero, xfa_ref, run_ld, B0, reduceIte,
        reduceEqDiff]
    refine put1_eq (v := lst Picture.cells v_0.Pictures) rfl ?_
    obtain ⟨x150, hx151, hF152⟩ := bind_some' hF134
    simp only [run_mv, run_ia, B0, reduceIte, reduceEqDiff]
    refine put1_eq (v := .ref (Picture.cells x150) 0) (xia_lst hx151 rfl) ?_
    simp only [run_ld, B0, reduceIte, reduceEqDiff]
    refine put1_eq (v := .agg [.bool x150.Taken, .int .i64 x150.Amount, lst cI x150.In, lst cB x150.Closed]) rfl ?_
    simp only [run_new, B0, reduceIte, reduceEqDiff]
    refine put2_newC hS144 (fun b153 h154 hS155 => ?_)
    simp only [run_st, B0, reduceIte, reduceEqDiff]
    refine put2_stCx (us := [.bool x150.Taken, .int .i64 x150.Amount, lst cI x150.In, lst cB x150.Closed]) rfl (cs' := [.bool x150.Taken, .int .i64 x150.Amount, lst cI x150.In,
        lst cB x150.Closed]) hS155 hW rfl rfl (Nat.le_of_ble_eq_true rfl) rfl (fun h157 hS158 => ?_)
    simp only [run_ops_nil, B0, reduceIte, reduceEqDiff]
    refine frz_stepC hS158 hW (by simp only [B0, reduceIte, reduceEqDiff]) (fun h159 hS160 => ?_)
    simp only [run_frz_nil, x10_6, run_seq, run_reg, f146, run_fa, put1_some, Nat.reduceAdd, Nat.zero_add, Nat.add_zero, xfa_ref, run_ld, B0, reduceIte, reduceEqDiff]
    refine put1_eq (v := lst Picture.cells v_1.Pictures) rfl ?_
    obtain ⟨x161, hx162, hF163⟩ := bind_some' hF152
    simp only [run_mv, run_ia, B0, reduceIte, reduceEqDiff]
    refine put1_eq (v := .ref (Picture.cells x161) 0) (xia_lst hx162 rfl) ?_
    simp only [run_ld, B0, reduceIte, reduceEqDiff]
    refine put1_eq (v := .agg [.bool x161.Taken, .int .i64 x161.Amount, lst cI x161.In, lst cB x161.Closed]) rfl ?_
    simp only [run_new, B0, reduceIte, reduceEqDiff]
    refine put2_newC hS160 (fun b164 h165 hS166 => ?_)
    simp only [run_st, B0, reduceIte, reduceEqDiff]
    refine put2_stCx (us := [.bool x161.Taken, .int .i64 x161.Amount, lst cI x161.In, lst cB x161.Closed]) rfl (cs' := [.bool x161.Taken, .int .i64 x161.Amount, lst cI x161.In,
        lst cB x161.Closed]) hS166 hW rfl rfl (Nat.le_of_ble_eq_true rfl) rfl (fun h168 hS169 => ?_)
    simp only [run_ops_nil, B0, reduceIte, reduceEqDiff]
    refine frz_stepC hS169 hW (by simp only [B0, reduceIte, reduceEqDiff]) (fun h170 hS171 => ?_)
    simp only [run_frz_nil, x10_5, run_seq, run_reg, run_fa, put1_some, Nat.reduceAdd, Nat.zero_add, Nat.add_zero, xfa_ref, run_ld, B0, reduceIte, reduceEqDiff]
    refine put1_eq (v := .bool x150.Taken) rfl ?_
    simp only [run_fa, put1_some, Nat.reduceAdd, Nat.zero_add, Nat.add_zero, xfa_ref, run_ld, B0, reduceIte, reduceEqDiff]
    refine put1_eq (v := .bool x161.Taken) rfl ?_
    simp only [run_eqb, put1_some, xeqb_t, run_mv, B0, reduceIte, reduceEqDiff]
    refine ops_j 6 (fun fr' h' => Sep h' (geL h.length) ([]) ∧ fr' 125 = .bool ((!(x150.Taken == x161.Taken)) || (decide
        (x150.Amount ≠ x161.Amount))) ∧ fr' 2 = .ref [lst cI v_0.Amounts, lst Chan.cells v_0.Chans, lst Picture.cells v_0.Pictures, .int .i64 v_0.Sent,
        .int .i64 v_0.Total] 0 ∧ fr' 3 = .ref [lst cI v_1.Amounts, lst Chan.cells v_1.Chans, lst Picture.cells v_1.Pictures, .int .i64 v_1.Sent,
        .int .i64 v_1.Total] 0 ∧ fr' 7 = .ref [.bool x150.Taken, .int .i64 x150.Amount, lst cI x150.In, lst cB x150.Closed] 0 ∧ fr' 8 = .ref [.bool x161.Taken,
        .int .i64 x161.Amount, lst cI x161.In,
        lst cB x161.Closed] 0 ∧ fr' 100 = .int .i64 (List.length v_0.Pictures : Int) ∧ fr' 101 = .int .i64 (i128 : Int)) (fun Q172 hN173 => ?_) ?_
    · simp only [List.take_succ_cons, List.take_zero]
      simp only [run_guard (g := 119), B0, reduceIte, reduceEqDiff]
      refine guard_split (t := (!(x150.Taken == x161.Taken))) (fun hg174 => ?_) (fun hg174 => ?_)
      · simp only [hg174, run_guard (g := 119), guard_off', run_pick, put1_some, xpick_t, run_ops_nil, run_nil, B0, reduceIte, reduceEqDiff]
        exact hN173 _ _ ⟨hS171, by rw [orT hg174]; simp only [B0, reduceIte, reduceEqDiff], f145, f146, rfl, rfl, f149, f148⟩
      · simp only [hg174, run_guard (g := 119), guard_false, run_fa, put1_some, Nat.reduceAdd, Nat.zero_add, Nat.add_zero, xfa_ref, run_ld, B0, reduceIte, reduceEqDiff]
        refine put1_eq (v := .int .i64 x150.Amount) rfl ?_
        simp only [hg174, run_guard (g := 119), guard_false, run_fa, put1_some, Nat.reduceAdd, Nat.zero_add, Nat.add_zero, xfa_ref, run_ld, B0, reduceIte, reduceEqDiff]
        refine put1_eq (v := .int .i64 x161.Amount) rfl ?_
        simp only [hg174, run_guard (g := 119), guard_false, run_bin, put1_some, xneq, run_pick, xpick_f, run_ops_nil, run_nil, B0, reduceIte, reduceEqDiff]
        exact hN173 _ _ ⟨hS171, by rw [orF hg174]; simp only [B0, reduceIte, reduceEqDiff], f145, f146, rfl, rfl, f149, f148⟩
    rintro fr175 h183 ⟨hS184, f176, f177, f178, f179, f180, f181, f182⟩
    simp only [List.drop_succ_cons, List.drop_zero]
    simp only [f176, run_mv, B0, reduceIte, reduceEqDiff]
    obtain ⟨v188, hx189, hF190⟩ := bind_some' hF163
    refine ops_j 7 (fun fr' h' => Sep h' (geL h.length) ([]) ∧ fr' 133 = .bool v188 ∧ fr' 2 = .ref [lst cI v_0.Amounts, lst Chan.cells v_0.Chans, lst Picture.cells v_0.Pictures,
        .int .i64 v_0.Sent, .int .i64 v_0.Total] 0 ∧ fr' 3 = .ref [lst cI v_1.Amounts, lst Chan.cells v_1.Chans, lst Picture.cells v_1.Pictures, .int .i64 v_1.Sent,
        .int .i64 v_1.Total] 0 ∧ fr' 7 = .ref [.bool x150.Taken, .int .i64 x150.Amount, lst cI x150.In, lst cB x150.Closed] 0 ∧ fr' 8 = .ref [.bool x161.Taken,
        .int .i64 x161.Amount, lst cI x161.In,
        lst cB x161.Closed] 0 ∧ fr' 100 = .int .i64 (List.length v_0.Pictures : Int) ∧ fr' 101 = .int .i64 (i128 : Int)) (fun Q185 hN186 => ?_) ?_
    · simp only [List.take_succ_cons, List.take_zero]
      simp only [run_guard (g := 126), B0, reduceIte, reduceEqDiff]
      refine guard_split (t := ((!(x150.Taken == x161.Taken)) || (decide (x150.Amount ≠ x161.Amount)))) (fun hg187 => ?_) (fun hg187 => ?_)
      · rw [iteT hg187] at hx189
        simp only [hg187, run_guard (g := 126), guard_off', run_pick, put1_some, xpick_t, run_ops_nil, run_nil, B0, reduceIte, reduceEqDiff]
        have e191 := some_inj hx189
        exact hN186 _ _ ⟨hS184, by rw [← e191]; simp only [B0, reduceIte, reduceEqDiff], f177, f178, f179, f180, f181, f182⟩
      · rw [iteF hg187] at hx189
        simp only [hg187, run_guard (g := 126), guard_false, f179, run_fa, put1_some, Nat.reduceAdd, Nat.zero_add, Nat.add_zero, xfa_ref, run_ld, B0, reduceIte, reduceEqDiff]
        refine put1_eq (v := lst cI x150.In) rfl ?_
        simp only [hg187, run_guard (g := 126), guard_false, f180, run_fa, put1_some, Nat.reduceAdd, Nat.zero_add, Nat.add_zero, xfa_ref, run_ld, B0, reduceIte, reduceEqDiff]
        refine put1_eq (v := lst cI x161.In) rfl ?_
        obtain ⟨v192, hx193, hF194⟩ := bind_some' hx189
        simp only [hg187, run_guard (g := 126), guard_false, run_call, B0, reduceIte, reduceEqDiff]
        refine call1 rfl (mapM1 snap_lst (mapM1 snap_lst mapM0)) (laws_sameInts_x (fun b hb => decide_eq_true hb) x150.In x161.In v192 hx193) ?_
        simp only [hg187, run_guard (g := 126), guard_false, run_un, put1_some, xnot, run_pick, xpick_f, run_ops_nil, run_nil, B0, reduceIte, reduceEqDiff]
        have e195 := some_inj hF194
        exact hN186 _ _ ⟨hS184, by rw [← e195]; simp only [B0, reduceIte, reduceEqDiff], f177, f178, f179, f180, f181, f182⟩
    rintro fr196 h204 ⟨hS205, f197, f198, f199, f200, f201, f202, f203⟩
    simp only [List.drop_succ_cons, List.drop_zero]
    simp only [f197, run_mv, B0, reduceIte, reduceEqDiff]
    obtain ⟨v209, hx210, hF211⟩ := bind_some' hF190
    refine ops_j 7 (fun fr' h' => Sep h' (geL h.length) ([]) ∧ fr' 141 = .bool v209 ∧ fr' 2 = .ref [lst cI v_0.Amounts, lst Chan.cells v_0.Chans, lst Picture.cells v_0.Pictures,
        .int .i64 v_0.Sent, .int .i64 v_0.Total] 0 ∧ fr' 3 = .ref [lst cI v_1.Amounts, lst Chan.cells v_1.Chans, lst Picture.cells v_1.Pictures, .int .i64 v_1.Sent,
        .int .i64 v_1.Total] 0 ∧ fr' 100 = .int .i64 (List.length v_0.Pictures : Int) ∧ fr' 101 = .int .i64 (i128 : Int)) (fun Q206 hN207 => ?_) ?_
    · simp only [List.take_succ_cons, List.take_zero]
      simp only [run_guard (g := 134), B0, reduceIte, reduceEqDiff]
      refine guard_split (t := v188) (fun hg208 => ?_) (fun hg208 => ?_)
      · rw [iteT hg208] at hx210
        simp only [hg208, run_guard (g := 134), guard_off', run_pick, put1_some, xpick_t, run_ops_nil, run_nil, B0, reduceIte, reduceEqDiff]
        have e212 := some_inj hx210
        exact hN207 _ _ ⟨hS205, by rw [← e212]; simp only [B0, reduceIte, reduceEqDiff], f198, f199, f202, f203⟩
      · rw [iteF hg208] at hx210
        simp only [hg208, run_guard (g := 134), guard_false, f200, run_fa, put1_some, Nat.reduceAdd, Nat.zero_add, Nat.add_zero, xfa_ref, run_ld, B0, reduceIte, reduceEqDiff]
        refine put1_eq (v := lst cB x150.Closed) rfl ?_
        simp only [hg208, run_guard (g := 134), guard_false, f201, run_fa, put1_some, Nat.reduceAdd, Nat.zero_add, Nat.add_zero, xfa_ref, run_ld, B0, reduceIte, reduceEqDiff]
        refine put1_eq (v := lst cB x161.Closed) rfl ?_
        obtain ⟨v213, hx214, hF215⟩ := bind_some' hx210
        simp only [hg208, run_guard (g := 134), guard_false, run_call, B0, reduceIte, reduceEqDiff]
        refine call1 rfl (mapM1 snap_lst (mapM1 snap_lst mapM0)) (laws_sameBools_x (fun b hb => decide_eq_true hb) x150.Closed x161.Closed v213 hx214) ?_
        simp only [hg208, run_guard (g := 134), guard_false, run_un, put1_some, xnot, run_pick, xpick_f, run_ops_nil, run_nil, B0, reduceIte, reduceEqDiff]
        have e216 := some_inj hF215
        exact hN207 _ _ ⟨hS205, by rw [← e216]; simp only [B0, reduceIte, reduceEqDiff], f198, f199, f202, f203⟩
    rintro fr217 h223 ⟨hS224, f218, f219, f220, f221, f222⟩
    simp only [List.drop_succ_cons, List.drop_zero]
    simp only [run_ops_nil, f218, run_cond, B0, reduceIte, reduceEqDiff]
    refine cond_split (t := v209) (fun hc225 => ?_) (fun hc225 => ?_)
    · rw [iteT hc225] at hF211
      simp only [run_seq, run_reg, run_mv, run_ops_nil, run_ret, B0, reduceIte, reduceEqDiff]
      have e226 := some_inj hF211
      subst e226
      have ho227 := hr135 _ rfl
      have hk228 := hk133
      rw [ho227] at hk228
      dsimp only [jnO] at hk228
      apply hR139
      have he := some_inj hk228
      subst he
      simp only [end_ret1, B0, reduceIte, reduceEqDiff]
      exact rfl
    rw [iteF hc225] at hF211
    simp only [run_skip, run_nil, B0, reduceIte, reduceEqDiff]
    have e229 := some_inj hF211
    exact hN137 _ _ _ e229.symm ⟨f219, f220, hS224⟩ (f222) (f221)
  rintro _ fr231 h232 rfl ⟨f234, f235, hS233⟩
  dsimp only [jnO] at hk133
  unfold laws_sameSnaps_j1 at hk133
  simp only [run_seq, run_reg, run_mv, run_ops_nil, run_ret, B0, reduceIte, reduceEqDiff]
  have he := some_inj hk133
  subst he
  simp only [end_ret1, B0, reduceIte, reduceEqDiff]
  exact rfl
end Go.Proofs.Ytpkiieniipenjaa.X
namespace Go.Proofs.Ytpkiieniipenjaa.X
open Go
open Nat (reduceEqDiff)
theorem impl_Snap_onWay_x {W : Nat → Bool} {h : Heap} (hW : ∀ b,
    (geL h.length) b → W b = true) (s_0 : Snap) (r : Int) (hF : impl_Snap_onWay s_0 = some r) : Ret E W 46 [.agg [lst cI s_0.Amounts, lst Chan.cells s_0.Chans,
    lst Picture.cells s_0.Pictures, .int .i64 s_0.Sent, .int .i64 s_0.Total]] h (fun v h' => cut h.length h' E.sz false 9 v = some (.int .i64 r)) := by
  refine Ret.of (fn := x46) rfl (Run.of ?_)
  unfold impl_Snap_onWay at hF
  have zf0 : argFr [.agg [lst cI s_0.Amounts, lst Chan.cells s_0.Chans, lst Picture.cells s_0.Pictures, .int .i64 s_0.Sent, .int .i64 s_0.Total]] 0 = .agg [lst cI s_0.Amounts,
      lst Chan.cells s_0.Chans, lst Picture.cells s_0.Pictures, .int .i64 s_0.Sent, .int .i64 s_0.Total] := rfl
  generalize argFr [.agg [lst cI s_0.Amounts, lst Chan.cells s_0.Chans, lst Picture.cells s_0.Pictures, .int .i64 s_0.Sent, .int .i64 s_0.Total]] = fr0 at zf0 ⊢
  have hS : Sep h (geL h.length) [] := Sep.nil h
  simp only [x46, run_seq, run_reg, run_box, zf0, B0, reduceIte, reduceEqDiff]
  refine put2_boxC (cs := [lst cI s_0.Amounts, lst Chan.cells s_0.Chans, lst Picture.cells s_0.Pictures, .int .i64 s_0.Sent,
      .int .i64 s_0.Total]) hS rfl rfl rfl (fun b1 h2 hS3 => ?_)
  simp only [run_mv, run_ops_nil, B0, reduceIte, reduceEqDiff]
  refine frz_stepC hS3 hW (by simp only [B0, reduceIte, reduceEqDiff]) (fun h5 hS6 => ?_)
  simp only [run_frz_nil, x46_10, run_seq, run_reg, run_mv, run_ops_nil, x46_9, run_fa, put1_some, Nat.reduceAdd, Nat.zero_add, Nat.add_zero, xfa_ref, run_ld, B0, reduceIte,
      reduceEqDiff]
  refine put1_eq (v := lst Chan.cells s_0.Chans) rfl ?_
  simp only [run_len, put1_some, xlen_lst, run_mv, run_ops_nil, B0, reduceIte, reduceEqDiff]
  obtain ⟨oc11, hX13, hk14⟩ := jn_some hF
  simp only [x46_8]
  refine rangeL_j (σ := Int) s_0.Chans (fun i9 x10 s79 => impl_Snap_onWay_b2 i9 x10 s79) (fun s fr' h' => fr' 3 = .int .i64 s ∧ fr' 9 = lst Chan.cells s_0.Chans ∧ Sep h'
      (geL h.length) ([])) hX13 ⟨rfl, rfl, hS6⟩ (by simp only [B0, reduceIte, reduceEqDiff]) (by simp only [B0, reduceIte,
      reduceEqDiff]) (fun _ _ _ h => h) rfl rfl (fun _ _ _ _ h => h) (fun _ _ _ _ h => h) (fun _ _ _ _ h => h) (by decide) ?_ ?_
  · rintro i9 x10 s8 fr23 h24 hx28 ⟨f26, f27, hS25⟩ f29 f30 oc12 hF15 hr16 Q17 hN18 hB22 hK19 hR20 hE21
    unfold impl_Snap_onWay_b2 at hF15
    simp only [x46_6, run_seq, run_reg, f27, f29, run_ia, B0, reduceIte, reduceEqDiff]
    refine put1_eq (v := .ref (Chan.cells x10) 0) (xia_lstN hx28 rfl) ?_
    simp only [run_ld, B0, reduceIte, reduceEqDiff]
    refine put1_eq (v := .agg [.int .i64 x10.From, .int .i64 x10.To, lst cI x10.Way]) rfl ?_
    simp only [run_new, B0, reduceIte, reduceEqDiff]
    refine put2_newC hS25 (fun b31 h32 hS33 => ?_)
    simp only [run_st, B0, reduceIte, reduceEqDiff]
    refine put2_stCx (us := [.int .i64 x10.From, .int .i64 x10.To, lst cI x10.Way]) rfl (cs' := [.int .i64 x10.From, .int .i64 x10.To,
        lst cI x10.Way]) hS33 hW rfl rfl (Nat.le_of_ble_eq_true rfl) rfl (fun h35 hS36 => ?_)
    simp only [run_ops_nil, B0, reduceIte, reduceEqDiff]
    refine frz_stepC hS36 hW (by simp only [B0, reduceIte, reduceEqDiff]) (fun h37 hS38 => ?_)
    simp only [run_frz_nil, x46_5, run_seq, run_reg, run_fa, put1_some, Nat.reduceAdd, Nat.zero_add, Nat.add_zero, xfa_ref, run_ld, B0, reduceIte, reduceEqDiff]
    refine put1_eq (v := lst cI x10.Way) rfl ?_
    simp only [run_len, put1_some, xlen_lst, run_mv, run_ops_nil, B0, reduceIte, reduceEqDiff]
    obtain ⟨oc43, hX45, hk46⟩ := jn_some hF15
    simp only [x46_4]
    refine rangeL_j (σ := Int) x10.Way (fun i41 x42 s67 => impl_Snap_onWay_b1 i41 x42 s67)
        (fun s fr' h' => fr' 3 = .int .i64 s ∧ fr' 9 = lst Chan.cells s_0.Chans ∧ fr' 10 = .int .i64 (List.length s_0.Chans : Int) ∧ fr' 11 = .int .i64
        (i9 : Int) ∧ fr' 16 = lst cI x10.Way ∧ Sep h' (geL h.length) ([])) hX45 ⟨f26, f27, f30, f29, rfl, hS38⟩ (by simp only [B0, reduceIte, reduceEqDiff]) (by simp only [B0,
        reduceIte, reduceEqDiff]) (fun _ _ _ h => h) rfl rfl (fun _ _ _ _ h => h) (fun _ _ _ _ h => h) (fun _ _ _ _ h => h) (by decide) ?_ ?_
    · rintro i41 x42 s40 fr55 h56 hx63 ⟨f58, f59, f60, f61, f62, hS57⟩ f64 f65 oc44 hF47 hr48 Q49 hN50 hB54 hK51 hR52 hE53
      unfold impl_Snap_onWay_b1 at hF47
      simp only [x46_2, run_seq, run_reg, f62, f64, run_ia, B0, reduceIte, reduceEqDiff]
      refine put1_eq (v := .ref (cI x42) 0) (xia_lstN hx63 rfl) ?_
      simp only [run_ld, B0, reduceIte, reduceEqDiff]
      refine put1_eq (v := .int .i64 x42) rfl ?_
      simp only [run_mv, run_ops_nil, x46_1, run_reg, f58, run_bin, put1_some, xadd, run_nil, B0, reduceIte, reduceEqDiff]
      have e66 := some_inj hF47
      exact hN50 _ _ _ e66.symm ⟨rfl, f59, f60, f61, f62, hS57⟩ (f64) (f65)
    rintro s68 fr69 h70 rfl ⟨f72, f73, f74, f75, f76, hS71⟩
    dsimp only [jnO] at hk46
    unfold impl_Snap_onWay_j1 at hk46
    simp only [run_nil, B0, reduceIte, reduceEqDiff]
    have e77 := some_inj hk46
    exact hN18 _ _ _ e77.symm ⟨f72, f73, hS71⟩ (f75) (f74)
  rintro s80 fr81 h82 rfl ⟨f84, f85, hS83⟩
  dsimp only [jnO] at hk14
  unfold impl_Snap_onWay_j2 at hk14
  simp only [run_seq, run_reg, f84, run_mv, run_ops_nil, run_ret, B0, reduceIte, reduceEqDiff]
  have he := some_inj hk14
  subst he
  simp only [end_ret1, B0, reduceIte, reduceEqDiff]
  exact rfl
theorem slices_Index_bool_x {W : Nat → Bool} {h : Heap} (hW : ∀ b,
    (geL h.length) b → W b = true) (s_0 : List Bool) (v_1 : Bool) (r : Int) (hF : slices_Index_bool s_0 v_1 = some r) : Ret E W 78 [lst cB s_0,
    .bool v_1] h (fun v h' => cut h.length h' E.sz false 9 v = some (.int .i64 r)) := by
  refine Ret.of (fn := x78) rfl (Run.of ?_)
  unfold slices_Index_bool at hF
  have zf0 : argFr [lst cB s_0, .bool v_1] 0 = lst cB s_0 := rfl
  have zf1 : argFr [lst cB s_0, .bool v_1] 1 = .bool v_1 := rfl
  generalize argFr [lst cB s_0, .bool v_1] = fr0 at zf0 zf1 ⊢
  have hS : Sep h (geL h.length) [] := Sep.nil h
  simp only [x78, run_seq, run_reg, run_mv, run_ops_nil, x78_6, zf0, run_len, put1_some, xlen_lst, B0, reduceIte, reduceEqDiff]
  obtain ⟨oc3, hX5, hk6⟩ := jn_some hF
  simp only [x78_5]
  refine rangeL_j (σ := Unit) s_0 (fun i1 x2 _ => slices_Index_bool_b1 v_1 i1 x2 ) (fun s fr' h' => fr' 0 = lst cB s_0 ∧ fr' 1 = .bool v_1 ∧ Sep h' (geL h.length) ([])) hX5 ⟨zf0,
      zf1, hS⟩ (by simp only [B0, reduceIte, reduceEqDiff]) (by simp only [B0, reduceIte,
      reduceEqDiff]) (fun _ _ _ h => h) rfl rfl (fun _ _ _ _ h => h) (fun _ _ _ _ h => h) (fun _ _ _ _ h => h) (by decide) ?_ ?_
  · rintro i1 x2 _ fr15 h16 hx20 ⟨f18, f19, hS17⟩ f21 f22 oc4 hF7 hr8 Q9 hN10 hB14 hK11 hR12 hE13
    unfold slices_Index_bool_b1 at hF7
    simp only [x78_3, run_seq, run_reg, f21, run_mv, run_ops_nil, x78_2, f19, f18, run_ia, B0, reduceIte, reduceEqDiff]
    refine put1_eq (v := .ref (cB x2) 0) (xia_lstN hx20 rfl) ?_
    simp only [run_ld, B0, reduceIte, reduceEqDiff]
    refine put1_eq (v := .bool x2) rfl ?_
    simp only [run_eqb, put1_some, xeqb_f, run_ops_nil, x78_1, run_cond, B0, reduceIte, reduceEqDiff]
    refine cond_split (t := (v_1 == x2)) (fun hc23 => ?_) (fun hc23 => ?_)
    · rw [iteT hc23] at hF7
      simp only [run_seq, run_reg, run_mv, run_ops_nil, run_ret, B0, reduceIte, reduceEqDiff]
      have e24 := some_inj hF7
      subst e24
      have ho25 := hr8 _ rfl
      have hk26 := hk6
      rw [ho25] at hk26
      dsimp only [jnO] at hk26
      apply hR12
      have he := some_inj hk26
      subst he
      simp only [end_ret1, B0, reduceIte, reduceEqDiff]
      exact rfl
    rw [iteF hc23] at hF7
    simp only [run_skip, run_nil, B0, reduceIte, reduceEqDiff]
    have e27 := some_inj hF7
    exact hN10 _ _ _ e27.symm ⟨f18, f19, hS17⟩ (f21) (f22)
  rintro _ fr29 h30 rfl ⟨f32, f33, hS31⟩
  dsimp only [jnO] at hk6
  unfold slices_Index_bool_j1 at hk6
  simp only [run_seq, run_reg, run_mv, run_ops_nil, run_ret, B0, reduceIte, reduceEqDiff]
  have he := some_inj hk6
  subst he
  simp only [end_ret1, B0, reduceIte, reduceEqDiff]
  exact rfl
theorem slices_Contains_bool_x {W : Nat → Bool} {h : Heap} (hW : ∀ b,
    (geL h.length) b → W b = true) (s_0 : List Bool) (v_1 : Bool) (r : Bool) (hF : slices_Contains_bool s_0 v_1 = some r) : Ret E W 47 [lst cB s_0,
    .bool v_1] h (fun v h' => cut h.length h' E.sz false 9 v = some (.bool r)) := by
  refine Ret.of (fn := x47) rfl (Run.of ?_)
  unfold slices_Contains_bool at hF
  have zf0 : argFr [lst cB s_0, .bool v_1] 0 = lst cB s_0 := rfl
  have zf1 : argFr [lst cB s_0, .bool v_1] 1 = .bool v_1 := rfl
  generalize argFr [lst cB s_0, .bool v_1] = fr0 at zf0 zf1 ⊢
  have hS : Sep h (geL h.length) [] := Sep.nil h
  obtain ⟨v1, hx2, hF3⟩ := bind_some' hF
  simp only [x47, run_seq, run_reg, run_mv, run_ops_nil, x47_1, zf0, zf1, run_call, B0, reduceIte, reduceEqDiff]
  refine call1 rfl (mapM1 snap_lst (mapM1 snap_bool mapM0)) (slices_Index_bool_x (fun b hb => decide_eq_true hb) s_0 v_1 v1 hx2) ?_
  simp only [run_bin, put1_some, xgeq, run_mv, run_ops_nil, run_ret, B0, reduceIte, reduceEqDiff]
  have he := some_inj hF3
  subst he
  simp only [end_ret1, B0, reduceIte, reduceEqDiff]
  exact rfl
theorem slices_IndexFunc_int_x {W : Nat → Bool} {h : Heap} (hW : ∀ b,
    (geL h.length) b → W b = true) (s_0 : List Int) {g1 : Nat} {caps1 : List XV} (hm1 : E.mode g1 = 1) (f_1 : Int → Option Bool) (hf1 : ∀ (W : Nat → Bool) (h : Heap), (∀ b,
    h.length ≤ b → W b = true) → ∀ a0 r, f_1 a0 = some r → Ret E W g1 ([.int .i64 a0] ++ caps1) h (fun v h' => cut h.length h' E.sz false 9 v = some (.bool r))) (r : Int)
    (hF : slices_IndexFunc_int s_0 f_1 = some r) : Ret E W 85 [lst cI s_0, .fn g1 caps1] h (fun v h' => cut h.length h' E.sz false 9 v = some (.int .i64 r)) := by
  refine Ret.of (fn := x85) rfl (Run.of ?_)
  unfold slices_IndexFunc_int at hF
  have zf0 : argFr [lst cI s_0, .fn g1 caps1] 0 = lst cI s_0 := rfl
  have zf1 : argFr [lst cI s_0, .fn g1 caps1] 1 = .fn g1 caps1 := rfl
  generalize argFr [lst cI s_0, .fn g1 caps1] = fr0 at zf0 zf1 ⊢
  have hS : Sep h (geL h.length) [] := Sep.nil h
  simp only [x85, run_seq, run_reg, run_mv, run_ops_nil, x85_6, zf0, run_len, put1_some, xlen_lst, B0, reduceIte, reduceEqDiff]
  obtain ⟨oc3, hX5, hk6⟩ := jn_some hF
  simp only [x85_5]
  refine rangeL_j (σ := Unit) s_0 (fun i1 x2 _ => slices_IndexFunc_int_b1 f_1 i1 x2 ) (fun s fr' h' => fr' 0 = lst cI s_0 ∧ fr' 1 = .fn g1 caps1 ∧ Sep h' (geL h.length)
      ([])) hX5 ⟨zf0, zf1, hS⟩ (by simp only [B0, reduceIte, reduceEqDiff]) (by simp only [B0, reduceIte,
      reduceEqDiff]) (fun _ _ _ h => h) rfl rfl (fun _ _ _ _ h => h) (fun _ _ _ _ h => h) (fun _ _ _ _ h => h) (by decide) ?_ ?_
  · rintro i1 x2 _ fr15 h16 hx20 ⟨f18, f19, hS17⟩ f21 f22 oc4 hF7 hr8 Q9 hN10 hB14 hK11 hR12 hE13
    unfold slices_IndexFunc_int_b1 at hF7
    simp only [x85_3, run_seq, run_reg, f21, run_mv, run_ops_nil, x85_2, f19, f18, run_ia, B0, reduceIte, reduceEqDiff]
    refine put1_eq (v := .ref (cI x2) 0) (xia_lstN hx20 rfl) ?_
    simp only [run_ld, B0, reduceIte, reduceEqDiff]
    refine put1_eq (v := .int .i64 x2) rfl ?_
    obtain ⟨v23, hx24, hF25⟩ := bind_some' hF7
    simp only [run_call, B0, reduceIte, reduceEqDiff]
    refine call1 hm1 (mapM1 snap_int mapM0) (hf1 _ _ (fun b hb => decide_eq_true hb) x2 v23 hx24) ?_
    simp only [run_ops_nil, x85_1, run_cond, B0, reduceIte, reduceEqDiff]
    refine cond_split (t := v23) (fun hc26 => ?_) (fun hc26 => ?_)
    · rw [iteT hc26] at hF25
      simp only [run_seq, run_reg, run_mv, run_ops_nil, run_ret, B0, reduceIte, reduceEqDiff]
      have e27 := some_inj hF25
      subst e27
      have ho28 := hr8 _ rfl
      have hk29 := hk6
      rw [ho28] at hk29
      dsimp only [jnO] at hk29
      apply hR12
      have he := some_inj hk29
      subst he
      simp only [end_ret1, B0, reduceIte, reduceEqDiff]
      exact rfl
    rw [iteF hc26] at hF25
    simp only [run_skip, run_nil, B0, reduceIte, reduceEqDiff]
    have e30 := some_inj hF25
    exact hN10 _ _ _ e30.symm ⟨f18, f19, hS17⟩ (f21) (f22)
  rintro _ fr32 h33 rfl ⟨f35, f36, hS34⟩
  dsimp only [jnO] at hk6
  unfold slices_IndexFunc_int_j1 at hk6
  simp only [run_seq, run_reg, run_mv, run_ops_nil, run_ret, B0, reduceIte, reduceEqDiff]
  have he := some_inj hk6
  subst he
  simp only [end_ret1, B0, reduceIte, reduceEqDiff]
  exact rfl
theorem slices_ContainsFunc_int_x {W : Nat → Bool} {h : Heap} (hW : ∀ b,
    (geL h.length) b → W b = true) (s_0 : List Int) {g1 : Nat} {caps1 : List XV} (hm1 : E.mode g1 = 1) (f_1 : Int → Option Bool) (hf1 : ∀ (W : Nat → Bool) (h : Heap), (∀ b,
    h.length ≤ b → W b = true) → ∀ a0 r, f_1 a0 = some r → Ret E W g1 ([.int .i64 a0] ++ caps1) h (fun v h' => cut h.length h' E.sz false 9 v = some (.bool r))) (r : Bool)
    (hF : slices_ContainsFunc_int s_0 f_1 = some r) : Ret E W 82 [lst cI s_0, .fn g1 caps1] h (fun v h' => cut h.length h' E.sz false 9 v = some (.bool r)) := by
  refine Ret.of (fn := x82) rfl (Run.of ?_)
  unfold slices_ContainsFunc_int at hF
  have zf0 : argFr [lst cI s_0, .fn g1 caps1] 0 = lst cI s_0 := rfl
  have zf1 : argFr [lst cI s_0, .fn g1 caps1] 1 = .fn g1 caps1 := rfl
  generalize argFr [lst cI s_0, .fn g1 caps1] = fr0 at zf0 zf1 ⊢
  have hS : Sep h (geL h.length) [] := Sep.nil h
  obtain ⟨v1, hx2, hF3⟩ := bind_some' hF
  simp only [x82, run_seq, run_reg, run_mv, run_ops_nil, x82_1, zf0, zf1, run_call, B0, reduceIte, reduceEqDiff]
  refine call1 rfl (mapM1 snap_lst (mapM1 snap_fn mapM0)) (slices_IndexFunc_int_x (fun b hb => decide_eq_true hb) s_0 (g1 := g1) (caps1 := caps1) hm1 f_1 hf1 v1 hx2) ?_
  simp only [run_bin, put1_some, xgeq, run_mv, run_ops_nil, run_ret, B0, reduceIte, reduceEqDiff]
  have he := some_inj hF3
  subst he
  simp only [end_ret1, B0, reduceIte, reduceEqDiff]
  exact rfl
theorem impl_isPicture_1_x {W : Nat → Bool} {h : Heap} (hW : ∀ b,
    (geL h.length) b → W b = true) (n_0 : Int) (r : Bool) (hF : some (impl_isPicture_1 n_0) = some r) : Ret E W 83 [.int .i64 n_0] h
    (fun v h' => cut h.length h' E.sz false 9 v = some (.bool r)) := by
  refine Ret.of (fn := x83) rfl (Run.of ?_)
  unfold impl_isPicture_1 at hF
  have zf0 : argFr [.int .i64 n_0] 0 = .int .i64 n_0 := rfl
  generalize argFr [.int .i64 n_0] = fr0 at zf0 ⊢
  have hS : Sep h (geL h.length) [] := Sep.nil h
  simp only [x83, run_seq, run_reg, run_mv, run_ops_nil, x83_1, zf0, run_call, B0, reduceIte, reduceEqDiff]
  refine call1 rfl (mapM1 snap_int (mapM1 snap_int (mapM1 snap_int mapM0))) (impl_in_x (fun b hb => decide_eq_true hb) n_0 0 1000000 _ rfl) ?_
  simp only [run_un, put1_some, xnot, run_mv, run_ops_nil, run_ret, B0, reduceIte, reduceEqDiff]
  have he := some_inj hF
  subst he
  simp only [end_ret1, B0, reduceIte, reduceEqDiff]
  exact rfl
theorem slices_Max_int_x {W : Nat → Bool} {h : Heap} (hW : ∀ b,
    (geL h.length) b → W b = true) (k : Nat) (x_0 : List Int) (r : Int) (hF : slices_Max_int k x_0 = some r) : Ret E W 84 [lst cI x_0] h
    (fun v h' => cut h.length h' E.sz false 9 v = some (.int .i64 r)) := by
  refine Ret.of (fn := x84) rfl (Run.of ?_)
  unfold slices_Max_int at hF
  have zf0 : argFr [lst cI x_0] 0 = lst cI x_0 := rfl
  generalize argFr [lst cI x_0] = fr0 at zf0 ⊢
  have hS : Sep h (geL h.length) [] := Sep.nil h
  simp only [x84, run_seq, run_reg, run_mv, run_ops_nil, x84_9, zf0, run_len, put1_some, xlen_lst, run_bin, xlss, x84_1, run_cond, B0, reduceIte, reduceEqDiff]
  obtain ⟨sv4, hX2, hk3⟩ := bind_some' hF
  refine cond_j (t := (decide ((List.length x_0 : Int) < 1))) (fun fr' h' => fr' 0 = lst cI x_0 ∧ Sep h' (geL h.length) ([])) (fun Q5 hN6 hR7 hE8 => ⟨fun hc9 => ?_,
      fun hc9 => ?_⟩) ?_
  · rw [iteT hc9] at hX2
    cases hX2
  · rw [iteF hc9] at hX2
    simp only [run_skip, run_nil, B0, reduceIte, reduceEqDiff]
    have e10 := some_inj hX2
    subst e10
    exact hN6 _ _ ⟨zf0, hS⟩
  rintro fr11 h12 ⟨f14, hS13⟩
  unfold slices_Max_int_j1 at hk3
  obtain ⟨x15, hx16, hF17⟩ := bind_some' hk3
  simp only [x84_8, run_seq, run_reg, f14, run_mv, run_ia, B0, reduceIte, reduceEqDiff]
  refine put1_eq (v := .ref (cI x15) 0) (xia_lst hx16 rfl) ?_
  simp only [run_ld, B0, reduceIte, reduceEqDiff]
  refine put1_eq (v := .int .i64 x15) rfl ?_
  simp only [run_mv, run_ops_nil, x84_7, run_seq, run_reg, B0, reduceIte, reduceEqDiff]
  obtain ⟨oc24, hX26, hk27⟩ := jn_some hF17
  simp only [x84_6]
  refine loopF_j (σ := Int × Int) (fun s49 => slices_Max_int_b1 x_0 s49.1 s49.2) (fun s fr' h' => fr' 0 = lst cI x_0 ∧ fr' 3 = .int .i64 s.1 ∧ fr' 4 = .int .i64 s.2 ∧ Sep h'
      (geL h.length) ([])) hX26 ⟨f14, rfl, rfl, hS13⟩ (fun _ _ _ h => h) ?_ ?_
  · rintro ⟨s20, s21⟩ fr36 h37 ⟨f39, f40, f41, hS38⟩ oc25 hF28 hr29 Q30 hN31 hK32 hR33 hE34
    dsimp only at *
    unfold slices_Max_int_b1 at hF28
    simp only [x84_4, run_seq, run_reg, f41, run_mv, f39, run_len, put1_some, xlen_lst, run_bin, xlss, run_ops_nil, run_cond, B0, reduceIte, reduceEqDiff]
    refine cond_split (t := (decide (s21 < (List.length x_0 : Int)))) (fun hc43 => ?_) (fun hc43 => ?_)
    · rw [iteT hc43] at hF28
      obtain ⟨x44, hx45, hF46⟩ := bind_some' hF28
      simp only [run_skip, x84_3, run_seq, run_block, x84_2, run_reg, f40, run_mv, f39, f41, run_ia, B0, reduceIte, reduceEqDiff]
      refine put1_eq (v := .ref (cI x44) 0) (xia_lst hx45 rfl) ?_
      simp only [run_ld, B0, reduceIte, reduceEqDiff]
      refine put1_eq (v := .int .i64 x44) rfl ?_
      simp only [run_mnx, put1_some, pmaxI, run_mv, run_ops_nil, run_blk, run_reg, f41, run_bin, xadd, run_nil, B0, reduceIte, reduceEqDiff]
      have e47 := some_inj hF46
      exact hN31 _ _ _ e47.symm ⟨f39, rfl, rfl, hS38⟩
    rw [iteF hc43] at hF28
    simp only [run_exit, out_code, out_nil, B0, reduceIte, reduceEqDiff]
    have e48 := some_inj hF28
    exact hK32 _ _ _ e48.symm ⟨f39, f40, f41, hS38⟩
  rintro ⟨s50, s51⟩ fr52 h53 rfl ⟨f55, f56, f57, hS54⟩
  dsimp only [jnO] at hk27
  dsimp only at *
  unfold slices_Max_int_j2 at hk27
  simp only [run_seq, run_reg, f56, run_mv, run_ops_nil, run_ret, B0, reduceIte, reduceEqDiff]
  have he := some_inj hk27
  subst he
  simp only [end_ret1, B0, reduceIte, reduceEqDiff]
  exact rfl
theorem impl_isPicture_x {W : Nat → Bool} {h : Heap} (hW : ∀ b,
    (geL h.length) b → W b = true) (k : Nat) (p_0 : Picture) (own_1 : Int) (procs_2 : Int) (r : Bool)
    (hF : impl_isPicture k p_0 own_1 procs_2 = some r) : Ret E W 77 [.agg [.bool p_0.Taken, .int .i64 p_0.Amount, lst cI p_0.In, lst cB p_0.Closed], .int .i64 own_1,
    .int .i64 procs_2] h (fun v h' => cut h.length h' E.sz false 9 v = some (.bool r)) := by
  refine Ret.of (fn := x77) rfl (Run.of ?_)
  unfold impl_isPicture at hF
  have zf0 : argFr [.agg [.bool p_0.Taken, .int .i64 p_0.Amount, lst cI p_0.In, lst cB p_0.Closed], .int .i64 own_1, .int .i64 procs_2] 0 = .agg [.bool p_0.Taken,
      .int .i64 p_0.Amount, lst cI p_0.In, lst cB p_0.Closed] := rfl
  have zf1 : argFr [.agg [.bool p_0.Taken, .int .i64 p_0.Amount, lst cI p_0.In, lst cB p_0.Closed], .int .i64 own_1, .int .i64 procs_2] 1 = .int .i64 own_1 := rfl
  have zf2 : argFr [.agg [.bool p_0.Taken, .int .i64 p_0.Amount, lst cI p_0.In, lst cB p_0.Closed], .int .i64 own_1, .int .i64 procs_2] 2 = .int .i64 procs_2 := rfl
  generalize argFr [.agg [.bool p_0.Taken, .int .i64 p_0.Amount, lst cI p_0.In, lst cB p_0.Closed], .int .i64 own_1, .int .i64 procs_2] = fr0 at zf0 zf1 zf2 ⊢
  have hS : Sep h (geL h.length) [] := Sep.nil h
  simp only [x77, run_seq, run_reg, run_box, zf0, B0, reduceIte, reduceEqDiff]
  refine put2_boxC (cs := [.bool p_0.Taken, .int .i64 p_0.Amount, lst cI p_0.In, lst cB p_0.Closed]) hS rfl rfl rfl (fun b1 h2 hS3 => ?_)
  simp only [run_mv, run_ops_nil, B0, reduceIte, reduceEqDiff]
  refine frz_stepC hS3 hW (by simp only [B0, reduceIte, reduceEqDiff]) (fun h5 hS6 => ?_)
  simp only [run_frz_nil, x77_5, run_seq, run_reg, run_fa, put1_some, Nat.reduceAdd, Nat.zero_add, Nat.add_zero, xfa_ref, run_ld, B0, reduceIte, reduceEqDiff]
  refine put1_eq (v := lst cI p_0.In) rfl ?_
  simp only [run_len, put1_some, xlen_lst, zf2, run_mv, run_bin, xneq, B0, reduceIte, reduceEqDiff]
  refine ops_j 6 (fun fr' h' => Sep h' (geL h.length) ([]) ∧ fr' 18 = .bool ((decide ((List.length p_0.In : Int) ≠ procs_2)) || (decide
      ((List.length p_0.Closed : Int) ≠ procs_2))) ∧ fr' 1 = .int .i64 own_1 ∧ fr' 3 = .ref [.bool p_0.Taken, .int .i64 p_0.Amount, lst cI p_0.In,
      lst cB p_0.Closed] 0) (fun Q7 hN8 => ?_) ?_
  · simp only [List.take_succ_cons, List.take_zero]
    simp only [run_guard (g := 12), B0, reduceIte, reduceEqDiff]
    refine guard_split (t := (decide ((List.length p_0.In : Int) ≠ procs_2))) (fun hg9 => ?_) (fun hg9 => ?_)
    · simp only [hg9, run_guard (g := 12), guard_off', run_pick, put1_some, xpick_t, run_ops_nil, run_nil, B0, reduceIte, reduceEqDiff]
      exact hN8 _ _ ⟨hS6, by rw [orT hg9]; simp only [B0, reduceIte, reduceEqDiff], zf1, rfl⟩
    · simp only [hg9, run_guard (g := 12), guard_false, run_fa, put1_some, Nat.reduceAdd, Nat.zero_add, Nat.add_zero, xfa_ref, run_ld, B0, reduceIte, reduceEqDiff]
      refine put1_eq (v := lst cB p_0.Closed) rfl ?_
      simp only [hg9, run_guard (g := 12), guard_false, run_len, put1_some, xlen_lst, zf2, run_mv, run_bin, xneq, run_pick, xpick_f, run_ops_nil, run_nil, B0, reduceIte,
          reduceEqDiff]
      exact hN8 _ _ ⟨hS6, by rw [orF hg9]; simp only [B0, reduceIte, reduceEqDiff], zf1, rfl⟩
  rintro fr10 h14 ⟨hS15, f11, f12, f13⟩
  simp only [List.drop_succ_cons, List.drop_zero]
  simp only [f11, run_mv, B0, reduceIte, reduceEqDiff]
  obtain ⟨v19, hx20, hF21⟩ := bind_some' hF
  refine ops_j 4 (fun fr' h' => Sep h' (geL h.length) ([]) ∧ fr' 23 = .bool v19 ∧ fr' 1 = .int .i64 own_1 ∧ fr' 3 = .ref [.bool p_0.Taken, .int .i64 p_0.Amount, lst cI p_0.In,
      lst cB p_0.Closed] 0) (fun Q16 hN17 => ?_) ?_
  · simp only [List.take_succ_cons, List.take_zero]
    simp only [run_guard (g := 19), B0, reduceIte, reduceEqDiff]
    refine guard_split (t := ((decide ((List.length p_0.In : Int) ≠ procs_2)) || (decide ((List.length p_0.Closed : Int) ≠ procs_2)))) (fun hg18 => ?_) (fun hg18 => ?_)
    · rw [iteT hg18] at hx20
      simp only [hg18, run_guard (g := 19), guard_off', run_pick, put1_some, xpick_t, run_ops_nil, run_nil, B0, reduceIte, reduceEqDiff]
      have e22 := some_inj hx20
      exact hN17 _ _ ⟨hS15, by rw [← e22]; simp only [B0, reduceIte, reduceEqDiff], f12, f13⟩
    · rw [iteF hg18] at hx20
      simp only [hg18, run_guard (g := 19), guard_false, f13, run_fa, put1_some, Nat.reduceAdd, Nat.zero_add, Nat.add_zero, xfa_ref, run_ld, B0, reduceIte, reduceEqDiff]
      refine put1_eq (v := lst cI p_0.In) rfl ?_
      obtain ⟨v23, hx24, hF25⟩ := bind_some' hx20
      simp only [hg18, run_guard (g := 19), guard_false, run_call, B0, reduceIte, reduceEqDiff]
      refine call1 rfl (mapM1 snap_lst (mapM1 snap_fn mapM0)) (slices_ContainsFunc_int_x (fun b hb => decide_eq_true hb) p_0.In (g1 := 83) (caps1 := []) rfl (fun a0 => some
          (impl_isPicture_1 a0)) (fun W h hW a0 r hr => impl_isPicture_1_x hW a0 r hr) v23 hx24) ?_
      simp only [hg18, run_pick, put1_some, xpick_f, run_ops_nil, run_nil, B0, reduceIte, reduceEqDiff]
      have e26 := some_inj hF25
      exact hN17 _ _ ⟨hS15, by rw [← e26]; simp only [B0, reduceIte, reduceEqDiff], f12, f13⟩
  rintro fr27 h31 ⟨hS32, f28, f29, f30⟩
  simp only [List.drop_succ_cons, List.drop_zero]
  simp only [run_ops_nil, f28, run_cond, B0, reduceIte, reduceEqDiff]
  refine cond_split (t := v19) (fun hc33 => ?_) (fun hc33 => ?_)
  · rw [iteT hc33] at hF21
    simp only [run_seq, run_reg, run_mv, run_ops_nil, run_ret, B0, reduceIte, reduceEqDiff]
    have he := some_inj hF21
    subst he
    simp only [end_ret1, B0, reduceIte, reduceEqDiff]
    exact rfl
  rw [iteF hc33] at hF21
  simp only [run_skip, x77_4, run_seq, run_reg, f30, run_fa, put1_some, Nat.reduceAdd, Nat.zero_add, Nat.add_zero, xfa_ref, run_ld, B0, reduceIte, reduceEqDiff]
  refine put1_eq (v := .bool p_0.Taken) rfl ?_
  simp only [run_un, put1_some, xnot, run_ops_nil, x77_2, run_cond, B0, reduceIte, reduceEqDiff]
  refine cond_split (t := (!p_0.Taken)) (fun hc34 => ?_) (fun hc34 => ?_)
  · rw [iteT hc34] at hF21
    simp only [x77_1, run_seq, run_reg, f30, run_fa, put1_some, Nat.reduceAdd, Nat.zero_add, Nat.add_zero, xfa_ref, run_ld, B0, reduceIte, reduceEqDiff]
    refine put1_eq (v := .int .i64 p_0.Amount) rfl ?_
    simp only [run_bin, put1_some, xeql, run_mv, B0, reduceIte, reduceEqDiff]
    obtain ⟨v38, hx39, hF40⟩ := bind_some' hF21
    refine ops_j 5 (fun fr' h' => Sep h' (geL h.length) ([]) ∧ fr' 35 = .bool v38 ∧ fr' 3 = .ref [.bool p_0.Taken, .int .i64 p_0.Amount, lst cI p_0.In,
        lst cB p_0.Closed] 0) (fun Q35 hN36 => ?_) ?_
    · simp only [List.take_succ_cons, List.take_zero]
      simp only [run_guard (g := 30), B0, reduceIte, reduceEqDiff]
      refine guard_split (t := (decide (p_0.Amount = 0))) (fun hg37 => ?_) (fun hg37 => ?_)
      · rw [iteT hg37] at hx39
        simp only [hg37, run_guard (g := 30), guard_true, f30, run_fa, put1_some, Nat.reduceAdd, Nat.zero_add, Nat.add_zero, xfa_ref, run_ld, B0, reduceIte, reduceEqDiff]
        refine put1_eq (v := lst cI p_0.In) rfl ?_
        obtain ⟨v41, hx42, hF43⟩ := bind_some' hx39
        simp only [hg37, run_guard (g := 30), guard_true, run_call, B0, reduceIte, reduceEqDiff]
        refine call1 rfl (mapM1 snap_lst mapM0) (slices_Max_int_x (fun b hb => decide_eq_true hb) k p_0.In v41 hx42) ?_
        simp only [hg37, run_guard (g := 30), guard_true, run_bin, put1_some, xeql, run_pick, xpick_t, run_ops_nil, run_nil, B0, reduceIte, reduceEqDiff]
        have e44 := some_inj hF43
        exact hN36 _ _ ⟨hS32, by rw [← e44]; simp only [B0, reduceIte, reduceEqDiff], f30⟩
      · rw [iteF hg37] at hx39
        simp only [hg37, run_guard (g := 30), guard_off, run_pick, put1_some, xpick_f, run_ops_nil, run_nil, B0, reduceIte, reduceEqDiff]
        have e45 := some_inj hx39
        exact hN36 _ _ ⟨hS32, by rw [← e45]; simp only [B0, reduceIte, reduceEqDiff], f30⟩
    rintro fr46 h49 ⟨hS50, f47, f48⟩
    simp only [List.drop_succ_cons, List.drop_zero]
    simp only [f47, run_mv, B0, reduceIte, reduceEqDiff]
    obtain ⟨v54, hx55, hF56⟩ := bind_some' hF40
    refine ops_j 5 (fun fr' h' => Sep h' (geL h.length) ([]) ∧ fr' 41 = .bool v54) (fun Q51 hN52 => ?_) ?_
    · simp only [List.take_succ_cons, List.take_zero]
      simp only [run_guard (g := 36), B0, reduceIte, reduceEqDiff]
      refine guard_split (t := v38) (fun hg53 => ?_) (fun hg53 => ?_)
      · rw [iteT hg53] at hx55
        simp only [hg53, run_guard (g := 36), guard_true, f48, run_fa, put1_some, Nat.reduceAdd, Nat.zero_add, Nat.add_zero, xfa_ref, run_ld, B0, reduceIte, reduceEqDiff]
        refine put1_eq (v := lst cB p_0.Closed) rfl ?_
        obtain ⟨v57, hx58, hF59⟩ := bind_some' hx55
        simp only [hg53, run_guard (g := 36), guard_true, run_call, B0, reduceIte, reduceEqDiff]
        refine call1 rfl (mapM1 snap_lst (mapM1 snap_bool mapM0)) (slices_Contains_bool_x (fun b hb => decide_eq_true hb) p_0.Closed true v57 hx58) ?_
        simp only [hg53, run_guard (g := 36), guard_true, run_un, put1_some, xnot, run_pick, xpick_t, run_ops_nil, run_nil, B0, reduceIte, reduceEqDiff]
        have e60 := some_inj hF59
        exact hN52 _ _ ⟨hS50, by rw [← e60]; simp only [B0, reduceIte, reduceEqDiff]⟩
      · rw [iteF hg53] at hx55
        simp only [hg53, run_guard (g := 36), guard_off, run_pick, put1_some, xpick_f, run_ops_nil, run_nil, B0, reduceIte, reduceEqDiff]
        have e61 := some_inj hx55
        exact hN52 _ _ ⟨hS50, by rw [← e61]; simp only [B0, reduceIte, reduceEqDiff]⟩
    rintro fr62 h64 ⟨hS65, f63⟩
    simp only [List.drop_succ_cons, List.drop_zero]
    simp only [f63, run_mv, run_ops_nil, run_ret, B0, reduceIte, reduceEqDiff]
    have he := some_inj hF56
    subst he
    simp only [end_ret1, B0, reduceIte, reduceEqDiff]
    exact rfl
  rw [iteF hc34] at hF21
  simp only [run_skip, x77_3, run_seq, run_reg, f30, run_fa, put1_some, Nat.reduceAdd, Nat.zero_add, Nat.add_zero, xfa_ref, run_ld, B0, reduceIte, reduceEqDiff]
  refine put1_eq (v := .int .i64 p_0.Amount) rfl ?_
  simp only [run_call, B0, reduceIte, reduceEqDiff]
  refine call1 rfl (mapM1 snap_int (mapM1 snap_int (mapM1 snap_int mapM0))) (impl_in_x (fun b hb => decide_eq_true hb) p_0.Amount 0 1000 _ rfl) ?_
  simp only [run_mv, B0, reduceIte, reduceEqDiff]
  obtain ⟨v69, hx70, hF71⟩ := bind_some' hF21
  refine ops_j 7 (fun fr' h' => Sep h' (geL h.length) ([]) ∧ fr' 52 = .bool v69 ∧ fr' 1 = .int .i64 own_1 ∧ fr' 3 = .ref [.bool p_0.Taken, .int .i64 p_0.Amount, lst cI p_0.In,
      lst cB p_0.Closed] 0) (fun Q66 hN67 => ?_) ?_
  · simp only [List.take_succ_cons, List.take_zero]
    simp only [run_guard (g := 45), B0, reduceIte, reduceEqDiff]
    refine guard_split (t := (impl_in p_0.Amount 0 1000)) (fun hg68 => ?_) (fun hg68 => ?_)
    · rw [iteT hg68] at hx70
      simp only [hg68, run_guard (g := 45), guard_true, f30, run_fa, put1_some, Nat.reduceAdd, Nat.zero_add, Nat.add_zero, xfa_ref, run_ld, B0, reduceIte, reduceEqDiff]
      refine put1_eq (v := lst cI p_0.In) rfl ?_
      obtain ⟨x72, hx73, hF74⟩ := bind_some' hx70
      simp only [hg68, run_guard (g := 45), guard_true, f29, run_mv, run_ia, B0, reduceIte, reduceEqDiff]
      refine put1_eq (v := .ref (cI x72) 0) (xia_lst hx73 rfl) ?_
      simp only [hg68, run_guard (g := 45), guard_true, run_ld, B0, reduceIte, reduceEqDiff]
      refine put1_eq (v := .int .i64 x72) rfl ?_
      simp only [hg68, run_guard (g := 45), guard_true, run_bin, put1_some, xeql, run_pick, xpick_t, run_ops_nil, run_nil, B0, reduceIte, reduceEqDiff]
      have e75 := some_inj hF74
      exact hN67 _ _ ⟨hS32, by rw [← e75]; simp only [B0, reduceIte, reduceEqDiff], f29, f30⟩
    · rw [iteF hg68] at hx70
      simp only [hg68, run_guard (g := 45), guard_off, run_pick, put1_some, xpick_f, run_ops_nil, run_nil, B0, reduceIte, reduceEqDiff]
      have e76 := some_inj hx70
      exact hN67 _ _ ⟨hS32, by rw [← e76]; simp only [B0, reduceIte, reduceEqDiff], f29, f30⟩
  rintro fr77 h81 ⟨hS82, f78, f79, f80⟩
  simp only [List.drop_succ_cons, List.drop_zero]
  simp only [f78, run_mv, B0, reduceIte, reduceEqDiff]
  obtain ⟨v86, hx87, hF88⟩ := bind_some' hF71
  refine ops_j 6 (fun fr' h' => Sep h' (geL h.length) ([]) ∧ fr' 59 = .bool v86) (fun Q83 hN84 => ?_) ?_
  · simp only [List.take_succ_cons, List.take_zero]
    simp only [run_guard (g := 53), B0, reduceIte, reduceEqDiff]
    refine guard_split (t := v69) (fun hg85 => ?_) (fun hg85 => ?_)
    · rw [iteT hg85] at hx87
      simp only [hg85, run_guard (g := 53), guard_true, f80, run_fa, put1_some, Nat.reduceAdd, Nat.zero_add, Nat.add_zero, xfa_ref, run_ld, B0, reduceIte, reduceEqDiff]
      refine put1_eq (v := lst cB p_0.Closed) rfl ?_
      obtain ⟨x89, hx90, hF91⟩ := bind_some' hx87
      simp only [hg85, run_guard (g := 53), guard_true, f79, run_mv, run_ia, B0, reduceIte, reduceEqDiff]
      refine put1_eq (v := .ref (cB x89) 0) (xia_lst hx90 rfl) ?_
      simp only [hg85, run_guard (g := 53), guard_true, run_ld, B0, reduceIte, reduceEqDiff]
      refine put1_eq (v := .bool x89) rfl ?_
      simp only [hg85, run_pick, put1_some, xpick_t, run_ops_nil, run_nil, B0, reduceIte, reduceEqDiff]
      have e92 := some_inj hF91
      exact hN84 _ _ ⟨hS82, by rw [← e92]; simp only [B0, reduceIte, reduceEqDiff]⟩
    · rw [iteF hg85] at hx87
      simp only [hg85, run_guard (g := 53), guard_off, run_pick, put1_some, xpick_f, run_ops_nil, run_nil, B0, reduceIte, reduceEqDiff]
      have e93 := some_inj hx87
      exact hN84 _ _ ⟨hS82, by rw [← e93]; simp only [B0, reduceIte, reduceEqDiff]⟩
  rintro fr94 h96 ⟨hS97, f95⟩
  simp only [List.drop_succ_cons, List.drop_zero]
  simp only [f95, run_mv, run_ops_nil, run_ret, B0, reduceIte, reduceEqDiff]
  have he := some_inj hF88
  subst he
  simp only [end_ret1, B0, reduceIte, reduceEqDiff]
  exact rfl
end Go.Proofs.Ytpkiieniipenjaa.X
