/- The functions' code comes to what the plain functions say (4). -/
import Derived.Test.YtefgfcalgjmhjaaXCH3
set_option linter.unusedVariables false
set_option linter.unusedSimpArgs false
set_option maxRecDepth 100000
namespace Go.Proofs.Ytefgfcalgjmhjaa.X
open Go
open Nat (reduceEqDiff)
theorem spec_PlayGroup_x {W : Nat → Bool} {h : Heap} (hW : ∀ b,
    (geL h.length) b → W b = true) (k : Nat) (replicas_0 : Int) (l_1 : List IsrStep) (r : Group × (List Bool) × Bool)
    (hF : spec_PlayGroup k replicas_0 l_1 = some r) : Ret E W 17 [.int .i64 replicas_0, lst IsrStep.cells l_1] h (fun v h' => ∃ rv0_2 rc0_2 rv0_4 rc0_4 rv1 rc1,
    v = .tup [.agg [.int .i64 r.1.Epoch, .int .i64 r.1.Leader, rv0_2, .int .i64 r.1.High, rv0_4], rv1,
    .bool r.2.2] ∧ SlF cI 1 3 rv0_2 r.1.InStep rc0_2 ∧ SlN Replica.R 3 51 rv0_4 r.1.Replicas rc0_4 ∧ SlF cB 1 4 rv1 r.2.1 rc1 ∧ Sep h' (geL h.length) (rc0_2 ++ (rc0_4 ++ (rc1 ++
    ([]))))) := by
  refine Ret.of (fn := x17) rfl (Run.of ?_)
  unfold spec_PlayGroup at hF
  have zf0 : argFr [.int .i64 replicas_0, lst IsrStep.cells l_1] 0 = .int .i64 replicas_0 := rfl
  have zf1 : argFr [.int .i64 replicas_0, lst IsrStep.cells l_1] 1 = lst IsrStep.cells l_1 := rfl
  generalize argFr [.int .i64 replicas_0, lst IsrStep.cells l_1] = fr0 at zf0 zf1 ⊢
  have hS : Sep h (geL h.length) [] := Sep.nil h
  simp only [x17, run_seq, run_reg, run_new, B0, reduceIte, reduceEqDiff]
  refine put2_newC hS (fun b1 h2 hS3 => ?_)
  obtain ⟨v5, hx6, hF7⟩ := bind_some' hF
  simp only [run_mv, run_ops_nil, x17_14, run_seq, run_reg, zf0, run_call, B0, reduceIte, reduceEqDiff]
  refine call2 rfl hS3 (mapM1 snap_int mapM0) (spec_NewGroup_x (fun b hb => decide_eq_true hb) k replicas_0 v5 hx6) ?_
  rintro _ h16 ⟨v8, c9, v12, c13, rfl, hv10, hv14, hS17⟩
  refine ⟨_, free_t (all_c (free2_a (all_c rfl (all_c rfl (all_c (SlF.free1 hv10) (all_c rfl (all_c (SlN.free1 hv14) all_n)))))) (all_c rfl all_n)), hS17,
      (pf_app (SlF.pf hv10 (fun _ => rfl)) (pf_app (SlN.pf hv14 Replica.RO) pf_nil)), fun h18 hS19 => ?_⟩
  have hS20 : Sep h18 (geL h.length) (c9 ++ (c13 ++ ([Blk1 b1 [.int .i64 0, .int .i64 0, .nil, .int .i64 0, .nil] 29] ++ ([])))) := by simpa only [List.append_assoc,
      List.nil_append] using hS19
  simp only [run_mv, run_ext, put1_some, xext_0, xext_1, run_new, B0, reduceIte, reduceEqDiff]
  refine put2_newC hS20 (fun b21 h22 hS23 => ?_)
  simp only [run_st, B0, reduceIte, reduceEqDiff]
  refine put2_stCx (us := [.int .i64 v5.1.Epoch, .int .i64 v5.1.Leader, v8, .int .i64 v5.1.High, v12]) rfl (cs' := [.int .i64 v5.1.Epoch, .int .i64 v5.1.Leader, v8,
      .int .i64 v5.1.High, v12]) hS23 hW rfl (all_c rfl (all_c rfl (all_c (SlF.one hv10) (all_c rfl (all_c (SlN.one hv14) all_n))))) (Nat.le_of_ble_eq_true rfl) rfl
      (fun h25 hS26 => ?_)
  simp only [run_mv, run_ops_nil, x17_13, run_seq, run_reg, run_un, put1_some, xnot, B0, reduceIte, reduceEqDiff]
  refine ops_j 4 (fun fr' h' => Sep h' (geL h.length) ([Blk1 b1 [.int .i64 0, .int .i64 0, .nil, .int .i64 0, .nil] 29] ++ ([Blk1 b21 [.int .i64 v5.1.Epoch, .int .i64 v5.1.Leader,
      v8, .int .i64 v5.1.High, v12] 29] ++ (c9 ++ (c13 ++ ([]))))) ∧ fr' 25 = .bool ((!v5.2) || (decide ((100 : Int) <
      (List.length l_1 : Int)))) ∧ fr' 1 = lst IsrStep.cells l_1 ∧ fr' 4 = .ptr b1 0 ∧ fr' 7 = .ptr b21 0) (fun Q27 hN28 => ?_) ?_
  · simp only [List.take_succ_cons, List.take_zero]
    simp only [run_guard (g := 21), B0, reduceIte, reduceEqDiff]
    refine guard_split (t := (!v5.2)) (fun hg29 => ?_) (fun hg29 => ?_)
    · simp only [hg29, run_guard (g := 21), guard_off', run_pick, put1_some, xpick_t, run_ops_nil, run_nil, B0, reduceIte, reduceEqDiff]
      exact hN28 _ _ ⟨(Sep.m3 (Sep.m2 (Sep.m2 (Sep.m2 hS26)))), by rw [orT hg29]; simp only [B0, reduceIte, reduceEqDiff], zf1, rfl, rfl⟩
    · simp only [hg29, run_guard (g := 21), guard_false, zf1, run_mv, run_len, put1_some, xlen_lst, run_bin, xgtr, run_pick, xpick_f, run_ops_nil, run_nil, B0, reduceIte,
        reduceEqDiff]
      exact hN28 _ _ ⟨(Sep.m3 (Sep.m2 (Sep.m2 (Sep.m2 hS26)))), by rw [orF hg29]; simp only [B0, reduceIte, reduceEqDiff], zf1, rfl, rfl⟩
  rintro fr30 h35 ⟨hS36, f31, f32, f33, f34⟩
  simp only [List.drop_succ_cons, List.drop_zero]
  simp only [run_ops_nil, x17_2, f31, run_cond, B0, reduceIte, reduceEqDiff]
  refine cond_split (t := ((!v5.2) || (decide ((100 : Int) < (List.length l_1 : Int))))) (fun hc37 => ?_) (fun hc37 => ?_)
  · rw [iteT hc37] at hF7
    simp only [x17_1, run_seq, run_reg, run_build, evp, B0, reduceIte, reduceEqDiff]
    refine put1_eq (v := .agg [.int .i64 0, .int .i64 0, .nil, .int .i64 0, .nil]) rfl ?_
    simp only [f33, run_st, B0, reduceIte, reduceEqDiff]
    refine put2_stCx (us := [.int .i64 0, .int .i64 0, .nil, .int .i64 0, .nil]) rfl (cs' := [.int .i64 0, .int .i64 0, .nil, .int .i64 0,
        .nil]) hS36 hW rfl rfl (Nat.le_of_ble_eq_true rfl) rfl (fun h38 hS39 => ?_)
    simp only [run_mv, run_ops_nil, run_ret, B0, reduceIte, reduceEqDiff]
    have he := some_inj hF7
    subst he
    refine end_ret_m (mapM1 (res_cell (bb := b1) (oo := 0) (v := .agg [.int .i64 0, .int .i64 0, .nil, .int .i64 0,
        .nil]) (f33) ((xld_bs (Sep.bk _ _ _ hS39)).trans rfl)) (mapM1 (res_t (v := .nil) (rfl)) (mapM1 (res_t (v := .bool false) (rfl)) mapM0))) ?_
    exact ⟨.nil, [], .nil, [], .nil, [], by first | trivial | rfl, SlF.nil, SlN.nil, SlF.nil, ((Sep.dc ((Sep.dc ((Sep.dc ((Sep.dc (hS39)))))))) : Sep _ (geL h.length) ([]))⟩
  rw [iteF hc37] at hF7
  simp only [run_skip, x17_12, run_seq, run_reg, run_mv, run_ops_nil, x17_11, f32, run_len, put1_some, xlen_lst, B0, reduceIte, reduceEqDiff]
  obtain ⟨oc70, hX72, hk73⟩ := jn_some hF7
  simp only [x17_9]
  refine rangeL_j (σ := (List Bool) × Group) l_1 (fun i68 x69 s183 => spec_PlayGroup_b1 k i68 x69 s183.1 s183.2) (fun s fr' h' => ∃ v56 c57 v61 c62 v65 c66,
      fr' 4 = .ptr b1 0 ∧ fr' 7 = .ptr b21 0 ∧ fr' 9 = v56 ∧ fr' 27 = lst IsrStep.cells l_1 ∧ SlF cB 1 4 v56 s.1 c57 ∧ SlF cI 1 3 v61 s.2.InStep c62 ∧ SlN Replica.R 3 51 v65 s.2.Replicas c66 ∧ Sep h'
      (geL h.length) ([Blk1 b1 [.int .i64 0, .int .i64 0, .nil, .int .i64 0, .nil] 29] ++ ([Blk1 b21 [.int .i64 s.2.Epoch, .int .i64 s.2.Leader, v61, .int .i64 s.2.High,
      v65] 29] ++ (c57 ++ (c62 ++ (c66 ++ ([]))))))) hX72 ⟨.nil, [], v8, c9, v12, c13, f33, f34, rfl, rfl, SlF.nil, hv10, hv14,
      ((Sep.m3 (Sep.m3 (Sep.m3 (Sep.m3 hS36)))) : Sep _ (geL h.length) ([Blk1 b1 [.int .i64 0, .int .i64 0, .nil, .int .i64 0, .nil] 29] ++ ([Blk1 b21 [.int .i64 v5.1.Epoch,
      .int .i64 v5.1.Leader, v8, .int .i64 v5.1.High, v12] 29] ++ (c9 ++ (c13 ++ ([]))))))⟩ (by simp only [B0, reduceIte, reduceEqDiff]) (by simp only [B0, reduceIte,
      reduceEqDiff]) (fun _ _ _ h => h) rfl rfl (fun _ _ _ _ h => h) (fun _ _ _ _ h => h) (fun _ _ _ _ h => h) (by decide) ?_ ?_
  · rintro i68 x69 ⟨s54, s59⟩ fr82 h83 hx89 ⟨v56, c57, v61, c62, v65, c66, f85, f86, f87, f88, hv58, hv63, hv67, hS84⟩ f90 f91 oc71 hF74 hr75 Q76 hN77 hB81 hK78 hR79 hE80
    dsimp only at *
    unfold spec_PlayGroup_b1 at hF74
    simp only [x17_7, run_seq, run_reg, f88, f90, run_ia, B0, reduceIte, reduceEqDiff]
    refine put1_eq (v := .ref (IsrStep.cells x69) 0) (xia_lstN hx89 rfl) ?_
    simp only [run_ld, B0, reduceIte, reduceEqDiff]
    refine put1_eq (v := .agg [.int .i64 x69.Kind, .int .i64 x69.K, .int .i64 x69.N]) rfl ?_
    simp only [run_new, B0, reduceIte, reduceEqDiff]
    refine put2_newC hS84 (fun b92 h93 hS94 => ?_)
    simp only [run_st, B0, reduceIte, reduceEqDiff]
    refine put2_stCx (us := [.int .i64 x69.Kind, .int .i64 x69.K, .int .i64 x69.N]) rfl (cs' := [.int .i64 x69.Kind, .int .i64 x69.K,
        .int .i64 x69.N]) hS94 hW rfl rfl (Nat.le_of_ble_eq_true rfl) rfl (fun h96 hS97 => ?_)
    simp only [run_ops_nil, B0, reduceIte, reduceEqDiff]
    refine frz_stepC hS97 hW (by simp only [B0, reduceIte, reduceEqDiff]) (fun h98 hS99 => ?_)
    simp only [run_frz_nil, x17_6, run_seq, run_draw, d1_new, B0, reduceIte, reduceEqDiff]
    refine put2d_newC hS99 (fun b100 h101 hS102 => ?_)
    simp only [f86, d4_ld, B0, reduceIte, reduceEqDiff]
    refine put1d_eq (v := .agg [.int .i64 s59.Epoch, .int .i64 s59.Leader, v61, .int .i64 s59.High, v65]) ((xld_bs (Sep.bk _ _ _ (Sep.m2 hS102))).trans rfl) ?_
    obtain ⟨v104, hx105, hF106⟩ := bind_some' hF74
    simp only [run_d2_call, B0, reduceIte, reduceEqDiff]
    refine call2q rfl hS102 (mapM1 (snap_agg (mapM1 snap_int (mapM1 snap_int (mapM1 (SlF.snap hv63 (Sep.m4 hS102) rfl (fun _ => rfl) (fun _ => rfl)) (mapM1 snap_int (mapM1
        (SlN.snap hv67 _ (Sep.m5 hS102) rfl Replica.RO) mapM0)))))) mapM0) (spec_l11Own_x (fun b hb => decide_eq_true hb) s59 v104 hx105) ?_
    rintro _ h115 ⟨v107, c108, v111, c112, rfl, hv109, hv113, hS116⟩
    refine ⟨_, free_a (all_c rfl (all_c rfl (all_c (SlF.free1 hv109) (all_c rfl (all_c (SlN.free1 hv113) all_n))))), hS116,
        (pf_app (SlF.pf hv109 (fun _ => rfl)) (pf_app (SlN.pf hv113 Replica.RO) pf_nil)), fun h117 hS118 => ?_⟩
    have hS119 : Sep h117 (geL h.length) (c108 ++ (c112 ++ ([Blk1 b100 [.int .i64 0, .int .i64 0, .nil, .int .i64 0, .nil] 29] ++ ([Blk1 b1 [.int .i64 0, .int .i64 0, .nil,
        .int .i64 0, .nil] 29] ++ ([Blk1 b21 [.int .i64 s59.Epoch, .int .i64 s59.Leader, v61, .int .i64 s59.High,
        v65] 29] ++ (c57 ++ (c62 ++ (c66 ++ ([]))))))))) := by simpa only [List.append_assoc, List.nil_append] using hS118
    simp only [d1_ld, ldd_ref, B0, reduceIte, reduceEqDiff]
    refine put1d_eq (v := .agg [.int .i64 x69.Kind, .int .i64 x69.K, .int .i64 x69.N]) rfl ?_
    obtain ⟨v120, hx121, hF122⟩ := bind_some' hF106
    simp only [run_d3_call, B0, reduceIte, reduceEqDiff]
    refine call0d rfl (spec_l11Step_x hW k v104 v107 c108 hv109 v111 c112 hv113 x69 v120 hx121 (Sep.m1 (Sep.m1 hS119))) ?_
    rintro _ h129 ⟨v123, c124, c127, rfl, hv125, hv128, hS130⟩
    simp only [d4_mv, put1d_some, d4_ext, xext_0, d1_ext, xext_1, d3_st, B0, reduceIte, reduceEqDiff]
    refine put2d_stCx (us := [.int .i64 v120.1.Epoch, .int .i64 v120.1.Leader, v123, .int .i64 v120.1.High, v111]) rfl (cs' := [.int .i64 v120.1.Epoch, .int .i64 v120.1.Leader,
        v123, .int .i64 v120.1.High, v111]) (Sep.m2 hS130) hW rfl (all_c rfl (all_c rfl (all_c (SlF.one hv125) (all_c rfl (all_c (SlN.one hv128) all_n)))))
        (Nat.le_of_ble_eq_true rfl) rfl (fun h131 hS132 => ?_)
    simp only [d4_mv, put1d_some, run_draw_nil, B0, reduceIte, reduceEqDiff]
    refine frz_stepC hS132 hW (by simp only [B0, reduceIte, reduceEqDiff]) (fun h133 hS134 => ?_)
    simp only [run_frz_nil, x17_5, run_seq, run_reg, run_mv, run_ops_nil, x17_3, run_cond, B0, reduceIte, reduceEqDiff]
    obtain ⟨s135, hX145, hk146⟩ := bind_some' hF122
    refine cond_j (t := v120.2) (fun fr' h' => ∃ v137 c138 v141 c142,
        fr' 4 = .ptr b1 0 ∧ fr' 7 = .ptr b21 0 ∧ fr' 9 = v56 ∧ fr' 13 = .bool v120.2 ∧ fr' 27 = lst IsrStep.cells l_1 ∧ fr' 28 = .int .i64
        (List.length l_1 : Int) ∧ fr' 29 = .int .i64 (i68 : Int) ∧ SlF cI 1 3 v137 s135.InStep c138 ∧ SlN Replica.R 3 51 v141 s135.Replicas c142 ∧ Sep h' (geL h.length)
        ([Blk1 b1 [.int .i64 0, .int .i64 0, .nil, .int .i64 0, .nil] 29] ++ ([Blk1 b21 [.int .i64 s135.Epoch, .int .i64 s135.Leader, v137, .int .i64 s135.High,
        v141] 29] ++ (c57 ++ (c138 ++ (c142 ++ ([]))))))) (fun Q147 hN148 hR149 hE150 => ⟨fun hc151 => ?_, fun hc151 => ?_⟩) ?_
    · rw [iteT hc151] at hX145
      simp only [run_reg, run_ld, B0, reduceIte, reduceEqDiff]
      refine put1_eq (v := .agg [.int .i64 v120.1.Epoch, .int .i64 v120.1.Leader, v123, .int .i64 v120.1.High, v111]) rfl ?_
      simp only [f86, run_st, B0, reduceIte, reduceEqDiff]
      refine put2_stCx (us := [.int .i64 v120.1.Epoch, .int .i64 v120.1.Leader, v123, .int .i64 v120.1.High, v111]) rfl (cs' := [.int .i64 v120.1.Epoch, .int .i64 v120.1.Leader,
          v123, .int .i64 v120.1.High, v111]) (Sep.m3 hS134) hW rfl (all_c rfl (all_c rfl (all_c (SlF.one hv125) (all_c rfl (all_c (SlN.one hv128) all_n)))))
          (Nat.le_of_ble_eq_true rfl) rfl (fun h152 hS153 => ?_)
      simp only [run_ops_nil, run_nil, B0, reduceIte, reduceEqDiff]
      have e154 := some_inj hX145
      subst e154
      exact hN148 _ _ ⟨v123, c124, v111, c127, f85, f86, f87, rfl, f88, f91, f90, hv125, hv128,
          (Sep.m4 (Sep.m3 (Sep.m4 (Sep.m2 (Sep.m2 (Sep.dc (Sep.m5 (Sep.dc (Sep.m5 hS153)))))))))⟩
    · rw [iteF hc151] at hX145
      simp only [run_skip, run_nil, B0, reduceIte, reduceEqDiff]
      have e155 := some_inj hX145
      subst e155
      exact hN148 _ _ ⟨v61, c62, v65, c66, f85, f86, f87, rfl, f88, f91, f90, hv63, hv67, (Sep.m4 (Sep.m4 (Sep.m4 (Sep.m4 (Sep.m4 (Sep.dc ((Sep.dc (hS134)))))))))⟩
    rintro fr156 h157 ⟨v137, c138, v141, c142, f159, f160, f161, f162, f163, f164, f165, hv139, hv143, hS158⟩
    unfold spec_PlayGroup_j1 at hk146
    simp only [x17_4, run_reg, f161, run_mv, f162, run_buildS, evp, B0, reduceIte, reduceEqDiff]
    refine put2_buildSF (n := 1) (f := cB) [v120.2] hS158 rfl rfl (fun v166 c167 h168 hv169 hS170 => ?_)
    simp only [run_app, B0, reduceIte, reduceEqDiff]
    obtain ⟨l172, hx173, hF174⟩ := bind_some' hk146
    refine put2_appF (f := cB) hv58 (Sep.m3 hS170) hW (fun _ => rfl) (fun _ => rfl) (SlF.first hv169 hS170 (fun _ => rfl)) hx173 (fun v175 c176 h177 hv178 hS179 => ?_)
    simp only [run_mv, run_ops_nil, run_nil, B0, reduceIte, reduceEqDiff]
    have e181 := some_inj hF174
    exact hN77 _ _ _ e181.symm ⟨v175, c176, v137, c138, v141, c142, f159, f160, rfl, f163, hv178, hv139, hv143,
        (Sep.m4 (Sep.m4 (Sep.m2 (Sep.m4 (Sep.m4 (Sep.dc (Sep.m1 hS179)))))))⟩ (f165) (f164)
  rintro ⟨s184, s189⟩ fr198 h199 rfl ⟨v186, c187, v191, c192, v195, c196, f201, f202, f203, f204, hv188, hv193, hv197, hS200⟩
  dsimp only [jnO] at hk73
  dsimp only at *
  unfold spec_PlayGroup_j2 at hk73
  simp only [x17_10, run_seq, run_reg, f202, run_ld, B0, reduceIte, reduceEqDiff]
  refine put1_eq (v := .agg [.int .i64 s189.Epoch, .int .i64 s189.Leader, v191, .int .i64 s189.High, v195]) ((xld_bs (Sep.bk _ _ _ (Sep.m1 hS200))).trans rfl) ?_
  obtain ⟨v205, hx206, hF207⟩ := bind_some' hk73
  simp only [run_call, B0, reduceIte, reduceEqDiff]
  refine call2 rfl hS200 (mapM1 (snap_agg (mapM1 snap_int (mapM1 snap_int (mapM1 (SlF.snap hv193 (Sep.m3 hS200) rfl (fun _ => rfl) (fun _ => rfl)) (mapM1 snap_int (mapM1
      (SlN.snap hv197 _ (Sep.m4 hS200) rfl Replica.RO) mapM0)))))) mapM0) (spec_l11Own_x (fun b hb => decide_eq_true hb) s189 v205 hx206) ?_
  rintro _ h216 ⟨v208, c209, v212, c213, rfl, hv210, hv214, hS217⟩
  refine ⟨_, free_a (all_c rfl (all_c rfl (all_c (SlF.free1 hv210) (all_c rfl (all_c (SlN.free1 hv214) all_n))))), hS217,
      (pf_app (SlF.pf hv210 (fun _ => rfl)) (pf_app (SlN.pf hv214 Replica.RO) pf_nil)), fun h218 hS219 => ?_⟩
  have hS220 : Sep h218 (geL h.length) (c209 ++ (c213 ++ ([Blk1 b1 [.int .i64 0, .int .i64 0, .nil, .int .i64 0, .nil] 29] ++ ([Blk1 b21 [.int .i64 s189.Epoch,
      .int .i64 s189.Leader, v191, .int .i64 s189.High, v195] 29] ++ (c187 ++ (c192 ++ (c196 ++ ([])))))))) := by simpa only [List.append_assoc, List.nil_append] using hS219
  simp only [f203, run_mv, f201, run_st, B0, reduceIte, reduceEqDiff]
  refine put2_stCx (us := [.int .i64 v205.Epoch, .int .i64 v205.Leader, v208, .int .i64 v205.High, v212]) rfl (cs' := [.int .i64 v205.Epoch, .int .i64 v205.Leader, v208,
      .int .i64 v205.High, v212]) (Sep.m2 hS220) hW rfl (all_c rfl (all_c rfl (all_c (SlF.one hv210) (all_c rfl (all_c (SlN.one hv214) all_n))))) (Nat.le_of_ble_eq_true rfl) rfl
      (fun h221 hS222 => ?_)
  simp only [run_mv, run_ops_nil, run_ret, B0, reduceIte, reduceEqDiff]
  have he := some_inj hF207
  subst he
  refine end_ret_m (mapM1 (res_cell (bb := b1) (oo := 0) (v := .agg [.int .i64 v205.Epoch, .int .i64 v205.Leader, v208, .int .i64 v205.High,
      v212]) (f201) ((xld_bs (Sep.bk _ _ _ hS222)).trans rfl)) (mapM1 (res_t (v := v186) (rfl)) (mapM1 (res_t (v := .bool true) (rfl)) mapM0))) ?_
  exact ⟨v208, c209, v212, c213, v186, c187, by first | trivial | rfl, hv210, hv214, hv188,
      (Sep.m2 (Sep.m2 (Sep.m2 (Sep.dc (Sep.m3 (Sep.dc (Sep.m3 (Sep.dc (Sep.m2 (Sep.dc (hS222)))))))))))⟩
theorem laws_szIsrStepS_x {W : Nat → Bool} {h : Heap} (hW : ∀ b,
    (geL h.length) b → W b = true) (a_0 : List IsrStep) (left_1 : Int) (r : Int) (hF : laws_szIsrStepS a_0 left_1 = some r) : Ret E W 25 [lst IsrStep.cells a_0,
    .int .i64 left_1] h (fun v h' => cut h.length h' E.sz false 9 v = some (.int .i64 r)) := by
  refine Ret.of (fn := x25) rfl (Run.of ?_)
  unfold laws_szIsrStepS at hF
  have zf0 : argFr [lst IsrStep.cells a_0, .int .i64 left_1] 0 = lst IsrStep.cells a_0 := rfl
  have zf1 : argFr [lst IsrStep.cells a_0, .int .i64 left_1] 1 = .int .i64 left_1 := rfl
  generalize argFr [lst IsrStep.cells a_0, .int .i64 left_1] = fr0 at zf0 zf1 ⊢
  have hS : Sep h (geL h.length) [] := Sep.nil h
  simp only [x25, run_seq, run_reg, run_mv, run_ops_nil, x25_2, zf1, zf0, run_len, put1_some, xlen_lst, run_bin, xsub, x25_1, xlss, run_cond, B0, reduceIte, reduceEqDiff]
  refine cond_split (t := (decide ((IntKind.wrap .i64 (left_1 - (List.length a_0 : Int))) < 0))) (fun hc1 => ?_) (fun hc1 => ?_)
  · rw [iteT hc1] at hF
    simp only [run_seq, run_reg, run_mv, run_ops_nil, run_ret, B0, reduceIte, reduceEqDiff]
    have he := some_inj hF
    subst he
    simp only [end_ret1, B0, reduceIte, reduceEqDiff]
    exact rfl
  rw [iteF hc1] at hF
  simp only [run_skip, run_seq, run_reg, run_mv, run_ops_nil, run_ret, B0, reduceIte, reduceEqDiff]
  have he := some_inj hF
  subst he
  simp only [end_ret1, B0, reduceIte, reduceEqDiff]
  exact rfl
theorem laws_toIsrStep_x {W : Nat → Bool} {h : Heap} (hW : ∀ b,
    (geL h.length) b → W b = true) (a_0 : IsrStep) (r : IsrStep) (hF : some (laws_toIsrStep a_0) = some r) : Ret E W 43 [.agg [.int .i64 a_0.Kind, .int .i64 a_0.K,
    .int .i64 a_0.N]] h (fun v h' => cut h.length h' E.sz false 9 v = some (.agg [.int .i64 r.Kind, .int .i64 r.K, .int .i64 r.N])) := by
  refine Ret.of (fn := x43) rfl (Run.of ?_)
  unfold laws_toIsrStep at hF
  have zf0 : argFr [.agg [.int .i64 a_0.Kind, .int .i64 a_0.K, .int .i64 a_0.N]] 0 = .agg [.int .i64 a_0.Kind, .int .i64 a_0.K, .int .i64 a_0.N] := rfl
  generalize argFr [.agg [.int .i64 a_0.Kind, .int .i64 a_0.K, .int .i64 a_0.N]] = fr0 at zf0 ⊢
  have hS : Sep h (geL h.length) [] := Sep.nil h
  simp only [x43, run_seq, run_reg, run_box, zf0, B0, reduceIte, reduceEqDiff]
  refine put2_boxC (cs := [.int .i64 a_0.Kind, .int .i64 a_0.K, .int .i64 a_0.N]) hS rfl rfl rfl (fun b1 h2 hS3 => ?_)
  simp only [run_new, B0, reduceIte, reduceEqDiff]
  refine put2_newC hS3 (fun b5 h6 hS7 => ?_)
  simp only [run_ops_nil, B0, reduceIte, reduceEqDiff]
  refine frz_stepC (Sep.m1 hS7) hW (by simp only [B0, reduceIte, reduceEqDiff]) (fun h9 hS10 => ?_)
  simp only [run_frz_nil, x43_4, run_seq, run_reg, run_new, B0, reduceIte, reduceEqDiff]
  refine put2_newC hS10 (fun b11 h12 hS13 => ?_)
  simp only [run_ops_nil, x43_3, run_seq, run_reg, run_fa, put1_some, Nat.reduceAdd, Nat.zero_add, Nat.add_zero, xfa_ref, run_ld, B0, reduceIte, reduceEqDiff]
  refine put1_eq (v := .int .i64 a_0.Kind) rfl ?_
  simp only [run_fa, put1_some, Nat.reduceAdd, Nat.zero_add, Nat.add_zero, xfa_ptr, run_st, B0, reduceIte, reduceEqDiff]
  refine put2_stCx (us := [.int .i64 a_0.Kind]) rfl (cs' := [.int .i64 a_0.Kind, .int .i64 0, .int .i64 0]) hS13 hW rfl rfl (Nat.le_of_ble_eq_true rfl) rfl (fun h15 hS16 => ?_)
  simp only [run_ops_nil, x43_2, run_seq, run_reg, run_fa, put1_some, Nat.reduceAdd, Nat.zero_add, Nat.add_zero, xfa_ref, run_ld, B0, reduceIte, reduceEqDiff]
  refine put1_eq (v := .int .i64 a_0.K) rfl ?_
  simp only [run_fa, put1_some, Nat.reduceAdd, Nat.zero_add, Nat.add_zero, xfa_ptr, run_st, B0, reduceIte, reduceEqDiff]
  refine put2_stCx (us := [.int .i64 a_0.K]) rfl (cs' := [.int .i64 a_0.Kind, .int .i64 a_0.K, .int .i64 0]) hS16 hW rfl rfl (Nat.le_of_ble_eq_true rfl) rfl (fun h17 hS18 => ?_)
  simp only [run_ops_nil, x43_1, run_seq, run_reg, run_fa, put1_some, Nat.reduceAdd, Nat.zero_add, Nat.add_zero, xfa_ref, run_ld, B0, reduceIte, reduceEqDiff]
  refine put1_eq (v := .int .i64 a_0.N) rfl ?_
  simp only [run_fa, put1_some, Nat.reduceAdd, Nat.zero_add, Nat.add_zero, xfa_ptr, run_st, B0, reduceIte, reduceEqDiff]
  refine put2_stCx (us := [.int .i64 a_0.N]) rfl (cs' := [.int .i64 a_0.Kind, .int .i64 a_0.K,
      .int .i64 a_0.N]) hS18 hW rfl rfl (Nat.le_of_ble_eq_true rfl) rfl (fun h19 hS20 => ?_)
  simp only [run_ops_nil, run_seq, run_reg, run_ld, B0, reduceIte, reduceEqDiff]
  refine put1_eq (v := .agg [.int .i64 a_0.Kind, .int .i64 a_0.K, .int .i64 a_0.N]) ((xld_bs (Sep.bk _ _ _ hS20)).trans rfl) ?_
  simp only [run_st, B0, reduceIte, reduceEqDiff]
  refine put2_stCx (us := [.int .i64 a_0.Kind, .int .i64 a_0.K, .int .i64 a_0.N]) rfl (cs' := [.int .i64 a_0.Kind, .int .i64 a_0.K,
      .int .i64 a_0.N]) (Sep.m1 hS20) hW rfl rfl (Nat.le_of_ble_eq_true rfl) rfl (fun h21 hS22 => ?_)
  simp only [run_ops_nil, run_ret, B0, reduceIte, reduceEqDiff]
  have he := some_inj hF
  subst he
  refine end_ret_cell (bb := b5) (oo := 0) (v := .agg [.int .i64 a_0.Kind, .int .i64 a_0.K, .int .i64 a_0.N]) (by simp only [B0, reduceIte,
      reduceEqDiff]) ((xld_bs (Sep.bk _ _ _ hS22)).trans rfl) ?_
  exact (cut_agg (mapM1 rfl (mapM1 rfl (mapM1 rfl mapM0))))
theorem laws_toIsrStepS_x {W : Nat → Bool} {h : Heap} (hW : ∀ b,
    (geL h.length) b → W b = true) (k : Nat) (a_0 : List IsrStep) (r : List IsrStep) (hF : laws_toIsrStepS k a_0 = some r) : Ret E W 26 [lst IsrStep.cells a_0] h
    (fun v h' => ∃ rv0 rc0, v = rv0 ∧ SlF IsrStep.cells 3 63 rv0 r rc0 ∧ Sep h' (geL h.length) (rc0 ++ ([]))) := by
  refine Ret.of (fn := x26) rfl (Run.of ?_)
  unfold laws_toIsrStepS at hF
  have zf0 : argFr [lst IsrStep.cells a_0] 0 = lst IsrStep.cells a_0 := rfl
  generalize argFr [lst IsrStep.cells a_0] = fr0 at zf0 ⊢
  have hS : Sep h (geL h.length) [] := Sep.nil h
  obtain ⟨l1, hx2, hF3⟩ := bind_some' hF
  simp only [x26, run_seq, run_reg, run_mv, run_ops_nil, x26_7, zf0, run_len, put1_some, xlen_lst, run_mkS, B0, reduceIte, reduceEqDiff]
  refine put2_mkSF (f := IsrStep.cells) (z := (IsrStep.mk (0 : Int) (0 : Int) (0 : Int))) hS hx2 rfl (fun v4 c5 h6 hv7 hS8 => ?_)
  simp only [run_mv, run_ops_nil, x26_6, run_seq, run_reg, B0, reduceIte, reduceEqDiff]
  obtain ⟨oc20, hX22, hk23⟩ := jn_some hF3
  simp only [x26_5]
  refine loopF_j (σ := Int × (List IsrStep)) (fun s55 => laws_toIsrStepS_b1 a_0 s55.1 s55.2) (fun s fr' h' => ∃ c16,
      fr' 0 = lst IsrStep.cells a_0 ∧ fr' 3 = v4 ∧ fr' 4 = .int .i64 s.1 ∧ SlF IsrStep.cells 3 63 v4 s.2 c16 ∧ Sep h' (geL h.length) (c16 ++ ([]))) hX22 ⟨c5, zf0, rfl, rfl, hv7,
      hS8⟩ (fun _ _ _ h => h) ?_ ?_
  · rintro ⟨s14, s15⟩ fr32 h33 ⟨c16, f35, f36, f37, hv17, hS34⟩ oc21 hF24 hr25 Q26 hN27 hK28 hR29 hE30
    dsimp only at *
    unfold laws_toIsrStepS_b1 at hF24
    simp only [x26_3, run_seq, run_reg, f37, run_mv, f35, run_len, put1_some, xlen_lst, run_bin, xlss, run_ops_nil, run_cond, B0, reduceIte, reduceEqDiff]
    refine cond_split (t := (decide (s14 < (List.length a_0 : Int)))) (fun hc39 => ?_) (fun hc39 => ?_)
    · rw [iteT hc39] at hF24
      obtain ⟨x40, hx41, hF42⟩ := bind_some' hF24
      simp only [run_skip, x26_2, run_seq, run_block, x26_1, run_reg, f36, run_mv, f37, f35, run_ia, B0, reduceIte, reduceEqDiff]
      refine put1_eq (v := .ref (IsrStep.cells x40) 0) (xia_lst hx41 rfl) ?_
      simp only [run_ld, B0, reduceIte, reduceEqDiff]
      refine put1_eq (v := .agg [.int .i64 x40.Kind, .int .i64 x40.K, .int .i64 x40.N]) rfl ?_
      simp only [run_call, B0, reduceIte, reduceEqDiff]
      refine call1 rfl (mapM1 (snap_agg (mapM1 snap_int (mapM1 snap_int (mapM1 snap_int mapM0)))) mapM0) (laws_toIsrStep_x (fun b hb => decide_eq_true hb) x40 _ rfl) ?_
      obtain ⟨x43, hx44, hF45⟩ := bind_some' hF42
      simp only [run_ia, B0, reduceIte, reduceEqDiff]
      obtain ⟨b46, hb47⟩ := SlF.isrow hv17 (geti_ne hx44)
      refine put1_eq (SlF.ia hv17 hb47 hx44) ?_
      simp only [run_st, B0, reduceIte, reduceEqDiff]
      refine put2_stF (f := IsrStep.cells) (x' := (laws_toIsrStep x40)) (o := 0) hv17 hS34 hW hb47 hx44 (fun _ => rfl) rfl rfl (Nat.le_of_ble_eq_true rfl) rfl
          (fun c50 h48 hv51 hS49 => ?_)
      have hx52 := geti_set (x' := (laws_toIsrStep x40)) hx44
      simp only [run_ops_nil, run_blk, run_reg, f37, run_mv, run_bin, put1_some, xadd, run_nil, B0, reduceIte, reduceEqDiff]
      have e53 := some_inj hF45
      exact hN27 _ _ _ e53.symm ⟨c50, f35, f36, rfl, hv51, hS49⟩
    rw [iteF hc39] at hF24
    simp only [run_exit, out_code, out_nil, B0, reduceIte, reduceEqDiff]
    have e54 := some_inj hF24
    exact hK28 _ _ _ e54.symm ⟨c16, f35, f36, f37, hv17, hS34⟩
  rintro ⟨s56, s57⟩ fr60 h61 rfl ⟨c58, f63, f64, f65, hv59, hS62⟩
  dsimp only [jnO] at hk23
  dsimp only at *
  unfold laws_toIsrStepS_j1 at hk23
  simp only [run_seq, run_reg, f64, run_mv, run_ops_nil, run_ret, B0, reduceIte, reduceEqDiff]
  have he := some_inj hk23
  subst he
  simp only [end_ret1, B0, reduceIte, reduceEqDiff]
  exact ⟨v4, c58, by first | trivial | rfl, hv59, hS62⟩
theorem laws_eqBoolS_x {W : Nat → Bool} {h : Heap} (hW : ∀ b,
    (geL h.length) b → W b = true) (k : Nat) (a_0 : List Bool) (b_1 : List Bool) (r : Bool) (hF : laws_eqBoolS k a_0 b_1 = some r) : Ret E W 27 [lst cB a_0,
    lst cB b_1] h (fun v h' => cut h.length h' E.sz false 9 v = some (.bool r)) := by
  refine Ret.of (fn := x27) rfl (Run.of ?_)
  unfold laws_eqBoolS at hF
  have zf0 : argFr [lst cB a_0, lst cB b_1] 0 = lst cB a_0 := rfl
  have zf1 : argFr [lst cB a_0, lst cB b_1] 1 = lst cB b_1 := rfl
  generalize argFr [lst cB a_0, lst cB b_1] = fr0 at zf0 zf1 ⊢
  have hS : Sep h (geL h.length) [] := Sep.nil h
  simp only [x27, run_seq, run_reg, run_mv, run_ops_nil, x27_7, zf0, run_len, put1_some, xlen_lst, zf1, run_bin, xneq, run_cond, B0, reduceIte, reduceEqDiff]
  refine cond_split (t := (decide ((List.length a_0 : Int) ≠ (List.length b_1 : Int)))) (fun hc1 => ?_) (fun hc1 => ?_)
  · rw [iteT hc1] at hF
    simp only [run_seq, run_reg, run_mv, run_ops_nil, run_ret, B0, reduceIte, reduceEqDiff]
    have he := some_inj hF
    subst he
    simp only [end_ret1, B0, reduceIte, reduceEqDiff]
    exact rfl
  rw [iteF hc1] at hF
  simp only [run_skip, x27_6, run_seq, run_reg, run_mv, run_ops_nil, B0, reduceIte, reduceEqDiff]
  obtain ⟨oc6, hX8, hk9⟩ := jn_some hF
  simp only [x27_5]
  refine loopF_j (σ := Int) (fun s38 => laws_eqBoolS_b1 a_0 b_1 s38) (fun s fr' h' => fr' 0 = lst cB a_0 ∧ fr' 1 = lst cB b_1 ∧ fr' 5 = .int .i64 s ∧ Sep h' (geL h.length)
      ([])) hX8 ⟨zf0, zf1, rfl, hS⟩ (fun _ _ _ h => h) ?_ ?_
  · rintro s3 fr18 h19 ⟨f21, f22, f23, hS20⟩ oc7 hF10 hr11 Q12 hN13 hK14 hR15 hE16
    unfold laws_eqBoolS_b1 at hF10
    simp only [x27_3, run_seq, run_reg, f23, run_mv, f21, run_len, put1_some, xlen_lst, run_bin, xlss, run_ops_nil, run_cond, B0, reduceIte, reduceEqDiff]
    refine cond_split (t := (decide (s3 < (List.length a_0 : Int)))) (fun hc25 => ?_) (fun hc25 => ?_)
    · rw [iteT hc25] at hF10
      obtain ⟨x26, hx27, hF28⟩ := bind_some' hF10
      simp only [run_skip, x27_2, run_seq, run_block, x27_1, run_draw, f21, d4_mv, put1d_some, f23, d4_ia, B0, reduceIte, reduceEqDiff]
      refine put1d_eq (v := .ref (cB x26) 0) (xia_lst hx27 rfl) ?_
      simp only [d4_ld, B0, reduceIte, reduceEqDiff]
      refine put1d_eq (v := .bool x26) rfl ?_
      obtain ⟨x29, hx30, hF31⟩ := bind_some' hF28
      simp only [f22, d4_mv, put1d_some, f23, d4_ia, B0, reduceIte, reduceEqDiff]
      refine put1d_eq (v := .ref (cB x29) 0) (xia_lst hx30 rfl) ?_
      simp only [d4_ld, B0, reduceIte, reduceEqDiff]
      refine put1d_eq (v := .bool x29) rfl ?_
      simp only [d4_eqb, put1d_some, xeqb_t, run_draw_nil, run_cond, B0, reduceIte, reduceEqDiff]
      refine cond_split (t := (!(x26 == x29))) (fun hc32 => ?_) (fun hc32 => ?_)
      · rw [iteT hc32] at hF31
        simp only [run_seq, run_reg, run_mv, run_ops_nil, run_ret, B0, reduceIte, reduceEqDiff]
        have e33 := some_inj hF31
        subst e33
        have ho34 := hr11 _ rfl
        have hk35 := hk9
        rw [ho34] at hk35
        dsimp only [jnO] at hk35
        apply hR15
        have he := some_inj hk35
        subst he
        simp only [end_ret1, B0, reduceIte, reduceEqDiff]
        exact rfl
      rw [iteF hc32] at hF31
      simp only [run_skip, run_blk, run_reg, f23, run_mv, run_bin, put1_some, xadd, run_ops_nil, run_nil, B0, reduceIte, reduceEqDiff]
      have e36 := some_inj hF31
      exact hN13 _ _ _ e36.symm ⟨f21, f22, rfl, hS20⟩
    rw [iteF hc25] at hF10
    simp only [run_exit, out_code, out_nil, B0, reduceIte, reduceEqDiff]
    have e37 := some_inj hF10
    exact hK14 _ _ _ e37.symm ⟨f21, f22, f23, hS20⟩
  rintro s39 fr40 h41 rfl ⟨f43, f44, f45, hS42⟩
  dsimp only [jnO] at hk9
  unfold laws_eqBoolS_j1 at hk9
  simp only [run_seq, run_reg, run_mv, run_ops_nil, run_ret, B0, reduceIte, reduceEqDiff]
  have he := some_inj hk9
  subst he
  simp only [end_ret1, B0, reduceIte, reduceEqDiff]
  exact rfl
theorem laws_eqIsrStep_x {W : Nat → Bool} {h : Heap} (hW : ∀ b,
    (geL h.length) b → W b = true) (a_0 : IsrStep) (b_1 : IsrStep) (r : Bool) (hF : laws_eqIsrStep a_0 b_1 = some r) : Ret E W 70 [.agg [.int .i64 a_0.Kind, .int .i64 a_0.K,
    .int .i64 a_0.N], .agg [.int .i64 b_1.Kind, .int .i64 b_1.K, .int .i64 b_1.N]] h (fun v h' => cut h.length h' E.sz false 9 v = some (.bool r)) := by
  refine Ret.of (fn := x70) rfl (Run.of ?_)
  unfold laws_eqIsrStep at hF
  have zf0 : argFr [.agg [.int .i64 a_0.Kind, .int .i64 a_0.K, .int .i64 a_0.N], .agg [.int .i64 b_1.Kind, .int .i64 b_1.K, .int .i64 b_1.N]] 0 = .agg [.int .i64 a_0.Kind,
      .int .i64 a_0.K, .int .i64 a_0.N] := rfl
  have zf1 : argFr [.agg [.int .i64 a_0.Kind, .int .i64 a_0.K, .int .i64 a_0.N], .agg [.int .i64 b_1.Kind, .int .i64 b_1.K, .int .i64 b_1.N]] 1 = .agg [.int .i64 b_1.Kind,
      .int .i64 b_1.K, .int .i64 b_1.N] := rfl
  generalize argFr [.agg [.int .i64 a_0.Kind, .int .i64 a_0.K, .int .i64 a_0.N], .agg [.int .i64 b_1.Kind, .int .i64 b_1.K, .int .i64 b_1.N]] = fr0 at zf0 zf1 ⊢
  have hS : Sep h (geL h.length) [] := Sep.nil h
  simp only [x70, run_seq, run_reg, run_box, zf0, B0, reduceIte, reduceEqDiff]
  refine put2_boxC (cs := [.int .i64 a_0.Kind, .int .i64 a_0.K, .int .i64 a_0.N]) hS rfl rfl rfl (fun b1 h2 hS3 => ?_)
  simp only [run_box, zf1, B0, reduceIte, reduceEqDiff]
  refine put2_boxC (cs := [.int .i64 b_1.Kind, .int .i64 b_1.K, .int .i64 b_1.N]) hS3 rfl rfl rfl (fun b5 h6 hS7 => ?_)
  simp only [run_mv, run_ops_nil, B0, reduceIte, reduceEqDiff]
  refine frz_stepC (Sep.m1 hS7) hW (by simp only [B0, reduceIte, reduceEqDiff]) (fun h9 hS10 => ?_)
  refine frz_stepC hS10 hW (by simp only [B0, reduceIte, reduceEqDiff]) (fun h11 hS12 => ?_)
  simp only [run_frz_nil, x70_3, run_seq, run_reg, run_fa, put1_some, Nat.reduceAdd, Nat.zero_add, Nat.add_zero, xfa_ref, run_ld, B0, reduceIte, reduceEqDiff]
  refine put1_eq (v := .int .i64 a_0.Kind) rfl ?_
  simp only [run_fa, put1_some, Nat.reduceAdd, Nat.zero_add, Nat.add_zero, xfa_ref, run_ld, B0, reduceIte, reduceEqDiff]
  refine put1_eq (v := .int .i64 b_1.Kind) rfl ?_
  simp only [run_bin, put1_some, xneq, run_ops_nil, run_cond, B0, reduceIte, reduceEqDiff]
  refine cond_split (t := (decide (a_0.Kind ≠ b_1.Kind))) (fun hc13 => ?_) (fun hc13 => ?_)
  · rw [iteT hc13] at hF
    simp only [run_seq, run_reg, run_mv, run_ops_nil, run_ret, B0, reduceIte, reduceEqDiff]
    have he := some_inj hF
    subst he
    simp only [end_ret1, B0, reduceIte, reduceEqDiff]
    exact rfl
  rw [iteF hc13] at hF
  simp only [run_skip, x70_2, run_seq, run_reg, run_fa, put1_some, Nat.reduceAdd, Nat.zero_add, Nat.add_zero, xfa_ref, run_ld, B0, reduceIte, reduceEqDiff]
  refine put1_eq (v := .int .i64 a_0.K) rfl ?_
  simp only [run_fa, put1_some, Nat.reduceAdd, Nat.zero_add, Nat.add_zero, xfa_ref, run_ld, B0, reduceIte, reduceEqDiff]
  refine put1_eq (v := .int .i64 b_1.K) rfl ?_
  simp only [run_bin, put1_some, xneq, run_ops_nil, run_cond, B0, reduceIte, reduceEqDiff]
  refine cond_split (t := (decide (a_0.K ≠ b_1.K))) (fun hc14 => ?_) (fun hc14 => ?_)
  · rw [iteT hc14] at hF
    simp only [run_seq, run_reg, run_mv, run_ops_nil, run_ret, B0, reduceIte, reduceEqDiff]
    have he := some_inj hF
    subst he
    simp only [end_ret1, B0, reduceIte, reduceEqDiff]
    exact rfl
  rw [iteF hc14] at hF
  simp only [run_skip, x70_1, run_seq, run_reg, run_fa, put1_some, Nat.reduceAdd, Nat.zero_add, Nat.add_zero, xfa_ref, run_ld, B0, reduceIte, reduceEqDiff]
  refine put1_eq (v := .int .i64 a_0.N) rfl ?_
  simp only [run_fa, put1_some, Nat.reduceAdd, Nat.zero_add, Nat.add_zero, xfa_ref, run_ld, B0, reduceIte, reduceEqDiff]
  refine put1_eq (v := .int .i64 b_1.N) rfl ?_
  simp only [run_bin, put1_some, xneq, run_ops_nil, run_cond, B0, reduceIte, reduceEqDiff]
  refine cond_split (t := (decide (a_0.N ≠ b_1.N))) (fun hc15 => ?_) (fun hc15 => ?_)
  · rw [iteT hc15] at hF
    simp only [run_seq, run_reg, run_mv, run_ops_nil, run_ret, B0, reduceIte, reduceEqDiff]
    have he := some_inj hF
    subst he
    simp only [end_ret1, B0, reduceIte, reduceEqDiff]
    exact rfl
  rw [iteF hc15] at hF
  simp only [run_skip, run_seq, run_reg, run_mv, run_ops_nil, run_ret, B0, reduceIte, reduceEqDiff]
  have he := some_inj hF
  subst he
  simp only [end_ret1, B0, reduceIte, reduceEqDiff]
  exact rfl
theorem laws_eqIsrStepS_x {W : Nat → Bool} {h : Heap} (hW : ∀ b,
    (geL h.length) b → W b = true) (k : Nat) (a_0 : List IsrStep) (b_1 : List IsrStep) (r : Bool) (hF : laws_eqIsrStepS k a_0 b_1 = some r) : Ret E W 28 [lst IsrStep.cells a_0,
    lst IsrStep.cells b_1] h (fun v h' => cut h.length h' E.sz false 9 v = some (.bool r)) := by
  refine Ret.of (fn := x28) rfl (Run.of ?_)
  unfold laws_eqIsrStepS at hF
  have zf0 : argFr [lst IsrStep.cells a_0, lst IsrStep.cells b_1] 0 = lst IsrStep.cells a_0 := rfl
  have zf1 : argFr [lst IsrStep.cells a_0, lst IsrStep.cells b_1] 1 = lst IsrStep.cells b_1 := rfl
  generalize argFr [lst IsrStep.cells a_0, lst IsrStep.cells b_1] = fr0 at zf0 zf1 ⊢
  have hS : Sep h (geL h.length) [] := Sep.nil h
  simp only [x28, run_seq, run_reg, run_mv, run_ops_nil, x28_7, zf0, run_len, put1_some, xlen_lst, zf1, run_bin, xneq, run_cond, B0, reduceIte, reduceEqDiff]
  refine cond_split (t := (decide ((List.length a_0 : Int) ≠ (List.length b_1 : Int)))) (fun hc1 => ?_) (fun hc1 => ?_)
  · rw [iteT hc1] at hF
    simp only [run_seq, run_reg, run_mv, run_ops_nil, run_ret, B0, reduceIte, reduceEqDiff]
    have he := some_inj hF
    subst he
    simp only [end_ret1, B0, reduceIte, reduceEqDiff]
    exact rfl
  rw [iteF hc1] at hF
  simp only [run_skip, x28_6, run_seq, run_reg, run_mv, run_ops_nil, B0, reduceIte, reduceEqDiff]
  obtain ⟨oc6, hX8, hk9⟩ := jn_some hF
  simp only [x28_5]
  refine loopF_j (σ := Int) (fun s41 => laws_eqIsrStepS_b1 a_0 b_1 s41)
      (fun s fr' h' => fr' 0 = lst IsrStep.cells a_0 ∧ fr' 1 = lst IsrStep.cells b_1 ∧ fr' 5 = .int .i64 s ∧ Sep h' (geL h.length) ([])) hX8 ⟨zf0, zf1, rfl,
      hS⟩ (fun _ _ _ h => h) ?_ ?_
  · rintro s3 fr18 h19 ⟨f21, f22, f23, hS20⟩ oc7 hF10 hr11 Q12 hN13 hK14 hR15 hE16
    unfold laws_eqIsrStepS_b1 at hF10
    simp only [x28_3, run_seq, run_reg, f23, run_mv, f21, run_len, put1_some, xlen_lst, run_bin, xlss, run_ops_nil, run_cond, B0, reduceIte, reduceEqDiff]
    refine cond_split (t := (decide (s3 < (List.length a_0 : Int)))) (fun hc25 => ?_) (fun hc25 => ?_)
    · rw [iteT hc25] at hF10
      obtain ⟨x26, hx27, hF28⟩ := bind_some' hF10
      simp only [run_skip, x28_2, run_seq, run_block, x28_1, run_draw, f21, d4_mv, put1d_some, f23, d4_ia, B0, reduceIte, reduceEqDiff]
      refine put1d_eq (v := .ref (IsrStep.cells x26) 0) (xia_lst hx27 rfl) ?_
      simp only [d4_ld, B0, reduceIte, reduceEqDiff]
      refine put1d_eq (v := .agg [.int .i64 x26.Kind, .int .i64 x26.K, .int .i64 x26.N]) rfl ?_
      obtain ⟨x29, hx30, hF31⟩ := bind_some' hF28
      simp only [f22, d4_mv, put1d_some, f23, d4_ia, B0, reduceIte, reduceEqDiff]
      refine put1d_eq (v := .ref (IsrStep.cells x29) 0) (xia_lst hx30 rfl) ?_
      simp only [d4_ld, B0, reduceIte, reduceEqDiff]
      refine put1d_eq (v := .agg [.int .i64 x29.Kind, .int .i64 x29.K, .int .i64 x29.N]) rfl ?_
      obtain ⟨v32, hx33, hF34⟩ := bind_some' hF31
      simp only [run_d3_call, B0, reduceIte, reduceEqDiff]
      refine call1d rfl (mapM1 (snap_agg (mapM1 snap_int (mapM1 snap_int (mapM1 snap_int mapM0)))) (mapM1 (snap_agg (mapM1 snap_int (mapM1 snap_int
          (mapM1 snap_int mapM0)))) mapM0)) (laws_eqIsrStep_x (fun b hb => decide_eq_true hb) x26 x29 v32 hx33) ?_
      simp only [d4_un, put1d_some, xnot, run_draw_nil, run_cond, B0, reduceIte, reduceEqDiff]
      refine cond_split (t := (!v32)) (fun hc35 => ?_) (fun hc35 => ?_)
      · rw [iteT hc35] at hF34
        simp only [run_seq, run_reg, run_mv, run_ops_nil, run_ret, B0, reduceIte, reduceEqDiff]
        have e36 := some_inj hF34
        subst e36
        have ho37 := hr11 _ rfl
        have hk38 := hk9
        rw [ho37] at hk38
        dsimp only [jnO] at hk38
        apply hR15
        have he := some_inj hk38
        subst he
        simp only [end_ret1, B0, reduceIte, reduceEqDiff]
        exact rfl
      rw [iteF hc35] at hF34
      simp only [run_skip, run_blk, run_reg, f23, run_mv, run_bin, put1_some, xadd, run_ops_nil, run_nil, B0, reduceIte, reduceEqDiff]
      have e39 := some_inj hF34
      exact hN13 _ _ _ e39.symm ⟨f21, f22, rfl, hS20⟩
    rw [iteF hc25] at hF10
    simp only [run_exit, out_code, out_nil, B0, reduceIte, reduceEqDiff]
    have e40 := some_inj hF10
    exact hK14 _ _ _ e40.symm ⟨f21, f22, f23, hS20⟩
  rintro s42 fr43 h44 rfl ⟨f46, f47, f48, hS45⟩
  dsimp only [jnO] at hk9
  unfold laws_eqIsrStepS_j1 at hk9
  simp only [run_seq, run_reg, run_mv, run_ops_nil, run_ret, B0, reduceIte, reduceEqDiff]
  have he := some_inj hk9
  subst he
  simp only [end_ret1, B0, reduceIte, reduceEqDiff]
  exact rfl
theorem laws_markIsrStepS_x {W : Nat → Bool} {h : Heap} {lo : Nat → Prop} {S0 : List Obj} (hW : ∀ b,
    lo b → W b = true) (k : Nat) (pv0 : XV) (pc0 : List Obj) (a_0 : List IsrStep) (ph0 : SlF IsrStep.cells 3 63 pv0 a_0 pc0) (k_1 : Int) (r : Int × (List IsrStep))
    (hF : laws_markIsrStepS k a_0 k_1 = some r) (hS : Sep h lo (pc0 ++ (S0))) : Ret E W 29 [pv0, .int .i64 k_1] h (fun v h' => ∃ ic0,
    v = .int .i64 r.1 ∧ SlF IsrStep.cells 3 63 pv0 r.2 ic0 ∧ Sep h' lo (ic0 ++ (S0))) := by
  refine Ret.of (fn := x29) rfl (Run.of ?_)
  unfold laws_markIsrStepS at hF
  have zf0 : argFr [pv0, .int .i64 k_1] 0 = pv0 := rfl
  have zf1 : argFr [pv0, .int .i64 k_1] 1 = .int .i64 k_1 := rfl
  generalize argFr [pv0, .int .i64 k_1] = fr0 at zf0 zf1 ⊢
  simp only [x29, run_seq, run_reg, run_mv, run_ops_nil, x29_10, B0, reduceIte, reduceEqDiff]
  obtain ⟨oc13, hX15, hk16⟩ := jn_some hF
  simp only [x29_9]
  refine loopF_j (σ := Int × Int × (List IsrStep)) (fun s55 => laws_markIsrStepS_b1 s55.1 s55.2.1 s55.2.2) (fun s fr' h' => ∃ c9,
      fr' 0 = pv0 ∧ fr' 1 = .int .i64 s.1 ∧ fr' 5 = .int .i64 s.2.1 ∧ SlF IsrStep.cells 3 63 pv0 s.2.2 c9 ∧ Sep h' lo (c9 ++ (S0))) hX15 ⟨pc0, zf0, zf1, rfl, ph0,
      hS⟩ (fun _ _ _ h => h) ?_ ?_
  · rintro ⟨s6, s7, s8⟩ fr25 h26 ⟨c9, f28, f29, f30, hv10, hS27⟩ oc14 hF17 hr18 Q19 hN20 hK21 hR22 hE23
    dsimp only at *
    unfold laws_markIsrStepS_b1 at hF17
    simp only [x29_7, run_seq, run_reg, f30, run_mv, f28, run_len, put1_some, SlF.plen hv10, run_bin, xlss, run_ops_nil, run_cond, B0, reduceIte, reduceEqDiff]
    refine cond_split (t := (decide (s7 < (List.length s8 : Int)))) (fun hc32 => ?_) (fun hc32 => ?_)
    · rw [iteT hc32] at hF17
      obtain ⟨x33, hx34, hF35⟩ := bind_some' hF17
      simp only [run_skip, x29_6, run_seq, run_block, x29_5, run_reg, f28, run_mv, f30, f29, run_ia, B0, reduceIte, reduceEqDiff]
      obtain ⟨b36, hb37⟩ := SlF.isrow hv10 (geti_ne hx34)
      refine put1_eq (SlF.ia hv10 hb37 hx34) ?_
      simp only [run_fa, put1_some, Nat.reduceAdd, Nat.zero_add, Nat.add_zero, xfa_ptr, run_st, B0, reduceIte, reduceEqDiff]
      refine put2_stF (f := IsrStep.cells) (x' := (IsrStep.mk s6 x33.K x33.N)) (o := 0) hv10 hS27 hW hb37 hx34 (fun _ => rfl) rfl rfl (Nat.le_of_ble_eq_true rfl) rfl
          (fun c40 h38 hv41 hS39 => ?_)
      have hx42 := geti_set (x' := (IsrStep.mk s6 x33.K x33.N)) hx34
      simp only [run_ops_nil, x29_4, run_seq, run_reg, f29, run_mv, run_bin, put1_some, xadd, x29_3, f28, f30, run_ia, B0, reduceIte, reduceEqDiff]
      refine put1_eq (SlF.ia hv41 hb37 hx42) ?_
      simp only [run_fa, put1_some, Nat.reduceAdd, Nat.zero_add, Nat.add_zero, xfa_ptr, run_st, B0, reduceIte, reduceEqDiff]
      refine put2_stF (f := IsrStep.cells) (x' := (IsrStep.mk s6 (IntKind.wrap .i64 (s6 + 1)) x33.N)) (o := 1) hv41 hS39 hW hb37 hx42 (fun _ => rfl) rfl rfl
          (Nat.le_of_ble_eq_true rfl) rfl (fun c45 h43 hv46 hS44 => ?_)
      rw [List.set_set] at hv46
      have hx47 := geti_set (x' := (IsrStep.mk s6 (IntKind.wrap .i64 (s6 + 1)) x33.N)) hx34
      simp only [run_ops_nil, x29_2, run_seq, run_reg, run_mv, run_bin, put1_some, xadd, x29_1, f28, f30, run_ia, B0, reduceIte, reduceEqDiff]
      refine put1_eq (SlF.ia hv46 hb37 hx47) ?_
      simp only [run_fa, put1_some, Nat.reduceAdd, Nat.zero_add, Nat.add_zero, xfa_ptr, run_st, B0, reduceIte, reduceEqDiff]
      refine put2_stF (f := IsrStep.cells) (x' := (IsrStep.mk s6 (IntKind.wrap .i64 (s6 + 1)) (IntKind.wrap .i64 ((IntKind.wrap .i64 (s6 + 1)) + 1))))
          (o := 2) hv46 hS44 hW hb37 hx47 (fun _ => rfl) rfl rfl (Nat.le_of_ble_eq_true rfl) rfl (fun c50 h48 hv51 hS49 => ?_)
      rw [List.set_set] at hv51
      have hx52 := geti_set (x' := (IsrStep.mk s6 (IntKind.wrap .i64 (s6 + 1)) (IntKind.wrap .i64 ((IntKind.wrap .i64 (s6 + 1)) + 1)))) hx34
      simp only [run_ops_nil, run_reg, run_mv, run_bin, put1_some, xadd, run_blk, f30, run_nil, B0, reduceIte, reduceEqDiff]
      have e53 := some_inj hF35
      exact hN20 _ _ _ e53.symm ⟨c50, f28, rfl, rfl, hv51, hS49⟩
    rw [iteF hc32] at hF17
    simp only [run_exit, out_code, out_nil, B0, reduceIte, reduceEqDiff]
    have e54 := some_inj hF17
    exact hK21 _ _ _ e54.symm ⟨c9, f28, f29, f30, hv10, hS27⟩
  rintro ⟨s56, s57, s58⟩ fr61 h62 rfl ⟨c59, f64, f65, f66, hv60, hS63⟩
  dsimp only [jnO] at hk16
  dsimp only at *
  unfold laws_markIsrStepS_j1 at hk16
  simp only [run_seq, run_reg, f65, run_mv, run_ops_nil, run_ret, B0, reduceIte, reduceEqDiff]
  have he := some_inj hk16
  subst he
  simp only [end_ret1, B0, reduceIte, reduceEqDiff]
  exact ⟨c59, by first | trivial | rfl, hv60, hS63⟩
theorem laws_markBoolS_x {W : Nat → Bool} {h : Heap} {lo : Nat → Prop} {S0 : List Obj} (hW : ∀ b,
    lo b → W b = true) (k : Nat) (pv0 : XV) (pc0 : List Obj) (a_0 : List Bool) (ph0 : SlF cB 1 4 pv0 a_0 pc0) (k_1 : Int) (r : Int × (List Bool))
    (hF : laws_markBoolS k a_0 k_1 = some r) (hS : Sep h lo (pc0 ++ (S0))) : Ret E W 30 [pv0, .int .i64 k_1] h (fun v h' => ∃ ic0,
    v = .int .i64 r.1 ∧ SlF cB 1 4 pv0 r.2 ic0 ∧ Sep h' lo (ic0 ++ (S0))) := by
  refine Ret.of (fn := x30) rfl (Run.of ?_)
  unfold laws_markBoolS at hF
  have zf0 : argFr [pv0, .int .i64 k_1] 0 = pv0 := rfl
  have zf1 : argFr [pv0, .int .i64 k_1] 1 = .int .i64 k_1 := rfl
  generalize argFr [pv0, .int .i64 k_1] = fr0 at zf0 zf1 ⊢
  simp only [x30, run_seq, run_reg, run_mv, run_ops_nil, x30_6, B0, reduceIte, reduceEqDiff]
  obtain ⟨oc13, hX15, hk16⟩ := jn_some hF
  simp only [x30_5]
  refine loopF_j (σ := Int × Int × (List Bool)) (fun s45 => laws_markBoolS_b1 s45.1 s45.2.1 s45.2.2) (fun s fr' h' => ∃ c9,
      fr' 0 = pv0 ∧ fr' 1 = .int .i64 s.1 ∧ fr' 5 = .int .i64 s.2.1 ∧ SlF cB 1 4 pv0 s.2.2 c9 ∧ Sep h' lo (c9 ++ (S0))) hX15 ⟨pc0, zf0, zf1, rfl, ph0, hS⟩ (fun _ _ _ h => h) ?_ ?_
  · rintro ⟨s6, s7, s8⟩ fr25 h26 ⟨c9, f28, f29, f30, hv10, hS27⟩ oc14 hF17 hr18 Q19 hN20 hK21 hR22 hE23
    dsimp only at *
    unfold laws_markBoolS_b1 at hF17
    simp only [x30_3, run_seq, run_reg, f30, run_mv, f28, run_len, put1_some, SlF.plen hv10, run_bin, xlss, run_ops_nil, run_cond, B0, reduceIte, reduceEqDiff]
    refine cond_split (t := (decide (s7 < (List.length s8 : Int)))) (fun hc32 => ?_) (fun hc32 => ?_)
    · rw [iteT hc32] at hF17
      obtain ⟨x33, hx34, hF35⟩ := bind_some' hF17
      simp only [run_skip, x30_2, run_seq, run_block, x30_1, run_reg, f28, run_mv, f30, f29, run_bin, put1_some, xrem_nz (n := 3) (by decide), xeql, run_ia, B0, reduceIte,
          reduceEqDiff]
      obtain ⟨b36, hb37⟩ := SlF.isrow hv10 (geti_ne hx34)
      refine put1_eq (SlF.ia hv10 hb37 hx34) ?_
      simp only [run_st, B0, reduceIte, reduceEqDiff]
      refine put2_stF (f := cB) (x' := (decide ((Int.tmod s6 3) = 0))) (o := 0) hv10 hS27 hW hb37 hx34 (fun _ => rfl) rfl rfl (Nat.le_of_ble_eq_true rfl) rfl
          (fun c40 h38 hv41 hS39 => ?_)
      have hx42 := geti_set (x' := (decide ((Int.tmod s6 3) = 0))) hx34
      simp only [run_ops_nil, run_reg, f29, run_mv, run_bin, put1_some, xadd, run_blk, f30, run_nil, B0, reduceIte, reduceEqDiff]
      have e43 := some_inj hF35
      exact hN20 _ _ _ e43.symm ⟨c40, f28, rfl, rfl, hv41, hS39⟩
    rw [iteF hc32] at hF17
    simp only [run_exit, out_code, out_nil, B0, reduceIte, reduceEqDiff]
    have e44 := some_inj hF17
    exact hK21 _ _ _ e44.symm ⟨c9, f28, f29, f30, hv10, hS27⟩
  rintro ⟨s46, s47, s48⟩ fr51 h52 rfl ⟨c49, f54, f55, f56, hv50, hS53⟩
  dsimp only [jnO] at hk16
  dsimp only at *
  unfold laws_markBoolS_j1 at hk16
  simp only [run_seq, run_reg, f55, run_mv, run_ops_nil, run_ret, B0, reduceIte, reduceEqDiff]
  have he := some_inj hk16
  subst he
  simp only [end_ret1, B0, reduceIte, reduceEqDiff]
  exact ⟨c49, by first | trivial | rfl, hv50, hS53⟩
theorem laws_heldBoolS_x {W : Nat → Bool} {h : Heap} (hW : ∀ b,
    (geL h.length) b → W b = true) (k : Nat) (a_0 : List Bool) (k_1 : Int) (r : Int) (hF : laws_heldBoolS k a_0 k_1 = some r) : Ret E W 31 [lst cB a_0,
    .int .i64 k_1] h (fun v h' => cut h.length h' E.sz false 9 v = some (.int .i64 r)) := by
  refine Ret.of (fn := x31) rfl (Run.of ?_)
  unfold laws_heldBoolS at hF
  have zf0 : argFr [lst cB a_0, .int .i64 k_1] 0 = lst cB a_0 := rfl
  have zf1 : argFr [lst cB a_0, .int .i64 k_1] 1 = .int .i64 k_1 := rfl
  generalize argFr [lst cB a_0, .int .i64 k_1] = fr0 at zf0 zf1 ⊢
  have hS : Sep h (geL h.length) [] := Sep.nil h
  simp only [x31, run_seq, run_reg, run_mv, run_ops_nil, x31_6, B0, reduceIte, reduceEqDiff]
  obtain ⟨oc7, hX9, hk10⟩ := jn_some hF
  simp only [x31_5]
  refine loopF_j (σ := Int × Int) (fun s36 => laws_heldBoolS_b1 a_0 s36.1 s36.2) (fun s fr' h' => fr' 0 = lst cB a_0 ∧ fr' 1 = .int .i64 s.1 ∧ fr' 5 = .int .i64 s.2 ∧ Sep h'
      (geL h.length) ([])) hX9 ⟨zf0, zf1, rfl, hS⟩ (fun _ _ _ h => h) ?_ ?_
  · rintro ⟨s3, s4⟩ fr19 h20 ⟨f22, f23, f24, hS21⟩ oc8 hF11 hr12 Q13 hN14 hK15 hR16 hE17
    dsimp only at *
    unfold laws_heldBoolS_b1 at hF11
    simp only [x31_3, run_seq, run_reg, f24, run_mv, f22, run_len, put1_some, xlen_lst, run_bin, xlss, run_ops_nil, run_cond, B0, reduceIte, reduceEqDiff]
    refine cond_split (t := (decide (s4 < (List.length a_0 : Int)))) (fun hc26 => ?_) (fun hc26 => ?_)
    · rw [iteT hc26] at hF11
      obtain ⟨x27, hx28, hF29⟩ := bind_some' hF11
      simp only [run_skip, x31_2, run_seq, run_block, x31_1, run_reg, f22, run_mv, f24, run_ia, B0, reduceIte, reduceEqDiff]
      refine put1_eq (v := .ref (cB x27) 0) (xia_lst hx28 rfl) ?_
      simp only [run_ld, B0, reduceIte, reduceEqDiff]
      refine put1_eq (v := .bool x27) rfl ?_
      simp only [f23, run_mv, run_bin, put1_some, xrem_nz (n := 3) (by decide), xeql, run_eqb, xeqb_t, run_ops_nil, run_cond, B0, reduceIte, reduceEqDiff]
      refine cond_split (t := (!(x27 == (decide ((Int.tmod s3 3) = 0))))) (fun hc30 => ?_) (fun hc30 => ?_)
      · rw [iteT hc30] at hF29
        simp only [run_seq, run_reg, run_mv, run_ops_nil, run_ret, B0, reduceIte, reduceEqDiff]
        have e31 := some_inj hF29
        subst e31
        have ho32 := hr12 _ rfl
        have hk33 := hk10
        rw [ho32] at hk33
        dsimp only [jnO] at hk33
        apply hR16
        have he := some_inj hk33
        subst he
        simp only [end_ret1, B0, reduceIte, reduceEqDiff]
        exact rfl
      rw [iteF hc30] at hF29
      simp only [run_skip, run_reg, f23, run_mv, run_bin, put1_some, xadd, run_ops_nil, run_blk, f24, run_nil, B0, reduceIte, reduceEqDiff]
      have e34 := some_inj hF29
      exact hN14 _ _ _ e34.symm ⟨f22, rfl, rfl, hS21⟩
    rw [iteF hc26] at hF11
    simp only [run_exit, out_code, out_nil, B0, reduceIte, reduceEqDiff]
    have e35 := some_inj hF11
    exact hK15 _ _ _ e35.symm ⟨f22, f23, f24, hS21⟩
  rintro ⟨s37, s38⟩ fr39 h40 rfl ⟨f42, f43, f44, hS41⟩
  dsimp only [jnO] at hk10
  dsimp only at *
  unfold laws_heldBoolS_j1 at hk10
  simp only [run_seq, run_reg, f43, run_mv, run_ops_nil, run_ret, B0, reduceIte, reduceEqDiff]
  have he := some_inj hk10
  subst he
  simp only [end_ret1, B0, reduceIte, reduceEqDiff]
  exact rfl
end Go.Proofs.Ytefgfcalgjmhjaa.X
namespace Go.Proofs.Ytefgfcalgjmhjaa.X
open Go
open Nat (reduceEqDiff)
theorem laws_FnExactPlayGroup_x {W : Nat → Bool} {h : Heap} (hW : ∀ b,
    (geL h.length) b → W b = true) (k : Nat) (v_0 : Int) (v_1 : List IsrStep) (r : Bool) (hF : laws_FnExactPlayGroup k v_0 v_1 = some r) : Ret E W 5 [.int .i64 v_0,
    lst IsrStep.cells v_1] h (fun v h' => cut h.length h' E.sz false 9 v = some (.bool r)) := by
  refine Ret.of (fn := x5) rfl (Run.of ?_)
  unfold laws_FnExactPlayGroup at hF
  have zf0 : argFr [.int .i64 v_0, lst IsrStep.cells v_1] 0 = .int .i64 v_0 := rfl
  have zf1 : argFr [.int .i64 v_0, lst IsrStep.cells v_1] 1 = lst IsrStep.cells v_1 := rfl
  generalize argFr [.int .i64 v_0, lst IsrStep.cells v_1] = fr0 at zf0 zf1 ⊢
  have hS : Sep h (geL h.length) [] := Sep.nil h
  obtain ⟨v1, hx2, hF3⟩ := bind_some' hF
  simp only [x5, run_seq, run_reg, run_mv, run_ops_nil, x5_28, x5_27, zf1, run_call, B0, reduceIte, reduceEqDiff]
  refine call1 rfl (mapM1 snap_lst (mapM1 snap_int mapM0)) (laws_szIsrStepS_x (fun b hb => decide_eq_true hb) v_1 1048576 v1 hx2) ?_
  simp only [run_mv, run_ops_nil, x5_26, run_seq, run_reg, run_bin, put1_some, xlss, run_cond, B0, reduceIte, reduceEqDiff]
  refine cond_split (t := (decide (v1 < 0))) (fun hc4 => ?_) (fun hc4 => ?_)
  · rw [iteT hc4] at hF3
    simp only [run_seq, run_reg, run_mv, run_ops_nil, run_ret, B0, reduceIte, reduceEqDiff]
    have he := some_inj hF3
    subst he
    simp only [end_ret1, B0, reduceIte, reduceEqDiff]
    exact rfl
  rw [iteF hc4] at hF3
  obtain ⟨v5, hx6, hF7⟩ := bind_some' hF3
  simp only [run_skip, x5_25, run_seq, run_reg, zf0, run_mv, zf1, run_call, B0, reduceIte, reduceEqDiff]
  refine call2 rfl hS (mapM1 snap_lst mapM0) (laws_toIsrStepS_x (fun b hb => decide_eq_true hb) k v_1 v5 hx6) ?_
  rintro v8 h12 ⟨_, c9, rfl, hv10, hS13⟩
  refine ⟨_, free_1 (SlF.free1 hv10), hS13, (pf_app (SlF.pf hv10 (fun _ => rfl)) pf_nil), fun h14 hS15 => ?_⟩
  have hS16 : Sep h14 (geL h.length) (c9 ++ ([])) := by simpa only [List.append_assoc, List.nil_append] using hS15
  obtain ⟨v17, hx18, hF19⟩ := bind_some' hF7
  simp only [run_call, B0, reduceIte, reduceEqDiff]
  refine call2 rfl hS16 (mapM1 snap_int (mapM1 (SlF.snap hv10 hS16 rfl (fun _ => rfl) (fun _ => rfl)) mapM0)) (spec_PlayGroup_x
      (fun b hb => decide_eq_true hb) k v_0 v5 v17 hx18) ?_
  rintro _ h32 ⟨v20, c21, v24, c25, v28, c29, rfl, hv22, hv26, hv30, hS33⟩
  refine ⟨_, free_t (all_c (free2_a (all_c rfl (all_c rfl (all_c (SlF.free1 hv22) (all_c rfl (all_c (SlN.free1 hv26) all_n)))))) (all_c (free2_1 (SlF.free1 hv30))
      (all_c rfl all_n))), hS33, (pf_app (SlF.pf hv22 (fun _ => rfl)) (pf_app (SlN.pf hv26 Replica.RO) (pf_app (SlF.pf hv30 (fun _ => rfl)) pf_nil))), fun h34 hS35 => ?_⟩
  have hS36 : Sep h34 (geL h.length) (c21 ++ (c25 ++ (c29 ++ (c9 ++ ([]))))) := by simpa only [List.append_assoc, List.nil_append] using hS35
  simp only [run_mv, run_ext, put1_some, xext_0, xext_1, xext_2, run_new, B0, reduceIte, reduceEqDiff]
  refine put2_newC hS36 (fun b37 h38 hS39 => ?_)
  simp only [run_st, B0, reduceIte, reduceEqDiff]
  refine put2_stCx (us := [.int .i64 v17.1.Epoch, .int .i64 v17.1.Leader, v20, .int .i64 v17.1.High, v24]) rfl (cs' := [.int .i64 v17.1.Epoch, .int .i64 v17.1.Leader, v20,
      .int .i64 v17.1.High, v24]) hS39 hW rfl (all_c rfl (all_c rfl (all_c (SlF.one hv22) (all_c rfl (all_c (SlN.one hv26) all_n))))) (Nat.le_of_ble_eq_true rfl) rfl
      (fun h41 hS42 => ?_)
  simp only [run_mv, run_ops_nil, B0, reduceIte, reduceEqDiff]
  refine frz_stepC hS42 hW (by simp only [B0, reduceIte, reduceEqDiff]) (fun h43 hS44 => ?_)
  obtain ⟨v45, hx46, hF47⟩ := bind_some' hF19
  simp only [run_frz_nil, x5_24, run_seq, run_reg, zf1, run_mv, run_call, B0, reduceIte, reduceEqDiff]
  refine call2 rfl hS44 (mapM1 snap_lst mapM0) (laws_toIsrStepS_x (fun b hb => decide_eq_true hb) k v_1 v45 hx46) ?_
  rintro v48 h52 ⟨_, c49, rfl, hv50, hS53⟩
  refine ⟨_, free_1 (SlF.free1 hv50), hS53, (pf_app (SlF.pf hv50 (fun _ => rfl)) pf_nil), fun h54 hS55 => ?_⟩
  have hS56 : Sep h54 (geL h.length) (c49 ++ (c21 ++ (c25 ++ (c29 ++ (c9 ++ ([])))))) := by simpa only [List.append_assoc, List.nil_append] using hS55
  obtain ⟨v57, hx58, hF59⟩ := bind_some' hF47
  simp only [run_mv, run_ops_nil, x5_23, run_seq, run_reg, zf0, run_call, B0, reduceIte, reduceEqDiff]
  refine call2 rfl hS56 (mapM1 snap_int (mapM1 (SlF.snap hv50 hS56 rfl (fun _ => rfl) (fun _ => rfl)) mapM0)) (impl_PlayGroup_x
      (fun b hb => decide_eq_true hb) k v_0 v45 v57 hx58) ?_
  rintro _ h72 ⟨v60, c61, v64, c65, v68, c69, rfl, hv62, hv66, hv70, hS73⟩
  refine ⟨_, free_t (all_c (free2_a (all_c rfl (all_c rfl (all_c (SlF.free1 hv62) (all_c rfl (all_c (SlN.free1 hv66) all_n)))))) (all_c (free2_1 (SlF.free1 hv70))
      (all_c rfl all_n))), hS73, (pf_app (SlF.pf hv62 (fun _ => rfl)) (pf_app (SlN.pf hv66 Replica.RO) (pf_app (SlF.pf hv70 (fun _ => rfl)) pf_nil))), fun h74 hS75 => ?_⟩
  have hS76 : Sep h74 (geL h.length) (c61 ++ (c65 ++ (c69 ++ (c49 ++ (c21 ++ (c25 ++ (c29 ++ (c9 ++ ([]))))))))) := by simpa only [List.append_assoc, List.nil_append] using hS75
  simp only [run_mv, run_ext, put1_some, xext_0, xext_1, xext_2, run_new, B0, reduceIte, reduceEqDiff]
  refine put2_newC hS76 (fun b77 h78 hS79 => ?_)
  simp only [run_st, B0, reduceIte, reduceEqDiff]
  refine put2_stCx (us := [.int .i64 v57.1.Epoch, .int .i64 v57.1.Leader, v60, .int .i64 v57.1.High, v64]) rfl (cs' := [.int .i64 v57.1.Epoch, .int .i64 v57.1.Leader, v60,
      .int .i64 v57.1.High, v64]) hS79 hW rfl (all_c rfl (all_c rfl (all_c (SlF.one hv62) (all_c rfl (all_c (SlN.one hv66) all_n))))) (Nat.le_of_ble_eq_true rfl) rfl
      (fun h81 hS82 => ?_)
  simp only [run_mv, run_ops_nil, B0, reduceIte, reduceEqDiff]
  refine frz_stepC hS82 hW (by simp only [B0, reduceIte, reduceEqDiff]) (fun h83 hS84 => ?_)
  simp only [run_frz_nil, x5_22, run_seq, run_reg, run_ld, B0, reduceIte, reduceEqDiff]
  refine put1_eq (v := .agg [.int .i64 v57.1.Epoch, .int .i64 v57.1.Leader, v60, .int .i64 v57.1.High, v64]) rfl ?_
  simp only [run_ld, B0, reduceIte, reduceEqDiff]
  refine put1_eq (v := .agg [.int .i64 v17.1.Epoch, .int .i64 v17.1.Leader, v20, .int .i64 v17.1.High, v24]) rfl ?_
  obtain ⟨v85, hx86, hF87⟩ := bind_some' hF59
  simp only [run_call, B0, reduceIte, reduceEqDiff]
  refine call1 rfl (mapM1 (snap_agg (mapM1 snap_int (mapM1 snap_int (mapM1 (SlF.snap hv62 hS84 rfl (fun _ => rfl) (fun _ => rfl)) (mapM1 snap_int (mapM1 (SlN.snap hv66 _
      (Sep.m1 hS84) rfl Replica.RO) mapM0)))))) (mapM1 (snap_agg (mapM1 snap_int (mapM1 snap_int (mapM1 (SlF.snap hv22 (Sep.m4 hS84) rfl (fun _ => rfl) (fun _ => rfl))
      (mapM1 snap_int (mapM1 (SlN.snap hv26 _ (Sep.m5 hS84) rfl Replica.RO) mapM0)))))) mapM0)) (laws_eqGroup_x (fun b hb => decide_eq_true hb) k v57.1 v17.1 v85 hx86) ?_
  simp only [run_un, put1_some, xnot, run_mv, B0, reduceIte, reduceEqDiff]
  obtain ⟨v91, hx92, hF93⟩ := bind_some' hF87
  refine ops_j 5 (fun fr' h' => Sep h' (geL h.length) (c21 ++ (c25 ++ (c29 ++ (c49 ++ (c61 ++ (c65 ++ (c69 ++
      ([])))))))) ∧ fr' 50 = .bool v91 ∧ fr' 0 = .int .i64 v_0 ∧ fr' 1 = lst IsrStep.cells v_1 ∧ fr' 6 = .ref [.int .i64 v17.1.Epoch, .int .i64 v17.1.Leader, v20,
      .int .i64 v17.1.High, v24] 0 ∧ fr' 7 = v28 ∧ fr' 8 = .bool v17.2.2 ∧ fr' 9 = v48 ∧ fr' 10 = .ref [.int .i64 v57.1.Epoch, .int .i64 v57.1.Leader, v60, .int .i64 v57.1.High,
      v64] 0 ∧ fr' 11 = v68 ∧ fr' 12 = .bool v57.2.2) (fun Q88 hN89 => ?_) ?_
  · simp only [List.take_succ_cons, List.take_zero]
    simp only [run_guard (g := 45), B0, reduceIte, reduceEqDiff]
    refine guard_split (t := (!v85)) (fun hg90 => ?_) (fun hg90 => ?_)
    · rw [iteT hg90] at hx92
      simp only [hg90, run_guard (g := 45), guard_off', run_pick, put1_some, xpick_t, run_ops_nil, run_nil, B0, reduceIte, reduceEqDiff]
      have e94 := some_inj hx92
      exact hN89 _ _ ⟨(Sep.m6 (Sep.m6 (Sep.m6 (Sep.m3 (Sep.m2 (Sep.m2 (Sep.m2 (Sep.dc (Sep.m7 hS84))))))))), by rw [← e94]; simp only [B0, reduceIte, reduceEqDiff], zf0, zf1, rfl,
          rfl, rfl, rfl, rfl, rfl, rfl⟩
    · rw [iteF hg90] at hx92
      obtain ⟨v95, hx96, hF97⟩ := bind_some' hx92
      simp only [hg90, run_guard (g := 45), guard_false, run_mv, run_call, B0, reduceIte, reduceEqDiff]
      refine call1 rfl (mapM1 (SlF.snap hv70 (Sep.m2 hS84) rfl (fun _ => rfl) (fun _ => rfl)) (mapM1 (SlF.snap hv30 (Sep.m6 hS84) rfl (fun _ => rfl) (fun _ => rfl)) mapM0))
          (laws_eqBoolS_x (fun b hb => decide_eq_true hb) k v57.2.1 v17.2.1 v95 hx96) ?_
      simp only [hg90, run_guard (g := 45), guard_false, run_un, put1_some, xnot, run_pick, xpick_f, run_ops_nil, run_nil, B0, reduceIte, reduceEqDiff]
      have e98 := some_inj hF97
      exact hN89 _ _ ⟨(Sep.m6 (Sep.m6 (Sep.m6 (Sep.m3 (Sep.m2 (Sep.m2 (Sep.m2 (Sep.dc (Sep.m7 hS84))))))))), by rw [← e98]; simp only [B0, reduceIte, reduceEqDiff], zf0, zf1, rfl,
          rfl, rfl, rfl, rfl, rfl, rfl⟩
  rintro fr99 h110 ⟨hS111, f100, f101, f102, f103, f104, f105, f106, f107, f108, f109⟩
  simp only [List.drop_succ_cons, List.drop_zero]
  simp only [f100, run_mv, B0, reduceIte, reduceEqDiff]
  refine ops_j 4 (fun fr' h' => Sep h' (geL h.length) (c21 ++ (c25 ++ (c29 ++ (c49 ++ (c61 ++ (c65 ++ (c69 ++ ([])))))))) ∧ fr' 55 = .bool (v91 ||
      (!(v57.2.2 == v17.2.2))) ∧ fr' 0 = .int .i64 v_0 ∧ fr' 1 = lst IsrStep.cells v_1 ∧ fr' 6 = .ref [.int .i64 v17.1.Epoch, .int .i64 v17.1.Leader, v20, .int .i64 v17.1.High,
      v24] 0 ∧ fr' 7 = v28 ∧ fr' 8 = .bool v17.2.2 ∧ fr' 9 = v48 ∧ fr' 10 = .ref [.int .i64 v57.1.Epoch, .int .i64 v57.1.Leader, v60, .int .i64 v57.1.High,
      v64] 0 ∧ fr' 11 = v68 ∧ fr' 12 = .bool v57.2.2) (fun Q112 hN113 => ?_) ?_
  · simp only [List.take_succ_cons, List.take_zero]
    simp only [run_guard (g := 51), B0, reduceIte, reduceEqDiff]
    refine guard_split (t := v91) (fun hg114 => ?_) (fun hg114 => ?_)
    · simp only [hg114, run_guard (g := 51), guard_off', run_pick, put1_some, xpick_t, run_ops_nil, run_nil, B0, reduceIte, reduceEqDiff]
      exact hN113 _ _ ⟨(Sep.m6 (Sep.m6 (Sep.m6 (Sep.m6 (Sep.m6 (Sep.m6 (Sep.m6 hS111))))))), by rw [orT hg114]; simp only [B0, reduceIte, reduceEqDiff], f101, f102, f103, f104,
          f105, f106, f107, f108, f109⟩
    · simp only [hg114, run_guard (g := 51), guard_false, f109, run_mv, f105, run_eqb, put1_some, xeqb_t, run_pick, xpick_f, run_ops_nil, run_nil, B0, reduceIte, reduceEqDiff]
      exact hN113 _ _ ⟨(Sep.m6 (Sep.m6 (Sep.m6 (Sep.m6 (Sep.m6 (Sep.m6 (Sep.m6 hS111))))))), by rw [orF hg114]; simp only [B0, reduceIte, reduceEqDiff], f101, f102, f103, f104,
          f105, f106, f107, f108, f109⟩
  rintro fr115 h126 ⟨hS127, f116, f117, f118, f119, f120, f121, f122, f123, f124, f125⟩
  simp only [List.drop_succ_cons, List.drop_zero]
  simp only [run_ops_nil, f116, run_cond, B0, reduceIte, reduceEqDiff]
  refine cond_split (t := (v91 || (!(v57.2.2 == v17.2.2)))) (fun hc128 => ?_) (fun hc128 => ?_)
  · rw [iteT hc128] at hF93
    simp only [run_seq, run_reg, run_mv, run_ops_nil, run_ret, B0, reduceIte, reduceEqDiff]
    have he := some_inj hF93
    subst he
    simp only [end_ret1, B0, reduceIte, reduceEqDiff]
    exact rfl
  rw [iteF hc128] at hF93
  obtain ⟨v129, hx130, hF131⟩ := bind_some' hF93
  simp only [run_skip, x5_21, run_seq, run_reg, f122, run_mv, f118, run_call, B0, reduceIte, reduceEqDiff]
  refine call2 rfl hS127 (mapM1 snap_lst mapM0) (laws_toIsrStepS_x (fun b hb => decide_eq_true hb) k v_1 v129 hx130) ?_
  rintro v132 h136 ⟨_, c133, rfl, hv134, hS137⟩
  refine ⟨_, free_1 (SlF.free1 hv134), hS137, (pf_app (SlF.pf hv134 (fun _ => rfl)) pf_nil), fun h138 hS139 => ?_⟩
  have hS140 : Sep h138 (geL h.length) (c133 ++ (c21 ++ (c25 ++ (c29 ++ (c49 ++ (c61 ++ (c65 ++ (c69 ++ ([]))))))))) := by simpa only [List.append_assoc,
      List.nil_append] using hS139
  obtain ⟨v141, hx142, hF143⟩ := bind_some' hF131
  simp only [run_call, B0, reduceIte, reduceEqDiff]
  refine call1 rfl (mapM1 (SlF.snap hv50 (Sep.m4 hS140) rfl (fun _ => rfl) (fun _ => rfl)) (mapM1 (SlF.snap hv134 hS140 rfl (fun _ => rfl) (fun _ => rfl)) mapM0))
      (laws_eqIsrStepS_x (fun b hb => decide_eq_true hb) k v45 v129 v141 hx142) ?_
  simp only [run_un, put1_some, xnot, run_ops_nil, run_cond, B0, reduceIte, reduceEqDiff]
  refine cond_split (t := (!v141)) (fun hc144 => ?_) (fun hc144 => ?_)
  · rw [iteT hc144] at hF143
    simp only [run_seq, run_reg, run_mv, run_ops_nil, run_ret, B0, reduceIte, reduceEqDiff]
    have he := some_inj hF143
    subst he
    simp only [end_ret1, B0, reduceIte, reduceEqDiff]
    exact rfl
  rw [iteF hc144] at hF143
  obtain ⟨v145, hx146, hF147⟩ := bind_some' hF143
  simp only [run_skip, x5_20, run_seq, run_reg, run_mv, run_ops_nil, x5_19, f122, run_call, B0, reduceIte, reduceEqDiff]
  refine call0 rfl (laws_markIsrStepS_x hW k v48 c49 v45 hv50 1 v145 hx146 (Sep.m4 hS140)) ?_
  rintro _ h150 ⟨c148, rfl, hv149, hS151⟩
  simp only [run_mv, run_ops_nil, x5_18, run_seq, run_reg, run_bin, put1_some, xlss, B0, reduceIte, reduceEqDiff]
  obtain ⟨v155, hx156, hF157⟩ := bind_some' hF147
  refine ops_j 5 (fun fr' h' => Sep h' (geL h.length) (c21 ++ (c25 ++ (c29 ++ (c61 ++ (c65 ++ (c69 ++
      ([]))))))) ∧ fr' 71 = .bool v155 ∧ fr' 0 = .int .i64 v_0 ∧ fr' 1 = lst IsrStep.cells v_1 ∧ fr' 6 = .ref [.int .i64 v17.1.Epoch, .int .i64 v17.1.Leader, v20,
      .int .i64 v17.1.High, v24] 0 ∧ fr' 7 = v28 ∧ fr' 8 = .bool v17.2.2 ∧ fr' 10 = .ref [.int .i64 v57.1.Epoch, .int .i64 v57.1.Leader, v60, .int .i64 v57.1.High,
      v64] 0 ∧ fr' 11 = v68 ∧ fr' 12 = .bool v57.2.2) (fun Q152 hN153 => ?_) ?_
  · simp only [List.take_succ_cons, List.take_zero]
    simp only [run_guard (g := 66), B0, reduceIte, reduceEqDiff]
    refine guard_split (t := (decide (v145.1 < 0))) (fun hg154 => ?_) (fun hg154 => ?_)
    · rw [iteT hg154] at hx156
      simp only [hg154, run_guard (g := 66), guard_off', run_pick, put1_some, xpick_t, run_ops_nil, run_nil, B0, reduceIte, reduceEqDiff]
      have e158 := some_inj hx156
      exact hN153 _ _ ⟨(Sep.m5 (Sep.m5 (Sep.m5 (Sep.m5 (Sep.m5 (Sep.m5 (Sep.dc ((Sep.dc (hS151)))))))))), by rw [← e158]; simp only [B0, reduceIte, reduceEqDiff], f117, f118,
          f119, f120, f121, f123, f124, f125⟩
    · rw [iteF hg154] at hx156
      simp only [hg154, run_guard (g := 66), guard_false, f123, run_ld, B0, reduceIte, reduceEqDiff]
      refine put1_eq (v := .agg [.int .i64 v57.1.Epoch, .int .i64 v57.1.Leader, v60, .int .i64 v57.1.High, v64]) rfl ?_
      simp only [hg154, run_guard (g := 66), guard_false, f119, run_ld, B0, reduceIte, reduceEqDiff]
      refine put1_eq (v := .agg [.int .i64 v17.1.Epoch, .int .i64 v17.1.Leader, v20, .int .i64 v17.1.High, v24]) rfl ?_
      obtain ⟨v159, hx160, hF161⟩ := bind_some' hx156
      simp only [hg154, run_guard (g := 66), guard_false, run_call, B0, reduceIte, reduceEqDiff]
      refine call1 rfl (mapM1 (snap_agg (mapM1 snap_int (mapM1 snap_int (mapM1 (SlF.snap hv62 (Sep.m5 hS151) rfl (fun _ => rfl) (fun _ => rfl)) (mapM1 snap_int (mapM1
          (SlN.snap hv66 _ (Sep.m6 hS151) rfl Replica.RO) mapM0)))))) (mapM1 (snap_agg (mapM1 snap_int (mapM1 snap_int (mapM1 (SlF.snap hv22 (Sep.m2 hS151) rfl (fun _ => rfl)
          (fun _ => rfl)) (mapM1 snap_int (mapM1 (SlN.snap hv26 _ (Sep.m3 hS151) rfl Replica.RO) mapM0)))))) mapM0)) (laws_eqGroup_x
          (fun b hb => decide_eq_true hb) k v57.1 v17.1 v159 hx160) ?_
      simp only [hg154, run_guard (g := 66), guard_false, run_un, put1_some, xnot, run_pick, xpick_f, run_ops_nil, run_nil, B0, reduceIte, reduceEqDiff]
      have e162 := some_inj hF161
      exact hN153 _ _ ⟨(Sep.m5 (Sep.m5 (Sep.m5 (Sep.m5 (Sep.m5 (Sep.m5 (Sep.dc ((Sep.dc (hS151)))))))))), by rw [← e162]; simp only [B0, reduceIte, reduceEqDiff], f117, f118,
          f119, f120, f121, f123, f124, f125⟩
  rintro fr163 h173 ⟨hS174, f164, f165, f166, f167, f168, f169, f170, f171, f172⟩
  simp only [List.drop_succ_cons, List.drop_zero]
  simp only [f164, run_mv, B0, reduceIte, reduceEqDiff]
  obtain ⟨v178, hx179, hF180⟩ := bind_some' hF157
  refine ops_j 5 (fun fr' h' => Sep h' (geL h.length) (c21 ++ (c25 ++ (c29 ++ (c61 ++ (c65 ++ (c69 ++
      ([]))))))) ∧ fr' 77 = .bool v178 ∧ fr' 0 = .int .i64 v_0 ∧ fr' 1 = lst IsrStep.cells v_1 ∧ fr' 6 = .ref [.int .i64 v17.1.Epoch, .int .i64 v17.1.Leader, v20,
      .int .i64 v17.1.High, v24] 0 ∧ fr' 7 = v28 ∧ fr' 8 = .bool v17.2.2 ∧ fr' 10 = .ref [.int .i64 v57.1.Epoch, .int .i64 v57.1.Leader, v60, .int .i64 v57.1.High,
      v64] 0 ∧ fr' 11 = v68 ∧ fr' 12 = .bool v57.2.2) (fun Q175 hN176 => ?_) ?_
  · simp only [List.take_succ_cons, List.take_zero]
    simp only [run_guard (g := 72), B0, reduceIte, reduceEqDiff]
    refine guard_split (t := v155) (fun hg177 => ?_) (fun hg177 => ?_)
    · rw [iteT hg177] at hx179
      simp only [hg177, run_guard (g := 72), guard_off', run_pick, put1_some, xpick_t, run_ops_nil, run_nil, B0, reduceIte, reduceEqDiff]
      have e181 := some_inj hx179
      exact hN176 _ _ ⟨(Sep.m5 (Sep.m5 (Sep.m5 (Sep.m5 (Sep.m5 (Sep.m5 hS174)))))), by rw [← e181]; simp only [B0, reduceIte, reduceEqDiff], f165, f166, f167, f168, f169, f170,
          f171, f172⟩
    · rw [iteF hg177] at hx179
      obtain ⟨v182, hx183, hF184⟩ := bind_some' hx179
      simp only [hg177, run_guard (g := 72), guard_false, f171, run_mv, f168, run_call, B0, reduceIte, reduceEqDiff]
      refine call1 rfl (mapM1 (SlF.snap hv70 (Sep.m5 hS174) rfl (fun _ => rfl) (fun _ => rfl)) (mapM1 (SlF.snap hv30 (Sep.m2 hS174) rfl (fun _ => rfl) (fun _ => rfl)) mapM0))
          (laws_eqBoolS_x (fun b hb => decide_eq_true hb) k v57.2.1 v17.2.1 v182 hx183) ?_
      simp only [hg177, run_guard (g := 72), guard_false, run_un, put1_some, xnot, run_pick, xpick_f, run_ops_nil, run_nil, B0, reduceIte, reduceEqDiff]
      have e185 := some_inj hF184
      exact hN176 _ _ ⟨(Sep.m5 (Sep.m5 (Sep.m5 (Sep.m5 (Sep.m5 (Sep.m5 hS174)))))), by rw [← e185]; simp only [B0, reduceIte, reduceEqDiff], f165, f166, f167, f168, f169, f170,
          f171, f172⟩
  rintro fr186 h196 ⟨hS197, f187, f188, f189, f190, f191, f192, f193, f194, f195⟩
  simp only [List.drop_succ_cons, List.drop_zero]
  simp only [f187, run_mv, B0, reduceIte, reduceEqDiff]
  refine ops_j 4 (fun fr' h' => Sep h' (geL h.length) (c21 ++ (c25 ++ (c29 ++ (c61 ++ (c65 ++ (c69 ++ ([]))))))) ∧ fr' 82 = .bool (v178 ||
      (!(v57.2.2 == v17.2.2))) ∧ fr' 0 = .int .i64 v_0 ∧ fr' 1 = lst IsrStep.cells v_1 ∧ fr' 6 = .ref [.int .i64 v17.1.Epoch, .int .i64 v17.1.Leader, v20, .int .i64 v17.1.High,
      v24] 0 ∧ fr' 7 = v28 ∧ fr' 8 = .bool v17.2.2 ∧ fr' 10 = .ref [.int .i64 v57.1.Epoch, .int .i64 v57.1.Leader, v60, .int .i64 v57.1.High,
      v64] 0 ∧ fr' 11 = v68) (fun Q198 hN199 => ?_) ?_
  · simp only [List.take_succ_cons, List.take_zero]
    simp only [run_guard (g := 78), B0, reduceIte, reduceEqDiff]
    refine guard_split (t := v178) (fun hg200 => ?_) (fun hg200 => ?_)
    · simp only [hg200, run_guard (g := 78), guard_off', run_pick, put1_some, xpick_t, run_ops_nil, run_nil, B0, reduceIte, reduceEqDiff]
      exact hN199 _ _ ⟨(Sep.m5 (Sep.m5 (Sep.m5 (Sep.m5 (Sep.m5 (Sep.m5 hS197)))))), by rw [orT hg200]; simp only [B0, reduceIte, reduceEqDiff], f188, f189, f190, f191, f192, f193,
          f194⟩
    · simp only [hg200, run_guard (g := 78), guard_false, f195, run_mv, f192, run_eqb, put1_some, xeqb_t, run_pick, xpick_f, run_ops_nil, run_nil, B0, reduceIte, reduceEqDiff]
      exact hN199 _ _ ⟨(Sep.m5 (Sep.m5 (Sep.m5 (Sep.m5 (Sep.m5 (Sep.m5 hS197)))))), by rw [orF hg200]; simp only [B0, reduceIte, reduceEqDiff], f188, f189, f190, f191, f192, f193,
          f194⟩
  rintro fr201 h210 ⟨hS211, f202, f203, f204, f205, f206, f207, f208, f209⟩
  simp only [List.drop_succ_cons, List.drop_zero]
  simp only [run_ops_nil, f202, run_cond, B0, reduceIte, reduceEqDiff]
  refine cond_split (t := (v178 || (!(v57.2.2 == v17.2.2)))) (fun hc212 => ?_) (fun hc212 => ?_)
  · rw [iteT hc212] at hF180
    simp only [run_seq, run_reg, run_mv, run_ops_nil, run_ret, B0, reduceIte, reduceEqDiff]
    have he := some_inj hF180
    subst he
    simp only [end_ret1, B0, reduceIte, reduceEqDiff]
    exact rfl
  rw [iteF hc212] at hF180
  simp only [run_skip, x5_17, run_seq, run_reg, run_mv, run_ops_nil, x5_16, f208, run_ld, B0, reduceIte, reduceEqDiff]
  refine put1_eq (v := .agg [.int .i64 v57.1.Epoch, .int .i64 v57.1.Leader, v60, .int .i64 v57.1.High, v64]) rfl ?_
  obtain ⟨v213, hx214, hF215⟩ := bind_some' hF180
  simp only [run_mv, run_call, B0, reduceIte, reduceEqDiff]
  refine call0 rfl (laws_markGroup_x hW k v57.1 v60 c61 hv62 v64 c65 hv66 1 v213 hx214 (Sep.m4 (Sep.m4 hS211))) ?_
  rintro _ h220 ⟨c216, c218, rfl, hv217, hv219, hS221⟩
  obtain ⟨v222, hx223, hF224⟩ := bind_some' hF215
  simp only [run_mv, run_ops_nil, x5_15, run_seq, run_reg, f209, run_call, B0, reduceIte, reduceEqDiff]
  refine call0 rfl (laws_markBoolS_x hW k v68 c69 v57.2.1 hv70 v213.1 v222 hx223 (Sep.m5 hS221)) ?_
  rintro _ h227 ⟨c225, rfl, hv226, hS228⟩
  simp only [run_mv, run_ops_nil, x5_14, run_seq, run_reg, x5_13, f208, run_ld, B0, reduceIte, reduceEqDiff]
  refine put1_eq (v := .agg [.int .i64 v57.1.Epoch, .int .i64 v57.1.Leader, v60, .int .i64 v57.1.High, v64]) rfl ?_
  obtain ⟨v229, hx230, hF231⟩ := bind_some' hF224
  simp only [run_mv, run_call, B0, reduceIte, reduceEqDiff]
  refine call1 rfl (mapM1 (snap_agg (mapM1 snap_int (mapM1 snap_int (mapM1 (SlF.snap hv217 (Sep.m1 hS228) rfl (fun _ => rfl) (fun _ => rfl)) (mapM1 snap_int (mapM1
      (SlN.snap hv219 _ (Sep.m2 hS228) rfl Replica.RO) mapM0)))))) (mapM1 snap_int mapM0)) (laws_heldGroup_x (fun b hb => decide_eq_true hb) k
      (Group.mk v57.1.Epoch v57.1.Leader v213.2.InStep v57.1.High v213.2.Replicas) 1 v229 hx230) ?_
  simp only [run_mv, run_ops_nil, x5_12, run_seq, run_reg, run_bin, put1_some, xlss, run_cond, B0, reduceIte, reduceEqDiff]
  refine cond_split (t := (decide (v229 < 0))) (fun hc232 => ?_) (fun hc232 => ?_)
  · rw [iteT hc232] at hF231
    simp only [run_seq, run_reg, run_mv, run_ops_nil, run_ret, B0, reduceIte, reduceEqDiff]
    have he := some_inj hF231
    subst he
    simp only [end_ret1, B0, reduceIte, reduceEqDiff]
    exact rfl
  rw [iteF hc232] at hF231
  obtain ⟨v233, hx234, hF235⟩ := bind_some' hF231
  simp only [run_skip, x5_11, run_seq, run_reg, f209, run_mv, run_call, B0, reduceIte, reduceEqDiff]
  refine call1 rfl (mapM1 (SlF.snap hv226 hS228 rfl (fun _ => rfl) (fun _ => rfl)) (mapM1 snap_int mapM0)) (laws_heldBoolS_x
      (fun b hb => decide_eq_true hb) k v222.2 v229 v233 hx234) ?_
  simp only [run_mv, run_ops_nil, x5_10, run_seq, run_reg, run_bin, put1_some, xlss, run_cond, B0, reduceIte, reduceEqDiff]
  refine cond_split (t := (decide (v233 < 0))) (fun hc236 => ?_) (fun hc236 => ?_)
  · rw [iteT hc236] at hF235
    simp only [run_seq, run_reg, run_mv, run_ops_nil, run_ret, B0, reduceIte, reduceEqDiff]
    have he := some_inj hF235
    subst he
    simp only [end_ret1, B0, reduceIte, reduceEqDiff]
    exact rfl
  rw [iteF hc236] at hF235
  simp only [run_skip, x5_9, run_seq, run_reg, run_mv, run_bin, put1_some, xneq, run_ops_nil, run_cond, B0, reduceIte, reduceEqDiff]
  refine cond_split (t := (decide (v233 ≠ v222.1))) (fun hc237 => ?_) (fun hc237 => ?_)
  · rw [iteT hc237] at hF235
    simp only [run_seq, run_reg, run_mv, run_ops_nil, run_ret, B0, reduceIte, reduceEqDiff]
    have he := some_inj hF235
    subst he
    simp only [end_ret1, B0, reduceIte, reduceEqDiff]
    exact rfl
  rw [iteF hc237] at hF235
  obtain ⟨v238, hx239, hF240⟩ := bind_some' hF235
  simp only [run_skip, x5_8, run_seq, run_reg, f203, run_mv, f204, run_call, B0, reduceIte, reduceEqDiff]
  refine call2 rfl hS228 (mapM1 snap_lst mapM0) (laws_toIsrStepS_x (fun b hb => decide_eq_true hb) k v_1 v238 hx239) ?_
  rintro v241 h245 ⟨_, c242, rfl, hv243, hS246⟩
  refine ⟨_, free_1 (SlF.free1 hv243), hS246, (pf_app (SlF.pf hv243 (fun _ => rfl)) pf_nil), fun h247 hS248 => ?_⟩
  have hS249 : Sep h247 (geL h.length) (c242 ++ (c225 ++ (c216 ++ (c218 ++ (c21 ++ (c25 ++ (c29 ++ ([])))))))) := by simpa only [List.append_assoc, List.nil_append] using hS248
  obtain ⟨v250, hx251, hF252⟩ := bind_some' hF240
  simp only [run_call, B0, reduceIte, reduceEqDiff]
  refine call2 rfl hS249 (mapM1 snap_int (mapM1 (SlF.snap hv243 hS249 rfl (fun _ => rfl) (fun _ => rfl)) mapM0)) (impl_PlayGroup_x
      (fun b hb => decide_eq_true hb) k v_0 v238 v250 hx251) ?_
  rintro _ h265 ⟨v253, c254, v257, c258, v261, c262, rfl, hv255, hv259, hv263, hS266⟩
  refine ⟨_, free_t (all_c (free2_a (all_c rfl (all_c rfl (all_c (SlF.free1 hv255) (all_c rfl (all_c (SlN.free1 hv259) all_n)))))) (all_c (free2_1 (SlF.free1 hv263))
      (all_c rfl all_n))), hS266, (pf_app (SlF.pf hv255 (fun _ => rfl)) (pf_app (SlN.pf hv259 Replica.RO) (pf_app (SlF.pf hv263 (fun _ => rfl)) pf_nil))), fun h267 hS268 => ?_⟩
  have hS269 : Sep h267 (geL h.length) (c254 ++ (c258 ++ (c262 ++ (c242 ++ (c225 ++ (c216 ++ (c218 ++ (c21 ++ (c25 ++ (c29 ++ ([]))))))))))) := by simpa only [List.append_assoc,
      List.nil_append] using hS268
  simp only [run_mv, run_ext, put1_some, xext_0, xext_1, xext_2, run_new, B0, reduceIte, reduceEqDiff]
  refine put2_newC hS269 (fun b270 h271 hS272 => ?_)
  simp only [run_st, B0, reduceIte, reduceEqDiff]
  refine put2_stCx (us := [.int .i64 v250.1.Epoch, .int .i64 v250.1.Leader, v253, .int .i64 v250.1.High, v257]) rfl (cs' := [.int .i64 v250.1.Epoch, .int .i64 v250.1.Leader, v253,
      .int .i64 v250.1.High, v257]) hS272 hW rfl (all_c rfl (all_c rfl (all_c (SlF.one hv255) (all_c rfl (all_c (SlN.one hv259) all_n))))) (Nat.le_of_ble_eq_true rfl) rfl
      (fun h274 hS275 => ?_)
  simp only [run_mv, run_ops_nil, B0, reduceIte, reduceEqDiff]
  refine frz_stepC hS275 hW (by simp only [B0, reduceIte, reduceEqDiff]) (fun h276 hS277 => ?_)
  simp only [run_frz_nil, x5_7, run_seq, run_reg, run_ld, B0, reduceIte, reduceEqDiff]
  refine put1_eq (v := .agg [.int .i64 v250.1.Epoch, .int .i64 v250.1.Leader, v253, .int .i64 v250.1.High, v257]) rfl ?_
  simp only [f205, run_ld, B0, reduceIte, reduceEqDiff]
  refine put1_eq (v := .agg [.int .i64 v17.1.Epoch, .int .i64 v17.1.Leader, v20, .int .i64 v17.1.High, v24]) rfl ?_
  obtain ⟨v278, hx279, hF280⟩ := bind_some' hF252
  simp only [run_call, B0, reduceIte, reduceEqDiff]
  refine call1 rfl (mapM1 (snap_agg (mapM1 snap_int (mapM1 snap_int (mapM1 (SlF.snap hv255 hS277 rfl (fun _ => rfl) (fun _ => rfl)) (mapM1 snap_int (mapM1 (SlN.snap hv259 _
      (Sep.m1 hS277) rfl Replica.RO) mapM0)))))) (mapM1 (snap_agg (mapM1 snap_int (mapM1 snap_int (mapM1 (SlF.snap hv22 (Sep.m7 hS277) rfl (fun _ => rfl) (fun _ => rfl))
      (mapM1 snap_int (mapM1 (SlN.snap hv26 _ (Sep.m8 hS277) rfl Replica.RO) mapM0)))))) mapM0)) (laws_eqGroup_x (fun b hb => decide_eq_true hb) k v250.1 v17.1 v278 hx279) ?_
  simp only [run_un, put1_some, xnot, run_mv, B0, reduceIte, reduceEqDiff]
  obtain ⟨v284, hx285, hF286⟩ := bind_some' hF280
  refine ops_j 5 (fun fr' h' => Sep h' (geL h.length) (c216 ++ (c218 ++ (c225 ++ ([])))) ∧ fr' 119 = .bool v284 ∧ fr' 8 = .bool v17.2.2 ∧ fr' 10 = .ref [.int .i64 v57.1.Epoch,
      .int .i64 v57.1.Leader, v60, .int .i64 v57.1.High, v64] 0 ∧ fr' 11 = v68 ∧ fr' 14 = .int .i64 v222.1 ∧ fr' 18 = .bool v250.2.2) (fun Q281 hN282 => ?_) ?_
  · simp only [List.take_succ_cons, List.take_zero]
    simp only [run_guard (g := 114), B0, reduceIte, reduceEqDiff]
    refine guard_split (t := (!v278)) (fun hg283 => ?_) (fun hg283 => ?_)
    · rw [iteT hg283] at hx285
      simp only [hg283, run_guard (g := 114), guard_off', run_pick, put1_some, xpick_t, run_ops_nil, run_nil, B0, reduceIte, reduceEqDiff]
      have e287 := some_inj hx285
      exact hN282 _ _ ⟨(Sep.m2 (Sep.m2 (Sep.dc (Sep.m3 (Sep.dc (Sep.m3 (Sep.dc (Sep.m3 (Sep.dc ((Sep.dc ((Sep.dc ((Sep.dc (hS277)))))))))))))))), by rw [← e287]; simp only [B0,
          reduceIte, reduceEqDiff], f207, f208, f209, rfl, rfl⟩
    · rw [iteF hg283] at hx285
      obtain ⟨v288, hx289, hF290⟩ := bind_some' hx285
      simp only [hg283, run_guard (g := 114), guard_false, run_mv, f206, run_call, B0, reduceIte, reduceEqDiff]
      refine call1 rfl (mapM1 (SlF.snap hv263 (Sep.m2 hS277) rfl (fun _ => rfl) (fun _ => rfl)) (mapM1 (SlF.snap hv30 (Sep.m9 hS277) rfl (fun _ => rfl) (fun _ => rfl)) mapM0))
          (laws_eqBoolS_x (fun b hb => decide_eq_true hb) k v250.2.1 v17.2.1 v288 hx289) ?_
      simp only [hg283, run_guard (g := 114), guard_false, run_un, put1_some, xnot, run_pick, xpick_f, run_ops_nil, run_nil, B0, reduceIte, reduceEqDiff]
      have e291 := some_inj hF290
      exact hN282 _ _ ⟨(Sep.m2 (Sep.m2 (Sep.dc (Sep.m3 (Sep.dc (Sep.m3 (Sep.dc (Sep.m3 (Sep.dc ((Sep.dc ((Sep.dc ((Sep.dc (hS277)))))))))))))))), by rw [← e291]; simp only [B0,
          reduceIte, reduceEqDiff], f207, f208, f209, rfl, rfl⟩
  rintro fr292 h299 ⟨hS300, f293, f294, f295, f296, f297, f298⟩
  simp only [List.drop_succ_cons, List.drop_zero]
  simp only [f293, run_mv, B0, reduceIte, reduceEqDiff]
  refine ops_j 4 (fun fr' h' => Sep h' (geL h.length) (c216 ++ (c218 ++ (c225 ++ ([])))) ∧ fr' 124 = .bool (v284 ||
      (!(v250.2.2 == v17.2.2))) ∧ fr' 10 = .ref [.int .i64 v57.1.Epoch, .int .i64 v57.1.Leader, v60, .int .i64 v57.1.High,
      v64] 0 ∧ fr' 11 = v68 ∧ fr' 14 = .int .i64 v222.1) (fun Q301 hN302 => ?_) ?_
  · simp only [List.take_succ_cons, List.take_zero]
    simp only [run_guard (g := 120), B0, reduceIte, reduceEqDiff]
    refine guard_split (t := v284) (fun hg303 => ?_) (fun hg303 => ?_)
    · simp only [hg303, run_guard (g := 120), guard_off', run_pick, put1_some, xpick_t, run_ops_nil, run_nil, B0, reduceIte, reduceEqDiff]
      exact hN302 _ _ ⟨(Sep.m2 (Sep.m2 (Sep.m2 hS300))), by rw [orT hg303]; simp only [B0, reduceIte, reduceEqDiff], f295, f296, f297⟩
    · simp only [hg303, run_guard (g := 120), guard_false, f298, run_mv, f294, run_eqb, put1_some, xeqb_t, run_pick, xpick_f, run_ops_nil, run_nil, B0, reduceIte, reduceEqDiff]
      exact hN302 _ _ ⟨(Sep.m2 (Sep.m2 (Sep.m2 hS300))), by rw [orF hg303]; simp only [B0, reduceIte, reduceEqDiff], f295, f296, f297⟩
  rintro fr304 h309 ⟨hS310, f305, f306, f307, f308⟩
  simp only [List.drop_succ_cons, List.drop_zero]
  simp only [run_ops_nil, f305, run_cond, B0, reduceIte, reduceEqDiff]
  refine cond_split (t := (v284 || (!(v250.2.2 == v17.2.2)))) (fun hc311 => ?_) (fun hc311 => ?_)
  · rw [iteT hc311] at hF286
    simp only [run_seq, run_reg, run_mv, run_ops_nil, run_ret, B0, reduceIte, reduceEqDiff]
    have he := some_inj hF286
    subst he
    simp only [end_ret1, B0, reduceIte, reduceEqDiff]
    exact rfl
  rw [iteF hc311] at hF286
  simp only [run_skip, x5_6, run_seq, run_reg, run_mv, run_ops_nil, x5_5, f306, run_ld, B0, reduceIte, reduceEqDiff]
  refine put1_eq (v := .agg [.int .i64 v57.1.Epoch, .int .i64 v57.1.Leader, v60, .int .i64 v57.1.High, v64]) rfl ?_
  obtain ⟨v312, hx313, hF314⟩ := bind_some' hF286
  simp only [run_mv, run_call, B0, reduceIte, reduceEqDiff]
  refine call1 rfl (mapM1 (snap_agg (mapM1 snap_int (mapM1 snap_int (mapM1 (SlF.snap hv217 hS310 rfl (fun _ => rfl) (fun _ => rfl)) (mapM1 snap_int (mapM1 (SlN.snap hv219 _
      (Sep.m1 hS310) rfl Replica.RO) mapM0)))))) (mapM1 snap_int mapM0)) (laws_heldGroup_x (fun b hb => decide_eq_true hb) k
      (Group.mk v57.1.Epoch v57.1.Leader v213.2.InStep v57.1.High v213.2.Replicas) 1 v312 hx313) ?_
  simp only [run_mv, run_ops_nil, x5_4, run_seq, run_reg, run_bin, put1_some, xlss, run_cond, B0, reduceIte, reduceEqDiff]
  refine cond_split (t := (decide (v312 < 0))) (fun hc315 => ?_) (fun hc315 => ?_)
  · rw [iteT hc315] at hF314
    simp only [run_seq, run_reg, run_mv, run_ops_nil, run_ret, B0, reduceIte, reduceEqDiff]
    have he := some_inj hF314
    subst he
    simp only [end_ret1, B0, reduceIte, reduceEqDiff]
    exact rfl
  rw [iteF hc315] at hF314
  obtain ⟨v316, hx317, hF318⟩ := bind_some' hF314
  simp only [run_skip, x5_3, run_seq, run_reg, f307, run_mv, run_call, B0, reduceIte, reduceEqDiff]
  refine call1 rfl (mapM1 (SlF.snap hv226 (Sep.m2 hS310) rfl (fun _ => rfl) (fun _ => rfl)) (mapM1 snap_int mapM0)) (laws_heldBoolS_x
      (fun b hb => decide_eq_true hb) k v222.2 v312 v316 hx317) ?_
  simp only [run_mv, run_ops_nil, x5_2, run_seq, run_reg, run_bin, put1_some, xlss, run_cond, B0, reduceIte, reduceEqDiff]
  refine cond_split (t := (decide (v316 < 0))) (fun hc319 => ?_) (fun hc319 => ?_)
  · rw [iteT hc319] at hF318
    simp only [run_seq, run_reg, run_mv, run_ops_nil, run_ret, B0, reduceIte, reduceEqDiff]
    have he := some_inj hF318
    subst he
    simp only [end_ret1, B0, reduceIte, reduceEqDiff]
    exact rfl
  rw [iteF hc319] at hF318
  simp only [run_skip, x5_1, run_seq, run_reg, run_mv, f308, run_bin, put1_some, xneq, run_ops_nil, run_cond, B0, reduceIte, reduceEqDiff]
  refine cond_split (t := (decide (v316 ≠ v222.1))) (fun hc320 => ?_) (fun hc320 => ?_)
  · rw [iteT hc320] at hF318
    simp only [run_seq, run_reg, run_mv, run_ops_nil, run_ret, B0, reduceIte, reduceEqDiff]
    have he := some_inj hF318
    subst he
    simp only [end_ret1, B0, reduceIte, reduceEqDiff]
    exact rfl
  rw [iteF hc320] at hF318
  simp only [run_skip, run_seq, run_reg, run_mv, run_ops_nil, run_ret, B0, reduceIte, reduceEqDiff]
  have he := some_inj hF318
  subst he
  simp only [end_ret1, B0, reduceIte, reduceEqDiff]
  exact rfl
end Go.Proofs.Ytefgfcalgjmhjaa.X
