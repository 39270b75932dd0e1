/- The functions' code comes to what the plain functions say (3). -/
import Derived.Test.YtdhibknhejhfaaaXCH2
set_option linter.unusedVariables false
set_option linter.unusedSimpArgs false
set_option maxRecDepth 100000
namespace Go.Proofs.Ytdhibknhejhfaaa.X
open Go
open Nat (reduceEqDiff)
theorem spec_l14Own_x {W : Nat → Bool} {h : Heap} (hW : ∀ b,
    (geL h.length) b → W b = true) (r_0 : Readers_) (r : Readers_) (hF : spec_l14Own r_0 = some r) : Ret E W 54 [.agg [.int .i64 r_0.Generation, lst Reader.cells r_0.Readers,
    lst cI r_0.Committed, lst cI r_0.Ends]] h (fun v h' => ∃ rv0_1 rc0_1 rv0_2 rc0_2 rv0_3 rc0_3, v = .agg [.int .i64 r.Generation, rv0_1, rv0_2,
    rv0_3] ∧ SlN Reader.R 4 37 rv0_1 r.Readers rc0_1 ∧ SlF cI 1 3 rv0_2 r.Committed rc0_2 ∧ SlF cI 1 3 rv0_3 r.Ends rc0_3 ∧ Sep h' (geL h.length) (rc0_1 ++ (rc0_2 ++ (rc0_3 ++
    ([]))))) := by
  refine Ret.of (fn := x54) rfl (Run.of ?_)
  unfold spec_l14Own at hF
  have zf0 : argFr [.agg [.int .i64 r_0.Generation, lst Reader.cells r_0.Readers, lst cI r_0.Committed, lst cI r_0.Ends]] 0 = .agg [.int .i64 r_0.Generation,
      lst Reader.cells r_0.Readers, lst cI r_0.Committed, lst cI r_0.Ends] := rfl
  generalize argFr [.agg [.int .i64 r_0.Generation, lst Reader.cells r_0.Readers, lst cI r_0.Committed, lst cI r_0.Ends]] = fr0 at zf0 ⊢
  have hS : Sep h (geL h.length) [] := Sep.nil h
  simp only [x54, run_seq, run_reg, run_box, zf0, B0, reduceIte, reduceEqDiff]
  refine put2_boxC (cs := [.int .i64 r_0.Generation, lst Reader.cells r_0.Readers, lst cI r_0.Committed, lst cI r_0.Ends]) hS rfl rfl rfl (fun b1 h2 hS3 => ?_)
  simp only [run_new, B0, reduceIte, reduceEqDiff]
  refine put2_newC hS3 (fun b5 h6 hS7 => ?_)
  simp only [run_ops_nil, B0, reduceIte, reduceEqDiff]
  refine frz_stepC (Sep.m1 hS7) hW (by simp only [B0, reduceIte, reduceEqDiff]) (fun h9 hS10 => ?_)
  simp only [run_frz_nil, x54_8, run_seq, run_draw, d4_buildS, evp, B0, reduceIte, reduceEqDiff]
  refine put2d_buildSF (n := 1) (f := cI) ([] : List Int) hS10 rfl rfl (fun v11 c12 h13 hv14 hS15 => ?_)
  simp only [d1_buildS, evp, B0, reduceIte, reduceEqDiff]
  refine put2d_buildSF (n := 1) (f := cI) ([] : List Int) hS15 rfl rfl (fun v17 c18 h19 hv20 hS21 => ?_)
  simp only [d1_new, B0, reduceIte, reduceEqDiff]
  refine put2d_newC hS21 (fun b23 h24 hS25 => ?_)
  simp only [d1_fa, put1d_some, Nat.reduceAdd, Nat.zero_add, Nat.add_zero, xfa_ref, d1_ld, ldd_ref, B0, reduceIte, reduceEqDiff]
  refine put1d_eq (v := .int .i64 r_0.Generation) rfl ?_
  simp only [d4_fa, put1d_some, Nat.reduceAdd, Nat.zero_add, Nat.add_zero, xfa_ref, d4_ld, B0, reduceIte, reduceEqDiff]
  refine put1d_eq (v := lst cI r_0.Committed) rfl ?_
  simp only [d2_appQ, B0, reduceIte, reduceEqDiff]
  obtain ⟨l27, hx28, hF29⟩ := bind_some' hF
  refine q_app disjR0 ?_
  refine put2d_appF (f := cI) hv14 (Sep.m2 hS25) hW (fun _ => rfl) (fun _ => rfl) (firstOf_lst (fun _ => rfl)) hx28 (fun v30 c31 h32 hv33 hS34 => ?_)
  simp only [d1_fa, put1d_some, Nat.reduceAdd, Nat.zero_add, Nat.add_zero, xfa_ref, d1_ld, ldd_ref, B0, reduceIte, reduceEqDiff]
  refine put1d_eq (v := lst cI r_0.Ends) rfl ?_
  simp only [d2_appQ, B0, reduceIte, reduceEqDiff]
  obtain ⟨l36, hx37, hF38⟩ := bind_some' hF29
  refine q_app disjR0 ?_
  refine put2d_appF (f := cI) hv20 (Sep.m2 hS34) hW (fun _ => rfl) (fun _ => rfl) (firstOf_lst (fun _ => rfl)) hx37 (fun v39 c40 h41 hv42 hS43 => ?_)
  simp only [d4_build, evp, B0, reduceIte, reduceEqDiff]
  refine put1d_eq (v := .agg [.int .i64 r_0.Generation, .nil, v30, v39]) (pbuild_some (fill1 (us := [.int .i64 r_0.Generation]) (vs := [.int .i64 r_0.Generation, .nil, .nil,
      .nil]) rfl rfl (Nat.le_of_ble_eq_true rfl) rfl rfl (fill1 (us := [v30]) (vs := [.int .i64 r_0.Generation, .nil, v30,
      .nil]) (cells_one (SlF.one hv33)) rfl (Nat.le_of_ble_eq_true rfl) (all_c (SlF.one hv33) all_n) rfl (fill1 (us := [v39]) (vs := [.int .i64 r_0.Generation, .nil, v30,
      v39]) (cells_one (SlF.one hv42)) rfl (Nat.le_of_ble_eq_true rfl) (all_c (SlF.one hv42) all_n) rfl fill0)))) ?_
  simp only [d3_st, B0, reduceIte, reduceEqDiff]
  refine put2d_stCx (us := [.int .i64 r_0.Generation, .nil, v30, v39]) rfl (cs' := [.int .i64 r_0.Generation, .nil, v30,
      v39]) (Sep.m2 hS43) hW rfl (all_c rfl (all_c rfl (all_c (SlF.one hv33) (all_c (SlF.one hv42) all_n)))) (Nat.le_of_ble_eq_true rfl) rfl (fun h45 hS46 => ?_)
  simp only [run_draw_nil, x54_7, run_seq, run_reg, run_fa, put1_some, Nat.reduceAdd, Nat.zero_add, Nat.add_zero, xfa_ref, run_ld, B0, reduceIte, reduceEqDiff]
  refine put1_eq (v := lst Reader.cells r_0.Readers) rfl ?_
  simp only [run_len, put1_some, xlen_lst, run_mv, run_ops_nil, B0, reduceIte, reduceEqDiff]
  obtain ⟨oc59, hX61, hk62⟩ := jn_some hF38
  simp only [x54_6]
  refine rangeL_j (σ := Readers_) r_0.Readers (fun i57 x58 s138 => spec_l14Own_b1 l27 l36 i57 x58 s138) (fun s fr' h' => ∃ v54 c55,
      fr' 2 = .ptr b5 0 ∧ fr' 3 = .ptr b23 0 ∧ fr' 18 = lst Reader.cells r_0.Readers ∧ SlN Reader.R 4 37 v54 s.Readers c55 ∧ Sep h' (geL h.length) ([Blk1 b5 [.int .i64 0, .nil,
      .nil, .nil] 29] ++ ([Blk1 b23 [.int .i64 s.Generation, v54, v30, v39] 29] ++ (c55 ++ (c31 ++ (c40 ++ ([]))))))) hX61 ⟨.nil, [], rfl, rfl, rfl, SlN.nil,
      ((Sep.m3 (Sep.m2 (Sep.m2 (Sep.m1 hS46)))) : Sep _ (geL h.length) ([Blk1 b5 [.int .i64 0, .nil, .nil, .nil] 29] ++ ([Blk1 b23 [.int .i64 r_0.Generation, .nil, v30,
      v39] 29] ++ (c31 ++ (c40 ++ ([]))))))⟩ (by simp only [B0, reduceIte, reduceEqDiff]) (by simp only [B0, reduceIte,
      reduceEqDiff]) (fun _ _ _ h => h) rfl rfl (fun _ _ _ _ h => h) (fun _ _ _ _ h => h) (fun _ _ _ _ h => h) (by decide) ?_ ?_
  · rintro i57 x58 s52 fr71 h72 hx77 ⟨v54, c55, f74, f75, f76, hv56, hS73⟩ f78 f79 oc60 hF63 hr64 Q65 hN66 hB70 hK67 hR68 hE69
    unfold spec_l14Own_b1 at hF63
    simp only [x54_4, run_seq, run_reg, f76, f78, run_ia, B0, reduceIte, reduceEqDiff]
    refine put1_eq (v := .ref (Reader.cells x58) 0) (xia_lstN hx77 rfl) ?_
    simp only [run_ld, B0, reduceIte, reduceEqDiff]
    refine put1_eq (v := .agg [.bool x58.In, .int .i64 x58.Generation, lst cI x58.Share, lst cI x58.Read]) rfl ?_
    simp only [run_new, B0, reduceIte, reduceEqDiff]
    refine put2_newC hS73 (fun b80 h81 hS82 => ?_)
    simp only [run_st, B0, reduceIte, reduceEqDiff]
    refine put2_stCx (us := [.bool x58.In, .int .i64 x58.Generation, lst cI x58.Share, lst cI x58.Read]) rfl (cs' := [.bool x58.In, .int .i64 x58.Generation, lst cI x58.Share,
        lst cI x58.Read]) hS82 hW rfl rfl (Nat.le_of_ble_eq_true rfl) rfl (fun h84 hS85 => ?_)
    simp only [run_ops_nil, x54_3, run_seq, run_reg, run_buildS, evp, B0, reduceIte, reduceEqDiff]
    refine put2_buildSF (n := 1) (f := cI) ([] : List Int) hS85 rfl rfl (fun v86 c87 h88 hv89 hS90 => ?_)
    simp only [run_fa, put1_some, Nat.reduceAdd, Nat.zero_add, Nat.add_zero, xfa_ptr, run_ld, B0, reduceIte, reduceEqDiff]
    refine put1_eq (v := lst cI x58.Share) ((xld_b (Sep.bk _ _ _ (Sep.m1 hS90))).trans rfl) ?_
    simp only [run_app, B0, reduceIte, reduceEqDiff]
    obtain ⟨l92, hx93, hF94⟩ := bind_some' hF63
    refine put2_appF (f := cI) hv89 hS90 hW (fun _ => rfl) (fun _ => rfl) (firstOf_lst (fun _ => rfl)) hx93 (fun v95 c96 h97 hv98 hS99 => ?_)
    simp only [run_fa, put1_some, Nat.reduceAdd, Nat.zero_add, Nat.add_zero, xfa_ptr, run_st, B0, reduceIte, reduceEqDiff]
    refine put2_stCx (us := [v95]) (cells_one (SlF.one hv98)) (cs' := [.bool x58.In, .int .i64 x58.Generation, v95,
        lst cI x58.Read]) (Sep.m1 hS99) hW rfl (all_c (SlF.one hv98) all_n) (Nat.le_of_ble_eq_true rfl) rfl (fun h101 hS102 => ?_)
    simp only [run_ops_nil, x54_2, run_seq, run_reg, run_buildS, evp, B0, reduceIte, reduceEqDiff]
    refine put2_buildSF (n := 1) (f := cI) ([] : List Int) hS102 rfl rfl (fun v103 c104 h105 hv106 hS107 => ?_)
    simp only [run_fa, put1_some, Nat.reduceAdd, Nat.zero_add, Nat.add_zero, xfa_ptr, run_ld, B0, reduceIte, reduceEqDiff]
    refine put1_eq (v := lst cI x58.Read) ((xld_b (Sep.bk _ _ _ (Sep.m1 hS107))).trans rfl) ?_
    simp only [run_app, B0, reduceIte, reduceEqDiff]
    obtain ⟨l109, hx110, hF111⟩ := bind_some' hF94
    refine put2_appF (f := cI) hv106 hS107 hW (fun _ => rfl) (fun _ => rfl) (firstOf_lst (fun _ => rfl)) hx110 (fun v112 c113 h114 hv115 hS116 => ?_)
    simp only [run_fa, put1_some, Nat.reduceAdd, Nat.zero_add, Nat.add_zero, xfa_ptr, run_st, B0, reduceIte, reduceEqDiff]
    refine put2_stCx (us := [v112]) (cells_one (SlF.one hv115)) (cs' := [.bool x58.In, .int .i64 x58.Generation, v95,
        v112]) (Sep.m1 hS116) hW rfl (all_c (SlF.one hv115) all_n) (Nat.le_of_ble_eq_true rfl) rfl (fun h118 hS119 => ?_)
    simp only [run_ops_nil, x54_1, run_reg, f75, run_fa, put1_some, Nat.reduceAdd, Nat.zero_add, Nat.add_zero, xfa_ptr, run_ld, B0, reduceIte, reduceEqDiff]
    refine put1_eq (v := v54) ((xld_b (Sep.bk _ _ _ (Sep.m4 hS119))).trans rfl) ?_
    simp only [run_ld, B0, reduceIte, reduceEqDiff]
    refine put1_eq (v := .agg [.bool x58.In, .int .i64 x58.Generation, v95, v112]) ((xld_bs (Sep.bk _ _ _ hS119)).trans rfl) ?_
    simp only [run_buildS, evp, B0, reduceIte, reduceEqDiff]
    refine put2_buildSN (R := Reader.R) (n := 4) (cs := [.bool x58.In, .int .i64 x58.Generation, v95,
        v112]) (os := c96 ++ (c113)) (Sep.bi2 (c1 := c96) (c2 := c113) (Sep.m2 (Sep.m1 hS119))) (fill1 (us := [.bool x58.In, .int .i64 x58.Generation, v95,
        v112]) (vs := [.bool x58.In, .int .i64 x58.Generation, v95,
        v112]) rfl rfl (Nat.le_of_ble_eq_true rfl) (all_c rfl (all_c rfl (all_c (SlF.one hv98) (all_c (SlF.one hv115) all_n)))) rfl fill0) (Reader.RI (x :=
        (Reader.mk x58.In x58.Generation l92 l109)) hv98 hv115) rfl (fun v120 c121 h122 hv123 hS124 => ?_)
    simp only [run_app, B0, reduceIte, reduceEqDiff]
    obtain ⟨l126, hx127, hF128⟩ := bind_some' hF111
    refine put2_appN (R := Reader.R) (c := c55) hv56 hv123 (Sep.m4 hS124) hW Reader.RO.len Reader.RO.one hx127 (fun v129 c130 h131 hv132 hS133 => ?_)
    simp only [f75, run_fa, put1_some, Nat.reduceAdd, Nat.zero_add, Nat.add_zero, xfa_ptr, run_st, B0, reduceIte, reduceEqDiff]
    refine put2_stCx (us := [v129]) (cells_one (SlN.one hv132)) (cs' := [.int .i64 s52.Generation, v129, v30,
        v39]) (Sep.m3 hS133) hW rfl (all_c (SlN.one hv132) all_n) (Nat.le_of_ble_eq_true rfl) rfl (fun h135 hS136 => ?_)
    simp only [run_ops_nil, run_nil, B0, reduceIte, reduceEqDiff]
    have e137 := some_inj hF128
    exact hN66 _ _ _ e137.symm ⟨v129, c130, f74, f75, f76, hv132, (Sep.m4 (Sep.m3 (Sep.m3 (Sep.m4 (Sep.m4 (Sep.dc (Sep.m2 hS136)))))))⟩ (f78) (f79)
  rintro s139 fr144 h145 rfl ⟨v141, c142, f147, f148, f149, hv143, hS146⟩
  dsimp only [jnO] at hk62
  unfold spec_l14Own_j1 at hk62
  simp only [run_seq, run_reg, f148, run_ld, B0, reduceIte, reduceEqDiff]
  refine put1_eq (v := .agg [.int .i64 s139.Generation, v141, v30, v39]) ((xld_bs (Sep.bk _ _ _ (Sep.m1 hS146))).trans rfl) ?_
  simp only [f147, run_st, B0, reduceIte, reduceEqDiff]
  refine put2_stCx (us := [.int .i64 s139.Generation, v141, v30, v39]) rfl (cs' := [.int .i64 s139.Generation, v141, v30,
      v39]) hS146 hW rfl (all_c rfl (all_c (SlN.one hv143) (all_c (SlF.one hv33) (all_c (SlF.one hv42) all_n)))) (Nat.le_of_ble_eq_true rfl) rfl (fun h150 hS151 => ?_)
  simp only [run_ops_nil, run_ret, B0, reduceIte, reduceEqDiff]
  have he := some_inj hk62
  subst he
  refine end_ret_cell (bb := b5) (oo := 0) (v := .agg [.int .i64 s139.Generation, v141, v30, v39]) (by simp only [f147, B0, reduceIte,
      reduceEqDiff]) ((xld_bs (Sep.bk _ _ _ hS151)).trans rfl) ?_
  exact ⟨v141, c142, v30, c31, v39, c40, by first | trivial | rfl, hv143, hv33, hv42, (Sep.m2 (Sep.m2 (Sep.m2 (Sep.dc ((Sep.dc (hS151)))))))⟩
theorem spec_PlayReaders_x {W : Nat → Bool} {h : Heap} (hW : ∀ b,
    (geL h.length) b → W b = true) (k : Nat) (readers_0 : Int) (ends_1 : List Int) (l_2 : List GroupStep) (r : Readers_ × (List Bool) × Bool)
    (hF : spec_PlayReaders k readers_0 ends_1 l_2 = some r) : Ret E W 9 [.int .i64 readers_0, lst cI ends_1,
    lst GroupStep.cells l_2] h (fun v h' => ∃ rv0_1 rc0_1 rv0_2 rc0_2 rv0_3 rc0_3 rv1 rc1, v = .tup [.agg [.int .i64 r.1.Generation, rv0_1, rv0_2, rv0_3], rv1,
    .bool r.2.2] ∧ SlN Reader.R 4 37 rv0_1 r.1.Readers rc0_1 ∧ SlF cI 1 3 rv0_2 r.1.Committed rc0_2 ∧ SlF cI 1 3 rv0_3 r.1.Ends rc0_3 ∧ SlF cB 1 4 rv1 r.2.1 rc1 ∧ Sep h'
    (geL h.length) (rc0_1 ++ (rc0_2 ++ (rc0_3 ++ (rc1 ++ ([])))))) := by
  refine Ret.of (fn := x9) rfl (Run.of ?_)
  unfold spec_PlayReaders at hF
  have zf0 : argFr [.int .i64 readers_0, lst cI ends_1, lst GroupStep.cells l_2] 0 = .int .i64 readers_0 := rfl
  have zf1 : argFr [.int .i64 readers_0, lst cI ends_1, lst GroupStep.cells l_2] 1 = lst cI ends_1 := rfl
  have zf2 : argFr [.int .i64 readers_0, lst cI ends_1, lst GroupStep.cells l_2] 2 = lst GroupStep.cells l_2 := rfl
  generalize argFr [.int .i64 readers_0, lst cI ends_1, lst GroupStep.cells l_2] = fr0 at zf0 zf1 zf2 ⊢
  have hS : Sep h (geL h.length) [] := Sep.nil h
  simp only [x9, run_seq, run_reg, run_new, B0, reduceIte, reduceEqDiff]
  refine put2_newC hS (fun b1 h2 hS3 => ?_)
  obtain ⟨v5, hx6, hF7⟩ := bind_some' hF
  simp only [run_mv, run_ops_nil, x9_14, run_seq, run_reg, zf0, zf1, run_call, B0, reduceIte, reduceEqDiff]
  refine call2 rfl hS3 (mapM1 snap_int (mapM1 snap_lst mapM0)) (spec_NewReaders_x (fun b hb => decide_eq_true hb) k readers_0 ends_1 v5 hx6) ?_
  rintro _ h20 ⟨v8, c9, v12, c13, v16, c17, rfl, hv10, hv14, hv18, hS21⟩
  refine ⟨_, free_t (all_c (free2_a (all_c rfl (all_c (SlN.free1 hv10) (all_c (SlF.free1 hv14) (all_c (SlF.free1 hv18) all_n))))) (all_c rfl all_n)), hS21,
      (pf_app (SlN.pf hv10 Reader.RO) (pf_app (SlF.pf hv14 (fun _ => rfl)) (pf_app (SlF.pf hv18 (fun _ => rfl)) pf_nil))), fun h22 hS23 => ?_⟩
  have hS24 : Sep h22 (geL h.length) (c9 ++ (c13 ++ (c17 ++ ([Blk1 b1 [.int .i64 0, .nil, .nil, .nil] 29] ++ ([]))))) := by simpa only [List.append_assoc,
      List.nil_append] using hS23
  simp only [run_mv, run_ext, put1_some, xext_0, xext_1, run_new, B0, reduceIte, reduceEqDiff]
  refine put2_newC hS24 (fun b25 h26 hS27 => ?_)
  simp only [run_st, B0, reduceIte, reduceEqDiff]
  refine put2_stCx (us := [.int .i64 v5.1.Generation, v8, v12, v16]) rfl (cs' := [.int .i64 v5.1.Generation, v8, v12,
      v16]) hS27 hW rfl (all_c rfl (all_c (SlN.one hv10) (all_c (SlF.one hv14) (all_c (SlF.one hv18) all_n)))) (Nat.le_of_ble_eq_true rfl) rfl (fun h29 hS30 => ?_)
  simp only [run_mv, run_ops_nil, x9_13, run_seq, run_reg, run_un, put1_some, xnot, B0, reduceIte, reduceEqDiff]
  refine ops_j 4 (fun fr' h' => Sep h' (geL h.length) ([Blk1 b1 [.int .i64 0, .nil, .nil, .nil] 29] ++ ([Blk1 b25 [.int .i64 v5.1.Generation, v8, v12,
      v16] 29] ++ (c9 ++ (c13 ++ (c17 ++ ([])))))) ∧ fr' 28 = .bool ((!v5.2) || (decide ((80 : Int) <
      (List.length l_2 : Int)))) ∧ fr' 2 = lst GroupStep.cells l_2 ∧ fr' 6 = .ptr b1 0 ∧ fr' 9 = .ptr b25 0) (fun Q31 hN32 => ?_) ?_
  · simp only [List.take_succ_cons, List.take_zero]
    simp only [run_guard (g := 24), B0, reduceIte, reduceEqDiff]
    refine guard_split (t := (!v5.2)) (fun hg33 => ?_) (fun hg33 => ?_)
    · simp only [hg33, run_guard (g := 24), guard_off', run_pick, put1_some, xpick_t, run_ops_nil, run_nil, B0, reduceIte, reduceEqDiff]
      exact hN32 _ _ ⟨(Sep.m4 (Sep.m3 (Sep.m3 (Sep.m3 (Sep.m3 hS30))))), by rw [orT hg33]; simp only [B0, reduceIte, reduceEqDiff], zf2, rfl, rfl⟩
    · simp only [hg33, run_guard (g := 24), guard_false, zf2, run_mv, run_len, put1_some, xlen_lst, run_bin, xgtr, run_pick, xpick_f, run_ops_nil, run_nil, B0, reduceIte,
        reduceEqDiff]
      exact hN32 _ _ ⟨(Sep.m4 (Sep.m3 (Sep.m3 (Sep.m3 (Sep.m3 hS30))))), by rw [orF hg33]; simp only [B0, reduceIte, reduceEqDiff], zf2, rfl, rfl⟩
  rintro fr34 h39 ⟨hS40, f35, f36, f37, f38⟩
  simp only [List.drop_succ_cons, List.drop_zero]
  simp only [run_ops_nil, x9_2, f35, run_cond, B0, reduceIte, reduceEqDiff]
  refine cond_split (t := ((!v5.2) || (decide ((80 : Int) < (List.length l_2 : Int))))) (fun hc41 => ?_) (fun hc41 => ?_)
  · rw [iteT hc41] at hF7
    simp only [x9_1, run_seq, run_reg, run_build, evp, B0, reduceIte, reduceEqDiff]
    refine put1_eq (v := .agg [.int .i64 0, .nil, .nil, .nil]) rfl ?_
    simp only [f37, run_st, B0, reduceIte, reduceEqDiff]
    refine put2_stCx (us := [.int .i64 0, .nil, .nil, .nil]) rfl (cs' := [.int .i64 0, .nil, .nil, .nil]) hS40 hW rfl rfl (Nat.le_of_ble_eq_true rfl) rfl (fun h42 hS43 => ?_)
    simp only [run_mv, run_ops_nil, run_ret, B0, reduceIte, reduceEqDiff]
    have he := some_inj hF7
    subst he
    refine end_ret_m (mapM1 (res_cell (bb := b1) (oo := 0) (v := .agg [.int .i64 0, .nil, .nil,
        .nil]) (f37) ((xld_bs (Sep.bk _ _ _ hS43)).trans rfl)) (mapM1 (res_t (v := .nil) (rfl)) (mapM1 (res_t (v := .bool false) (rfl)) mapM0))) ?_
    exact ⟨.nil, [], .nil, [], .nil, [], .nil, [], by first | trivial | rfl, SlN.nil, SlF.nil, SlF.nil, SlF.nil,
        ((Sep.dc ((Sep.dc ((Sep.dc ((Sep.dc ((Sep.dc (hS43)))))))))) : Sep _ (geL h.length) ([]))⟩
  rw [iteF hc41] at hF7
  simp only [run_skip, x9_12, run_seq, run_reg, run_mv, run_ops_nil, x9_11, f36, run_len, put1_some, xlen_lst, B0, reduceIte, reduceEqDiff]
  obtain ⟨oc82, hX84, hk85⟩ := jn_some hF7
  simp only [x9_9]
  refine rangeL_j (σ := (List Bool) × Readers_) l_2 (fun i80 x81 s203 => spec_PlayReaders_b1 i80 x81 s203.1 s203.2) (fun s fr' h' => ∃ v64 c65 v69 c70 v73 c74 v77 c78,
      fr' 6 = .ptr b1 0 ∧ fr' 9 = .ptr b25 0 ∧ fr' 11 = v64 ∧ fr' 30 = lst GroupStep.cells l_2 ∧ SlF cB 1 4 v64 s.1 c65 ∧ SlN Reader.R 4 37 v69 s.2.Readers c70 ∧ SlF cI 1 3 v73 s.2.Committed c74 ∧ SlF cI 1 3 v77 s.2.Ends c78 ∧ Sep h'
      (geL h.length) ([Blk1 b1 [.int .i64 0, .nil, .nil, .nil] 29] ++ ([Blk1 b25 [.int .i64 s.2.Generation, v69, v73,
      v77] 29] ++ (c65 ++ (c70 ++ (c74 ++ (c78 ++ ([])))))))) hX84 ⟨.nil, [], v8, c9, v12, c13, v16, c17, f37, f38, rfl, rfl, SlF.nil, hv10, hv14, hv18,
      ((Sep.m4 (Sep.m4 (Sep.m4 (Sep.m4 (Sep.m4 hS40))))) : Sep _ (geL h.length) ([Blk1 b1 [.int .i64 0, .nil, .nil, .nil] 29] ++ ([Blk1 b25 [.int .i64 v5.1.Generation, v8, v12,
      v16] 29] ++ (c9 ++ (c13 ++ (c17 ++ ([])))))))⟩ (by simp only [B0, reduceIte, reduceEqDiff]) (by simp only [B0, reduceIte,
      reduceEqDiff]) (fun _ _ _ h => h) rfl rfl (fun _ _ _ _ h => h) (fun _ _ _ _ h => h) (fun _ _ _ _ h => h) (by decide) ?_ ?_
  · rintro i80 x81 ⟨s62, s67⟩ fr94 h95 hx101 ⟨v64, c65, v69, c70, v73, c74, v77, c78, f97, f98, f99, f100, hv66, hv71, hv75, hv79,
      hS96⟩ f102 f103 oc83 hF86 hr87 Q88 hN89 hB93 hK90 hR91 hE92
    dsimp only at *
    unfold spec_PlayReaders_b1 at hF86
    simp only [x9_7, run_seq, run_reg, f100, f102, run_ia, B0, reduceIte, reduceEqDiff]
    refine put1_eq (v := .ref (GroupStep.cells x81) 0) (xia_lstN hx101 rfl) ?_
    simp only [run_ld, B0, reduceIte, reduceEqDiff]
    refine put1_eq (v := .agg [.int .i64 x81.Kind, .int .i64 x81.K, .int .i64 x81.Part, .int .i64 x81.N]) rfl ?_
    simp only [run_new, B0, reduceIte, reduceEqDiff]
    refine put2_newC hS96 (fun b104 h105 hS106 => ?_)
    simp only [run_st, B0, reduceIte, reduceEqDiff]
    refine put2_stCx (us := [.int .i64 x81.Kind, .int .i64 x81.K, .int .i64 x81.Part, .int .i64 x81.N]) rfl (cs' := [.int .i64 x81.Kind, .int .i64 x81.K, .int .i64 x81.Part,
        .int .i64 x81.N]) hS106 hW rfl rfl (Nat.le_of_ble_eq_true rfl) rfl (fun h108 hS109 => ?_)
    simp only [run_ops_nil, B0, reduceIte, reduceEqDiff]
    refine frz_stepC hS109 hW (by simp only [B0, reduceIte, reduceEqDiff]) (fun h110 hS111 => ?_)
    simp only [run_frz_nil, x9_6, run_seq, run_draw, d1_new, B0, reduceIte, reduceEqDiff]
    refine put2d_newC hS111 (fun b112 h113 hS114 => ?_)
    simp only [f98, d4_ld, B0, reduceIte, reduceEqDiff]
    refine put1d_eq (v := .agg [.int .i64 s67.Generation, v69, v73, v77]) ((xld_bs (Sep.bk _ _ _ (Sep.m2 hS114))).trans rfl) ?_
    obtain ⟨v116, hx117, hF118⟩ := bind_some' hF86
    simp only [run_d2_call, B0, reduceIte, reduceEqDiff]
    refine call2q rfl hS114 (mapM1 (snap_agg (mapM1 snap_int (mapM1 (SlN.snap hv71 _ (Sep.m4 hS114) rfl Reader.RO) (mapM1 (SlF.snap hv75 (Sep.m5 hS114) rfl (fun _ => rfl)
        (fun _ => rfl)) (mapM1 (SlF.snap hv79 (Sep.m6 hS114) rfl (fun _ => rfl) (fun _ => rfl)) mapM0))))) mapM0) (spec_l14Own_x (fun b hb => decide_eq_true hb) s67 v116 hx117) ?_
    rintro _ h131 ⟨v119, c120, v123, c124, v127, c128, rfl, hv121, hv125, hv129, hS132⟩
    refine ⟨_, free_a (all_c rfl (all_c (SlN.free1 hv121) (all_c (SlF.free1 hv125) (all_c (SlF.free1 hv129) all_n)))), hS132,
        (pf_app (SlN.pf hv121 Reader.RO) (pf_app (SlF.pf hv125 (fun _ => rfl)) (pf_app (SlF.pf hv129 (fun _ => rfl)) pf_nil))), fun h133 hS134 => ?_⟩
    have hS135 : Sep h133 (geL h.length) (c120 ++ (c124 ++ (c128 ++ ([Blk1 b112 [.int .i64 0, .nil, .nil, .nil] 29] ++ ([Blk1 b1 [.int .i64 0, .nil, .nil,
        .nil] 29] ++ ([Blk1 b25 [.int .i64 s67.Generation, v69, v73, v77] 29] ++ (c65 ++ (c70 ++ (c74 ++ (c78 ++ ([]))))))))))) := by simpa only [List.append_assoc,
        List.nil_append] using hS134
    simp only [d1_ld, ldd_ref, B0, reduceIte, reduceEqDiff]
    refine put1d_eq (v := .agg [.int .i64 x81.Kind, .int .i64 x81.K, .int .i64 x81.Part, .int .i64 x81.N]) rfl ?_
    obtain ⟨v136, hx137, hF138⟩ := bind_some' hF118
    simp only [run_d3_call, B0, reduceIte, reduceEqDiff]
    refine call0d rfl (spec_l14Step_x hW v116 v119 c120 hv121 v123 c124 hv125 v127 c128 hv129 x81 v136 hx137 (Sep.m2 (Sep.m2 (Sep.m2 hS135)))) ?_
    rintro _ h145 ⟨c139, c141, c143, rfl, hv140, hv142, hv144, hS146⟩
    simp only [d4_mv, put1d_some, d4_ext, xext_0, d1_ext, xext_1, d3_st, B0, reduceIte, reduceEqDiff]
    refine put2d_stCx (us := [.int .i64 v136.1.Generation, v119, v123, v127]) rfl (cs' := [.int .i64 v136.1.Generation, v119, v123,
        v127]) (Sep.m3 hS146) hW rfl (all_c rfl (all_c (SlN.one hv140) (all_c (SlF.one hv142) (all_c (SlF.one hv144) all_n)))) (Nat.le_of_ble_eq_true rfl) rfl
        (fun h147 hS148 => ?_)
    simp only [d4_mv, put1d_some, run_draw_nil, B0, reduceIte, reduceEqDiff]
    refine frz_stepC hS148 hW (by simp only [B0, reduceIte, reduceEqDiff]) (fun h149 hS150 => ?_)
    simp only [run_frz_nil, x9_5, run_seq, run_reg, run_mv, run_ops_nil, x9_3, run_cond, B0, reduceIte, reduceEqDiff]
    obtain ⟨s151, hX165, hk166⟩ := bind_some' hF138
    refine cond_j (t := v136.2) (fun fr' h' => ∃ v153 c154 v157 c158 v161 c162,
        fr' 6 = .ptr b1 0 ∧ fr' 9 = .ptr b25 0 ∧ fr' 11 = v64 ∧ fr' 15 = .bool v136.2 ∧ fr' 30 = lst GroupStep.cells l_2 ∧ fr' 31 = .int .i64
        (List.length l_2 : Int) ∧ fr' 32 = .int .i64
        (i80 : Int) ∧ SlN Reader.R 4 37 v153 s151.Readers c154 ∧ SlF cI 1 3 v157 s151.Committed c158 ∧ SlF cI 1 3 v161 s151.Ends c162 ∧ Sep h' (geL h.length)
        ([Blk1 b1 [.int .i64 0, .nil, .nil, .nil] 29] ++ ([Blk1 b25 [.int .i64 s151.Generation, v153, v157,
        v161] 29] ++ (c65 ++ (c154 ++ (c158 ++ (c162 ++ ([])))))))) (fun Q167 hN168 hR169 hE170 => ⟨fun hc171 => ?_, fun hc171 => ?_⟩) ?_
    · rw [iteT hc171] at hX165
      simp only [run_reg, run_ld, B0, reduceIte, reduceEqDiff]
      refine put1_eq (v := .agg [.int .i64 v136.1.Generation, v119, v123, v127]) rfl ?_
      simp only [f98, run_st, B0, reduceIte, reduceEqDiff]
      refine put2_stCx (us := [.int .i64 v136.1.Generation, v119, v123, v127]) rfl (cs' := [.int .i64 v136.1.Generation, v119, v123,
          v127]) (Sep.m4 hS150) hW rfl (all_c rfl (all_c (SlN.one hv140) (all_c (SlF.one hv142) (all_c (SlF.one hv144) all_n)))) (Nat.le_of_ble_eq_true rfl) rfl
          (fun h172 hS173 => ?_)
      simp only [run_ops_nil, run_nil, B0, reduceIte, reduceEqDiff]
      have e174 := some_inj hX165
      subst e174
      exact hN168 _ _ ⟨v119, c139, v123, c141, v127, c143, f97, f98, f99, rfl, f100, f103, f102, hv140, hv142, hv144,
          (Sep.m5 (Sep.m4 (Sep.m5 (Sep.m3 (Sep.m3 (Sep.m3 (Sep.dc (Sep.m6 (Sep.dc (Sep.m6 (Sep.dc (Sep.m6 hS173))))))))))))⟩
    · rw [iteF hc171] at hX165
      simp only [run_skip, run_nil, B0, reduceIte, reduceEqDiff]
      have e175 := some_inj hX165
      subst e175
      exact hN168 _ _ ⟨v69, c70, v73, c74, v77, c78, f97, f98, f99, rfl, f100, f103, f102, hv71, hv75, hv79,
          (Sep.m5 (Sep.m5 (Sep.m5 (Sep.m5 (Sep.m5 (Sep.m5 (Sep.dc ((Sep.dc ((Sep.dc (hS150))))))))))))⟩
    rintro fr176 h177 ⟨v153, c154, v157, c158, v161, c162, f179, f180, f181, f182, f183, f184, f185, hv155, hv159, hv163, hS178⟩
    unfold spec_PlayReaders_j1 at hk166
    simp only [x9_4, run_reg, f181, run_mv, f182, run_buildS, evp, B0, reduceIte, reduceEqDiff]
    refine put2_buildSF (n := 1) (f := cB) [v136.2] hS178 rfl rfl (fun v186 c187 h188 hv189 hS190 => ?_)
    simp only [run_app, B0, reduceIte, reduceEqDiff]
    obtain ⟨l192, hx193, hF194⟩ := bind_some' hk166
    refine put2_appF (f := cB) hv66 (Sep.m3 hS190) hW (fun _ => rfl) (fun _ => rfl) (SlF.first hv189 hS190 (fun _ => rfl)) hx193 (fun v195 c196 h197 hv198 hS199 => ?_)
    simp only [run_mv, run_ops_nil, run_nil, B0, reduceIte, reduceEqDiff]
    have e201 := some_inj hF194
    exact hN89 _ _ _ e201.symm ⟨v195, c196, v153, c154, v157, c158, v161, c162, f179, f180, rfl, f183, hv198, hv155, hv159, hv163,
        (Sep.m5 (Sep.m5 (Sep.m3 (Sep.m5 (Sep.m5 (Sep.m5 (Sep.dc (Sep.m1 hS199))))))))⟩ (f185) (f184)
  rintro ⟨s204, s209⟩ fr222 h223 rfl ⟨v206, c207, v211, c212, v215, c216, v219, c220, f225, f226, f227, f228, hv208, hv213, hv217, hv221, hS224⟩
  dsimp only [jnO] at hk85
  dsimp only at *
  unfold spec_PlayReaders_j2 at hk85
  simp only [x9_10, run_seq, run_reg, f226, run_ld, B0, reduceIte, reduceEqDiff]
  refine put1_eq (v := .agg [.int .i64 s209.Generation, v211, v215, v219]) ((xld_bs (Sep.bk _ _ _ (Sep.m1 hS224))).trans rfl) ?_
  obtain ⟨v229, hx230, hF231⟩ := bind_some' hk85
  simp only [run_call, B0, reduceIte, reduceEqDiff]
  refine call2 rfl hS224 (mapM1 (snap_agg (mapM1 snap_int (mapM1 (SlN.snap hv213 _ (Sep.m3 hS224) rfl Reader.RO) (mapM1 (SlF.snap hv217 (Sep.m4 hS224) rfl (fun _ => rfl)
      (fun _ => rfl)) (mapM1 (SlF.snap hv221 (Sep.m5 hS224) rfl (fun _ => rfl) (fun _ => rfl)) mapM0))))) mapM0) (spec_l14Own_x (fun b hb => decide_eq_true hb) s209 v229 hx230) ?_
  rintro _ h244 ⟨v232, c233, v236, c237, v240, c241, rfl, hv234, hv238, hv242, hS245⟩
  refine ⟨_, free_a (all_c rfl (all_c (SlN.free1 hv234) (all_c (SlF.free1 hv238) (all_c (SlF.free1 hv242) all_n)))), hS245,
      (pf_app (SlN.pf hv234 Reader.RO) (pf_app (SlF.pf hv238 (fun _ => rfl)) (pf_app (SlF.pf hv242 (fun _ => rfl)) pf_nil))), fun h246 hS247 => ?_⟩
  have hS248 : Sep h246 (geL h.length) (c233 ++ (c237 ++ (c241 ++ ([Blk1 b1 [.int .i64 0, .nil, .nil, .nil] 29] ++ ([Blk1 b25 [.int .i64 s209.Generation, v211, v215,
      v219] 29] ++ (c207 ++ (c212 ++ (c216 ++ (c220 ++ ([])))))))))) := by simpa only [List.append_assoc, List.nil_append] using hS247
  simp only [f227, run_mv, f225, run_st, B0, reduceIte, reduceEqDiff]
  refine put2_stCx (us := [.int .i64 v229.Generation, v232, v236, v240]) rfl (cs' := [.int .i64 v229.Generation, v232, v236,
      v240]) (Sep.m3 hS248) hW rfl (all_c rfl (all_c (SlN.one hv234) (all_c (SlF.one hv238) (all_c (SlF.one hv242) all_n)))) (Nat.le_of_ble_eq_true rfl) rfl (fun h249 hS250 => ?_)
  simp only [run_mv, run_ops_nil, run_ret, B0, reduceIte, reduceEqDiff]
  have he := some_inj hF231
  subst he
  refine end_ret_m (mapM1 (res_cell (bb := b1) (oo := 0) (v := .agg [.int .i64 v229.Generation, v232, v236,
      v240]) (f225) ((xld_bs (Sep.bk _ _ _ hS250)).trans rfl)) (mapM1 (res_t (v := v206) (rfl)) (mapM1 (res_t (v := .bool true) (rfl)) mapM0))) ?_
  exact ⟨v232, c233, v236, c237, v240, c241, v206, c207, by first | trivial | rfl, hv234, hv238, hv242, hv208,
      (Sep.m3 (Sep.m3 (Sep.m3 (Sep.m3 (Sep.dc (Sep.m4 (Sep.dc (Sep.m4 (Sep.dc (Sep.m4 (Sep.dc (Sep.m3 (Sep.dc (hS250))))))))))))))⟩
theorem laws_sameBools_x {W : Nat → Bool} {h : Heap} (hW : ∀ b,
    (geL h.length) b → W b = true) (a_0 : List Bool) (b_1 : List Bool) (r : Bool) (hF : laws_sameBools a_0 b_1 = some r) : Ret E W 10 [lst cB a_0,
    lst cB b_1] h (fun v h' => cut h.length h' E.sz false 9 v = some (.bool r)) := by
  refine Ret.of (fn := x10) rfl (Run.of ?_)
  unfold laws_sameBools at hF
  have zf0 : argFr [lst cB a_0, lst cB b_1] 0 = lst cB a_0 := rfl
  have zf1 : argFr [lst cB a_0, lst cB b_1] 1 = lst cB b_1 := rfl
  generalize argFr [lst cB a_0, lst cB b_1] = fr0 at zf0 zf1 ⊢
  have hS : Sep h (geL h.length) [] := Sep.nil h
  simp only [x10, run_seq, run_reg, run_mv, run_ops_nil, x10_6, zf0, run_len, put1_some, xlen_lst, zf1, run_bin, xneq, run_cond, B0, reduceIte, reduceEqDiff]
  refine cond_split (t := (decide ((List.length a_0 : Int) ≠ (List.length b_1 : Int)))) (fun hc1 => ?_) (fun hc1 => ?_)
  · rw [iteT hc1] at hF
    simp only [run_seq, run_reg, run_mv, run_ops_nil, run_ret, B0, reduceIte, reduceEqDiff]
    have he := some_inj hF
    subst he
    simp only [end_ret1, B0, reduceIte, reduceEqDiff]
    exact rfl
  rw [iteF hc1] at hF
  simp only [run_skip, x10_5, run_seq, run_reg, zf0, run_mv, run_len, put1_some, xlen_lst, run_ops_nil, B0, reduceIte, reduceEqDiff]
  obtain ⟨oc4, hX6, hk7⟩ := jn_some hF
  simp only [x10_4]
  refine rangeL_j (σ := Unit) a_0 (fun i2 x3 _ => laws_sameBools_b1 b_1 i2 x3 ) (fun s fr' h' => fr' 0 = lst cB a_0 ∧ fr' 1 = lst cB b_1 ∧ Sep h' (geL h.length) ([])) hX6 ⟨zf0,
      zf1, hS⟩ (by simp only [B0, reduceIte, reduceEqDiff]) (by simp only [B0, reduceIte,
      reduceEqDiff]) (fun _ _ _ h => h) rfl rfl (fun _ _ _ _ h => h) (fun _ _ _ _ h => h) (fun _ _ _ _ h => h) (by decide) ?_ ?_
  · rintro i2 x3 _ fr16 h17 hx21 ⟨f19, f20, hS18⟩ f22 f23 oc5 hF8 hr9 Q10 hN11 hB15 hK12 hR13 hE14
    unfold laws_sameBools_b1 at hF8
    simp only [x10_2, run_seq, run_reg, f22, run_mv, run_ops_nil, x10_1, run_draw, f19, d4_mv, put1d_some, d4_ia, B0, reduceIte, reduceEqDiff]
    refine put1d_eq (v := .ref (cB x3) 0) (xia_lstN hx21 rfl) ?_
    simp only [d4_ld, B0, reduceIte, reduceEqDiff]
    refine put1d_eq (v := .bool x3) rfl ?_
    obtain ⟨x24, hx25, hF26⟩ := bind_some' hF8
    simp only [f20, d4_mv, put1d_some, d4_ia, B0, reduceIte, reduceEqDiff]
    refine put1d_eq (v := .ref (cB x24) 0) (xia_lst hx25 rfl) ?_
    simp only [d4_ld, B0, reduceIte, reduceEqDiff]
    refine put1d_eq (v := .bool x24) rfl ?_
    simp only [d4_eqb, put1d_some, xeqb_t, run_draw_nil, run_cond, B0, reduceIte, reduceEqDiff]
    refine cond_split (t := (!(x3 == x24))) (fun hc27 => ?_) (fun hc27 => ?_)
    · rw [iteT hc27] at hF26
      simp only [run_seq, run_reg, run_mv, run_ops_nil, run_ret, B0, reduceIte, reduceEqDiff]
      have e28 := some_inj hF26
      subst e28
      have ho29 := hr9 _ rfl
      have hk30 := hk7
      rw [ho29] at hk30
      dsimp only [jnO] at hk30
      apply hR13
      have he := some_inj hk30
      subst he
      simp only [end_ret1, B0, reduceIte, reduceEqDiff]
      exact rfl
    rw [iteF hc27] at hF26
    simp only [run_skip, run_nil, B0, reduceIte, reduceEqDiff]
    have e31 := some_inj hF26
    exact hN11 _ _ _ e31.symm ⟨f19, f20, hS18⟩ (f22) (f23)
  rintro _ fr33 h34 rfl ⟨f36, f37, hS35⟩
  dsimp only [jnO] at hk7
  unfold laws_sameBools_j1 at hk7
  simp only [run_seq, run_reg, run_mv, run_ops_nil, run_ret, B0, reduceIte, reduceEqDiff]
  have he := some_inj hk7
  subst he
  simp only [end_ret1, B0, reduceIte, reduceEqDiff]
  exact rfl
theorem laws_sameInts_x {W : Nat → Bool} {h : Heap} (hW : ∀ b,
    (geL h.length) b → W b = true) (a_0 : List Int) (b_1 : List Int) (r : Bool) (hF : laws_sameInts a_0 b_1 = some r) : Ret E W 37 [lst cI a_0,
    lst cI b_1] h (fun v h' => cut h.length h' E.sz false 9 v = some (.bool r)) := by
  refine Ret.of (fn := x37) rfl (Run.of ?_)
  unfold laws_sameInts at hF
  have zf0 : argFr [lst cI a_0, lst cI b_1] 0 = lst cI a_0 := rfl
  have zf1 : argFr [lst cI a_0, lst cI b_1] 1 = lst cI b_1 := rfl
  generalize argFr [lst cI a_0, lst cI b_1] = fr0 at zf0 zf1 ⊢
  have hS : Sep h (geL h.length) [] := Sep.nil h
  simp only [x37, run_seq, run_reg, run_mv, run_ops_nil, x37_6, zf0, run_len, put1_some, xlen_lst, zf1, run_bin, xneq, run_cond, B0, reduceIte, reduceEqDiff]
  refine cond_split (t := (decide ((List.length a_0 : Int) ≠ (List.length b_1 : Int)))) (fun hc1 => ?_) (fun hc1 => ?_)
  · rw [iteT hc1] at hF
    simp only [run_seq, run_reg, run_mv, run_ops_nil, run_ret, B0, reduceIte, reduceEqDiff]
    have he := some_inj hF
    subst he
    simp only [end_ret1, B0, reduceIte, reduceEqDiff]
    exact rfl
  rw [iteF hc1] at hF
  simp only [run_skip, x37_5, run_seq, run_reg, zf0, run_mv, run_len, put1_some, xlen_lst, run_ops_nil, B0, reduceIte, reduceEqDiff]
  obtain ⟨oc4, hX6, hk7⟩ := jn_some hF
  simp only [x37_4]
  refine rangeL_j (σ := Unit) a_0 (fun i2 x3 _ => laws_sameInts_b1 b_1 i2 x3 ) (fun s fr' h' => fr' 0 = lst cI a_0 ∧ fr' 1 = lst cI b_1 ∧ Sep h' (geL h.length) ([])) hX6 ⟨zf0,
      zf1, hS⟩ (by simp only [B0, reduceIte, reduceEqDiff]) (by simp only [B0, reduceIte,
      reduceEqDiff]) (fun _ _ _ h => h) rfl rfl (fun _ _ _ _ h => h) (fun _ _ _ _ h => h) (fun _ _ _ _ h => h) (by decide) ?_ ?_
  · rintro i2 x3 _ fr16 h17 hx21 ⟨f19, f20, hS18⟩ f22 f23 oc5 hF8 hr9 Q10 hN11 hB15 hK12 hR13 hE14
    unfold laws_sameInts_b1 at hF8
    simp only [x37_2, run_seq, run_reg, f22, run_mv, run_ops_nil, x37_1, run_draw, f19, d4_mv, put1d_some, d4_ia, B0, reduceIte, reduceEqDiff]
    refine put1d_eq (v := .ref (cI x3) 0) (xia_lstN hx21 rfl) ?_
    simp only [d4_ld, B0, reduceIte, reduceEqDiff]
    refine put1d_eq (v := .int .i64 x3) rfl ?_
    obtain ⟨x24, hx25, hF26⟩ := bind_some' hF8
    simp only [f20, d4_mv, put1d_some, d4_ia, B0, reduceIte, reduceEqDiff]
    refine put1d_eq (v := .ref (cI x24) 0) (xia_lst hx25 rfl) ?_
    simp only [d4_ld, B0, reduceIte, reduceEqDiff]
    refine put1d_eq (v := .int .i64 x24) rfl ?_
    simp only [d4_bin, put1d_some, xneq, run_draw_nil, run_cond, B0, reduceIte, reduceEqDiff]
    refine cond_split (t := (decide (x3 ≠ x24))) (fun hc27 => ?_) (fun hc27 => ?_)
    · rw [iteT hc27] at hF26
      simp only [run_seq, run_reg, run_mv, run_ops_nil, run_ret, B0, reduceIte, reduceEqDiff]
      have e28 := some_inj hF26
      subst e28
      have ho29 := hr9 _ rfl
      have hk30 := hk7
      rw [ho29] at hk30
      dsimp only [jnO] at hk30
      apply hR13
      have he := some_inj hk30
      subst he
      simp only [end_ret1, B0, reduceIte, reduceEqDiff]
      exact rfl
    rw [iteF hc27] at hF26
    simp only [run_skip, run_nil, B0, reduceIte, reduceEqDiff]
    have e31 := some_inj hF26
    exact hN11 _ _ _ e31.symm ⟨f19, f20, hS18⟩ (f22) (f23)
  rintro _ fr33 h34 rfl ⟨f36, f37, hS35⟩
  dsimp only [jnO] at hk7
  unfold laws_sameInts_j1 at hk7
  simp only [run_seq, run_reg, run_mv, run_ops_nil, run_ret, B0, reduceIte, reduceEqDiff]
  have he := some_inj hk7
  subst he
  simp only [end_ret1, B0, reduceIte, reduceEqDiff]
  exact rfl
theorem laws_sameReaders_x {W : Nat → Bool} {h : Heap} (hW : ∀ b,
    (geL h.length) b → W b = true) (v_0 : Readers_) (v_1 : Readers_) (r : Bool) (hF : laws_sameReaders v_0 v_1 = some r) : Ret E W 11 [.agg [.int .i64 v_0.Generation,
    lst Reader.cells v_0.Readers, lst cI v_0.Committed, lst cI v_0.Ends], .agg [.int .i64 v_1.Generation, lst Reader.cells v_1.Readers, lst cI v_1.Committed,
    lst cI v_1.Ends]] h (fun v h' => cut h.length h' E.sz false 9 v = some (.bool r)) := by
  refine Ret.of (fn := x11) rfl (Run.of ?_)
  unfold laws_sameReaders at hF
  have zf0 : argFr [.agg [.int .i64 v_0.Generation, lst Reader.cells v_0.Readers, lst cI v_0.Committed, lst cI v_0.Ends], .agg [.int .i64 v_1.Generation,
      lst Reader.cells v_1.Readers, lst cI v_1.Committed, lst cI v_1.Ends]] 0 = .agg [.int .i64 v_0.Generation, lst Reader.cells v_0.Readers, lst cI v_0.Committed,
      lst cI v_0.Ends] := rfl
  have zf1 : argFr [.agg [.int .i64 v_0.Generation, lst Reader.cells v_0.Readers, lst cI v_0.Committed, lst cI v_0.Ends], .agg [.int .i64 v_1.Generation,
      lst Reader.cells v_1.Readers, lst cI v_1.Committed, lst cI v_1.Ends]] 1 = .agg [.int .i64 v_1.Generation, lst Reader.cells v_1.Readers, lst cI v_1.Committed,
      lst cI v_1.Ends] := rfl
  generalize argFr [.agg [.int .i64 v_0.Generation, lst Reader.cells v_0.Readers, lst cI v_0.Committed, lst cI v_0.Ends], .agg [.int .i64 v_1.Generation,
      lst Reader.cells v_1.Readers, lst cI v_1.Committed, lst cI v_1.Ends]] = fr0 at zf0 zf1 ⊢
  have hS : Sep h (geL h.length) [] := Sep.nil h
  simp only [x11, run_seq, run_reg, run_box, zf0, B0, reduceIte, reduceEqDiff]
  refine put2_boxC (cs := [.int .i64 v_0.Generation, lst Reader.cells v_0.Readers, lst cI v_0.Committed, lst cI v_0.Ends]) hS rfl rfl rfl (fun b1 h2 hS3 => ?_)
  simp only [run_box, zf1, B0, reduceIte, reduceEqDiff]
  refine put2_boxC (cs := [.int .i64 v_1.Generation, lst Reader.cells v_1.Readers, lst cI v_1.Committed, lst cI v_1.Ends]) hS3 rfl rfl rfl (fun b5 h6 hS7 => ?_)
  simp only [run_mv, run_ops_nil, B0, reduceIte, reduceEqDiff]
  refine frz_stepC (Sep.m1 hS7) hW (by simp only [B0, reduceIte, reduceEqDiff]) (fun h9 hS10 => ?_)
  refine frz_stepC hS10 hW (by simp only [B0, reduceIte, reduceEqDiff]) (fun h11 hS12 => ?_)
  simp only [run_frz_nil, x11_8, run_seq, run_reg, run_fa, put1_some, Nat.reduceAdd, Nat.zero_add, Nat.add_zero, xfa_ref, run_ld, B0, reduceIte, reduceEqDiff]
  refine put1_eq (v := .int .i64 v_0.Generation) rfl ?_
  simp only [run_fa, put1_some, Nat.reduceAdd, Nat.zero_add, Nat.add_zero, xfa_ref, run_ld, B0, reduceIte, reduceEqDiff]
  refine put1_eq (v := .int .i64 v_1.Generation) rfl ?_
  simp only [run_bin, put1_some, xneq, run_mv, B0, reduceIte, reduceEqDiff]
  obtain ⟨v16, hx17, hF18⟩ := bind_some' hF
  refine ops_j 7 (fun fr' h' => Sep h' (geL h.length) ([]) ∧ fr' 20 = .bool v16 ∧ fr' 2 = .ref [.int .i64 v_0.Generation, lst Reader.cells v_0.Readers, lst cI v_0.Committed,
      lst cI v_0.Ends] 0 ∧ fr' 3 = .ref [.int .i64 v_1.Generation, lst Reader.cells v_1.Readers, lst cI v_1.Committed, lst cI v_1.Ends] 0) (fun Q13 hN14 => ?_) ?_
  · simp only [List.take_succ_cons, List.take_zero]
    simp only [run_guard (g := 13), B0, reduceIte, reduceEqDiff]
    refine guard_split (t := (decide (v_0.Generation ≠ v_1.Generation))) (fun hg15 => ?_) (fun hg15 => ?_)
    · rw [iteT hg15] at hx17
      simp only [hg15, run_guard (g := 13), guard_off', run_pick, put1_some, xpick_t, run_ops_nil, run_nil, B0, reduceIte, reduceEqDiff]
      have e19 := some_inj hx17
      exact hN14 _ _ ⟨hS12, by rw [← e19]; simp only [B0, reduceIte, reduceEqDiff], rfl, rfl⟩
    · rw [iteF hg15] at hx17
      simp only [hg15, run_guard (g := 13), guard_false, run_fa, put1_some, Nat.reduceAdd, Nat.zero_add, Nat.add_zero, xfa_ref, run_ld, B0, reduceIte, reduceEqDiff]
      refine put1_eq (v := lst cI v_0.Committed) rfl ?_
      simp only [hg15, run_guard (g := 13), guard_false, run_fa, put1_some, Nat.reduceAdd, Nat.zero_add, Nat.add_zero, xfa_ref, run_ld, B0, reduceIte, reduceEqDiff]
      refine put1_eq (v := lst cI v_1.Committed) rfl ?_
      obtain ⟨v20, hx21, hF22⟩ := bind_some' hx17
      simp only [hg15, run_guard (g := 13), guard_false, run_call, B0, reduceIte, reduceEqDiff]
      refine call1 rfl (mapM1 snap_lst (mapM1 snap_lst mapM0)) (laws_sameInts_x (fun b hb => decide_eq_true hb) v_0.Committed v_1.Committed v20 hx21) ?_
      simp only [hg15, run_guard (g := 13), guard_false, run_un, put1_some, xnot, run_pick, xpick_f, run_ops_nil, run_nil, B0, reduceIte, reduceEqDiff]
      have e23 := some_inj hF22
      exact hN14 _ _ ⟨hS12, by rw [← e23]; simp only [B0, reduceIte, reduceEqDiff], rfl, rfl⟩
  rintro fr24 h28 ⟨hS29, f25, f26, f27⟩
  simp only [List.drop_succ_cons, List.drop_zero]
  simp only [f25, run_mv, B0, reduceIte, reduceEqDiff]
  obtain ⟨v33, hx34, hF35⟩ := bind_some' hF18
  refine ops_j 7 (fun fr' h' => Sep h' (geL h.length) ([]) ∧ fr' 28 = .bool v33 ∧ fr' 2 = .ref [.int .i64 v_0.Generation, lst Reader.cells v_0.Readers, lst cI v_0.Committed,
      lst cI v_0.Ends] 0 ∧ fr' 3 = .ref [.int .i64 v_1.Generation, lst Reader.cells v_1.Readers, lst cI v_1.Committed, lst cI v_1.Ends] 0) (fun Q30 hN31 => ?_) ?_
  · simp only [List.take_succ_cons, List.take_zero]
    simp only [run_guard (g := 21), B0, reduceIte, reduceEqDiff]
    refine guard_split (t := v16) (fun hg32 => ?_) (fun hg32 => ?_)
    · rw [iteT hg32] at hx34
      simp only [hg32, run_guard (g := 21), guard_off', run_pick, put1_some, xpick_t, run_ops_nil, run_nil, B0, reduceIte, reduceEqDiff]
      have e36 := some_inj hx34
      exact hN31 _ _ ⟨hS29, by rw [← e36]; simp only [B0, reduceIte, reduceEqDiff], f26, f27⟩
    · rw [iteF hg32] at hx34
      simp only [hg32, run_guard (g := 21), guard_false, f26, run_fa, put1_some, Nat.reduceAdd, Nat.zero_add, Nat.add_zero, xfa_ref, run_ld, B0, reduceIte, reduceEqDiff]
      refine put1_eq (v := lst cI v_0.Ends) rfl ?_
      simp only [hg32, run_guard (g := 21), guard_false, f27, run_fa, put1_some, Nat.reduceAdd, Nat.zero_add, Nat.add_zero, xfa_ref, run_ld, B0, reduceIte, reduceEqDiff]
      refine put1_eq (v := lst cI v_1.Ends) rfl ?_
      obtain ⟨v37, hx38, hF39⟩ := bind_some' hx34
      simp only [hg32, run_guard (g := 21), guard_false, run_call, B0, reduceIte, reduceEqDiff]
      refine call1 rfl (mapM1 snap_lst (mapM1 snap_lst mapM0)) (laws_sameInts_x (fun b hb => decide_eq_true hb) v_0.Ends v_1.Ends v37 hx38) ?_
      simp only [hg32, run_guard (g := 21), guard_false, run_un, put1_some, xnot, run_pick, xpick_f, run_ops_nil, run_nil, B0, reduceIte, reduceEqDiff]
      have e40 := some_inj hF39
      exact hN31 _ _ ⟨hS29, by rw [← e40]; simp only [B0, reduceIte, reduceEqDiff], f26, f27⟩
  rintro fr41 h45 ⟨hS46, f42, f43, f44⟩
  simp only [List.drop_succ_cons, List.drop_zero]
  simp only [f42, run_mv, B0, reduceIte, reduceEqDiff]
  refine ops_j 8 (fun fr' h' => Sep h' (geL h.length) ([]) ∧ fr' 37 = .bool (v33 || (decide ((List.length v_0.Readers : Int) ≠
      (List.length v_1.Readers : Int)))) ∧ fr' 2 = .ref [.int .i64 v_0.Generation, lst Reader.cells v_0.Readers, lst cI v_0.Committed,
      lst cI v_0.Ends] 0 ∧ fr' 3 = .ref [.int .i64 v_1.Generation, lst Reader.cells v_1.Readers, lst cI v_1.Committed, lst cI v_1.Ends] 0) (fun Q47 hN48 => ?_) ?_
  · simp only [List.take_succ_cons, List.take_zero]
    simp only [run_guard (g := 29), B0, reduceIte, reduceEqDiff]
    refine guard_split (t := v33) (fun hg49 => ?_) (fun hg49 => ?_)
    · simp only [hg49, run_guard (g := 29), guard_off', run_pick, put1_some, xpick_t, run_ops_nil, run_nil, B0, reduceIte, reduceEqDiff]
      exact hN48 _ _ ⟨hS46, by rw [orT hg49]; simp only [B0, reduceIte, reduceEqDiff], f43, f44⟩
    · simp only [hg49, run_guard (g := 29), guard_false, f43, run_fa, put1_some, Nat.reduceAdd, Nat.zero_add, Nat.add_zero, xfa_ref, run_ld, B0, reduceIte, reduceEqDiff]
      refine put1_eq (v := lst Reader.cells v_0.Readers) rfl ?_
      simp only [hg49, run_guard (g := 29), guard_false, run_len, put1_some, xlen_lst, f44, run_fa, Nat.reduceAdd, Nat.zero_add, Nat.add_zero, xfa_ref, run_ld, B0, reduceIte,
          reduceEqDiff]
      refine put1_eq (v := lst Reader.cells v_1.Readers) rfl ?_
      simp only [hg49, run_guard (g := 29), guard_false, run_len, put1_some, xlen_lst, run_bin, xneq, run_pick, xpick_f, run_ops_nil, run_nil, B0, reduceIte, reduceEqDiff]
      exact hN48 _ _ ⟨hS46, by rw [orF hg49]; simp only [B0, reduceIte, reduceEqDiff], f43, f44⟩
  rintro fr50 h54 ⟨hS55, f51, f52, f53⟩
  simp only [List.drop_succ_cons, List.drop_zero]
  simp only [run_ops_nil, f51, run_cond, B0, reduceIte, reduceEqDiff]
  refine cond_split (t := (v33 || (decide ((List.length v_0.Readers : Int) ≠ (List.length v_1.Readers : Int))))) (fun hc56 => ?_) (fun hc56 => ?_)
  · rw [iteT hc56] at hF35
    simp only [run_seq, run_reg, run_mv, run_ops_nil, run_ret, B0, reduceIte, reduceEqDiff]
    have he := some_inj hF35
    subst he
    simp only [end_ret1, B0, reduceIte, reduceEqDiff]
    exact rfl
  rw [iteF hc56] at hF35
  simp only [run_skip, x11_7, run_seq, run_reg, f52, run_fa, put1_some, Nat.reduceAdd, Nat.zero_add, Nat.add_zero, xfa_ref, run_ld, B0, reduceIte, reduceEqDiff]
  refine put1_eq (v := lst Reader.cells v_0.Readers) rfl ?_
  simp only [run_len, put1_some, xlen_lst, run_mv, run_ops_nil, B0, reduceIte, reduceEqDiff]
  obtain ⟨oc59, hX61, hk62⟩ := jn_some hF35
  simp only [x11_6]
  refine rangeN_j (σ := Unit) (fun i57 _ => laws_sameReaders_b1 v_0 v_1 i57 ) (fun s fr' h' => fr' 2 = .ref [.int .i64 v_0.Generation, lst Reader.cells v_0.Readers,
      lst cI v_0.Committed, lst cI v_0.Ends] 0 ∧ fr' 3 = .ref [.int .i64 v_1.Generation, lst Reader.cells v_1.Readers, lst cI v_1.Committed,
      lst cI v_1.Ends] 0 ∧ Sep h' (geL h.length) ([])) hX61 ⟨f52, f53, hS55⟩ (by simp only [B0, reduceIte, reduceEqDiff]) (by simp only [B0, reduceIte,
      reduceEqDiff]) (fun _ _ _ h => h) rfl rfl (fun _ _ _ _ h => h) (fun _ _ _ _ h => h) (fun _ _ _ _ h => h) (by decide) ?_ ?_
  · rintro i57 _ fr71 h72 hx76 ⟨f74, f75, hS73⟩ f77 f78 oc60 hF63 hr64 Q65 hN66 hB70 hK67 hR68 hE69
    unfold laws_sameReaders_b1 at hF63
    simp only [x11_4, run_seq, run_reg, f77, run_mv, run_ops_nil, x11_3, f74, run_fa, put1_some, Nat.reduceAdd, Nat.zero_add, Nat.add_zero, xfa_ref, run_ld, B0, reduceIte,
        reduceEqDiff]
    refine put1_eq (v := lst Reader.cells v_0.Readers) rfl ?_
    obtain ⟨x79, hx80, hF81⟩ := bind_some' hF63
    simp only [run_mv, run_ia, B0, reduceIte, reduceEqDiff]
    refine put1_eq (v := .ref (Reader.cells x79) 0) (xia_lst hx80 rfl) ?_
    simp only [run_ld, B0, reduceIte, reduceEqDiff]
    refine put1_eq (v := .agg [.bool x79.In, .int .i64 x79.Generation, lst cI x79.Share, lst cI x79.Read]) rfl ?_
    simp only [run_new, B0, reduceIte, reduceEqDiff]
    refine put2_newC hS73 (fun b82 h83 hS84 => ?_)
    simp only [run_st, B0, reduceIte, reduceEqDiff]
    refine put2_stCx (us := [.bool x79.In, .int .i64 x79.Generation, lst cI x79.Share, lst cI x79.Read]) rfl (cs' := [.bool x79.In, .int .i64 x79.Generation, lst cI x79.Share,
        lst cI x79.Read]) hS84 hW rfl rfl (Nat.le_of_ble_eq_true rfl) rfl (fun h86 hS87 => ?_)
    simp only [run_ops_nil, B0, reduceIte, reduceEqDiff]
    refine frz_stepC hS87 hW (by simp only [B0, reduceIte, reduceEqDiff]) (fun h88 hS89 => ?_)
    simp only [run_frz_nil, x11_2, run_seq, run_reg, f75, run_fa, put1_some, Nat.reduceAdd, Nat.zero_add, Nat.add_zero, xfa_ref, run_ld, B0, reduceIte, reduceEqDiff]
    refine put1_eq (v := lst Reader.cells v_1.Readers) rfl ?_
    obtain ⟨x90, hx91, hF92⟩ := bind_some' hF81
    simp only [run_mv, run_ia, B0, reduceIte, reduceEqDiff]
    refine put1_eq (v := .ref (Reader.cells x90) 0) (xia_lst hx91 rfl) ?_
    simp only [run_ld, B0, reduceIte, reduceEqDiff]
    refine put1_eq (v := .agg [.bool x90.In, .int .i64 x90.Generation, lst cI x90.Share, lst cI x90.Read]) rfl ?_
    simp only [run_new, B0, reduceIte, reduceEqDiff]
    refine put2_newC hS89 (fun b93 h94 hS95 => ?_)
    simp only [run_st, B0, reduceIte, reduceEqDiff]
    refine put2_stCx (us := [.bool x90.In, .int .i64 x90.Generation, lst cI x90.Share, lst cI x90.Read]) rfl (cs' := [.bool x90.In, .int .i64 x90.Generation, lst cI x90.Share,
        lst cI x90.Read]) hS95 hW rfl rfl (Nat.le_of_ble_eq_true rfl) rfl (fun h97 hS98 => ?_)
    simp only [run_ops_nil, B0, reduceIte, reduceEqDiff]
    refine frz_stepC hS98 hW (by simp only [B0, reduceIte, reduceEqDiff]) (fun h99 hS100 => ?_)
    simp only [run_frz_nil, x11_1, run_seq, run_reg, run_fa, put1_some, Nat.reduceAdd, Nat.zero_add, Nat.add_zero, xfa_ref, run_ld, B0, reduceIte, reduceEqDiff]
    refine put1_eq (v := .bool x79.In) rfl ?_
    simp only [run_fa, put1_some, Nat.reduceAdd, Nat.zero_add, Nat.add_zero, xfa_ref, run_ld, B0, reduceIte, reduceEqDiff]
    refine put1_eq (v := .bool x90.In) rfl ?_
    simp only [run_eqb, put1_some, xeqb_t, run_mv, B0, reduceIte, reduceEqDiff]
    refine ops_j 6 (fun fr' h' => Sep h' (geL h.length) ([]) ∧ fr' 65 = .bool ((!(x79.In == x90.In)) || (decide
        (x79.Generation ≠ x90.Generation))) ∧ fr' 2 = .ref [.int .i64 v_0.Generation, lst Reader.cells v_0.Readers, lst cI v_0.Committed,
        lst cI v_0.Ends] 0 ∧ fr' 3 = .ref [.int .i64 v_1.Generation, lst Reader.cells v_1.Readers, lst cI v_1.Committed, lst cI v_1.Ends] 0 ∧ fr' 6 = .ref [.bool x79.In,
        .int .i64 x79.Generation, lst cI x79.Share, lst cI x79.Read] 0 ∧ fr' 7 = .ref [.bool x90.In, .int .i64 x90.Generation, lst cI x90.Share,
        lst cI x90.Read] 0 ∧ fr' 40 = .int .i64 (List.length v_0.Readers : Int) ∧ fr' 41 = .int .i64 (i57 : Int)) (fun Q101 hN102 => ?_) ?_
    · simp only [List.take_succ_cons, List.take_zero]
      simp only [run_guard (g := 59), B0, reduceIte, reduceEqDiff]
      refine guard_split (t := (!(x79.In == x90.In))) (fun hg103 => ?_) (fun hg103 => ?_)
      · simp only [hg103, run_guard (g := 59), guard_off', run_pick, put1_some, xpick_t, run_ops_nil, run_nil, B0, reduceIte, reduceEqDiff]
        exact hN102 _ _ ⟨hS100, by rw [orT hg103]; simp only [B0, reduceIte, reduceEqDiff], f74, f75, rfl, rfl, f78, f77⟩
      · simp only [hg103, run_guard (g := 59), guard_false, run_fa, put1_some, Nat.reduceAdd, Nat.zero_add, Nat.add_zero, xfa_ref, run_ld, B0, reduceIte, reduceEqDiff]
        refine put1_eq (v := .int .i64 x79.Generation) rfl ?_
        simp only [hg103, run_guard (g := 59), guard_false, run_fa, put1_some, Nat.reduceAdd, Nat.zero_add, Nat.add_zero, xfa_ref, run_ld, B0, reduceIte, reduceEqDiff]
        refine put1_eq (v := .int .i64 x90.Generation) rfl ?_
        simp only [hg103, run_guard (g := 59), guard_false, run_bin, put1_some, xneq, run_pick, xpick_f, run_ops_nil, run_nil, B0, reduceIte, reduceEqDiff]
        exact hN102 _ _ ⟨hS100, by rw [orF hg103]; simp only [B0, reduceIte, reduceEqDiff], f74, f75, rfl, rfl, f78, f77⟩
    rintro fr104 h112 ⟨hS113, f105, f106, f107, f108, f109, f110, f111⟩
    simp only [List.drop_succ_cons, List.drop_zero]
    simp only [f105, run_mv, B0, reduceIte, reduceEqDiff]
    obtain ⟨v117, hx118, hF119⟩ := bind_some' hF92
    refine ops_j 7 (fun fr' h' => Sep h' (geL h.length) ([]) ∧ fr' 73 = .bool v117 ∧ fr' 2 = .ref [.int .i64 v_0.Generation, lst Reader.cells v_0.Readers, lst cI v_0.Committed,
        lst cI v_0.Ends] 0 ∧ fr' 3 = .ref [.int .i64 v_1.Generation, lst Reader.cells v_1.Readers, lst cI v_1.Committed, lst cI v_1.Ends] 0 ∧ fr' 6 = .ref [.bool x79.In,
        .int .i64 x79.Generation, lst cI x79.Share, lst cI x79.Read] 0 ∧ fr' 7 = .ref [.bool x90.In, .int .i64 x90.Generation, lst cI x90.Share,
        lst cI x90.Read] 0 ∧ fr' 40 = .int .i64 (List.length v_0.Readers : Int) ∧ fr' 41 = .int .i64 (i57 : Int)) (fun Q114 hN115 => ?_) ?_
    · simp only [List.take_succ_cons, List.take_zero]
      simp only [run_guard (g := 66), B0, reduceIte, reduceEqDiff]
      refine guard_split (t := ((!(x79.In == x90.In)) || (decide (x79.Generation ≠ x90.Generation)))) (fun hg116 => ?_) (fun hg116 => ?_)
      · rw [iteT hg116] at hx118
        simp only [hg116, run_guard (g := 66), guard_off', run_pick, put1_some, xpick_t, run_ops_nil, run_nil, B0, reduceIte, reduceEqDiff]
        have e120 := some_inj hx118
        exact hN115 _ _ ⟨hS113, by rw [← e120]; simp only [B0, reduceIte, reduceEqDiff], f106, f107, f108, f109, f110, f111⟩
      · rw [iteF hg116] at hx118
        simp only [hg116, run_guard (g := 66), guard_false, f108, run_fa, put1_some, Nat.reduceAdd, Nat.zero_add, Nat.add_zero, xfa_ref, run_ld, B0, reduceIte, reduceEqDiff]
        refine put1_eq (v := lst cI x79.Share) rfl ?_
        simp only [hg116, run_guard (g := 66), guard_false, f109, run_fa, put1_some, Nat.reduceAdd, Nat.zero_add, Nat.add_zero, xfa_ref, run_ld, B0, reduceIte, reduceEqDiff]
        refine put1_eq (v := lst cI x90.Share) rfl ?_
        obtain ⟨v121, hx122, hF123⟩ := bind_some' hx118
        simp only [hg116, run_guard (g := 66), guard_false, run_call, B0, reduceIte, reduceEqDiff]
        refine call1 rfl (mapM1 snap_lst (mapM1 snap_lst mapM0)) (laws_sameInts_x (fun b hb => decide_eq_true hb) x79.Share x90.Share v121 hx122) ?_
        simp only [hg116, run_guard (g := 66), guard_false, run_un, put1_some, xnot, run_pick, xpick_f, run_ops_nil, run_nil, B0, reduceIte, reduceEqDiff]
        have e124 := some_inj hF123
        exact hN115 _ _ ⟨hS113, by rw [← e124]; simp only [B0, reduceIte, reduceEqDiff], f106, f107, f108, f109, f110, f111⟩
    rintro fr125 h133 ⟨hS134, f126, f127, f128, f129, f130, f131, f132⟩
    simp only [List.drop_succ_cons, List.drop_zero]
    simp only [f126, run_mv, B0, reduceIte, reduceEqDiff]
    obtain ⟨v138, hx139, hF140⟩ := bind_some' hF119
    refine ops_j 7 (fun fr' h' => Sep h' (geL h.length) ([]) ∧ fr' 81 = .bool v138 ∧ fr' 2 = .ref [.int .i64 v_0.Generation, lst Reader.cells v_0.Readers, lst cI v_0.Committed,
        lst cI v_0.Ends] 0 ∧ fr' 3 = .ref [.int .i64 v_1.Generation, lst Reader.cells v_1.Readers, lst cI v_1.Committed,
        lst cI v_1.Ends] 0 ∧ fr' 40 = .int .i64 (List.length v_0.Readers : Int) ∧ fr' 41 = .int .i64 (i57 : Int)) (fun Q135 hN136 => ?_) ?_
    · simp only [List.take_succ_cons, List.take_zero]
      simp only [run_guard (g := 74), B0, reduceIte, reduceEqDiff]
      refine guard_split (t := v117) (fun hg137 => ?_) (fun hg137 => ?_)
      · rw [iteT hg137] at hx139
        simp only [hg137, run_guard (g := 74), guard_off', run_pick, put1_some, xpick_t, run_ops_nil, run_nil, B0, reduceIte, reduceEqDiff]
        have e141 := some_inj hx139
        exact hN136 _ _ ⟨hS134, by rw [← e141]; simp only [B0, reduceIte, reduceEqDiff], f127, f128, f131, f132⟩
      · rw [iteF hg137] at hx139
        simp only [hg137, run_guard (g := 74), guard_false, f129, run_fa, put1_some, Nat.reduceAdd, Nat.zero_add, Nat.add_zero, xfa_ref, run_ld, B0, reduceIte, reduceEqDiff]
        refine put1_eq (v := lst cI x79.Read) rfl ?_
        simp only [hg137, run_guard (g := 74), guard_false, f130, run_fa, put1_some, Nat.reduceAdd, Nat.zero_add, Nat.add_zero, xfa_ref, run_ld, B0, reduceIte, reduceEqDiff]
        refine put1_eq (v := lst cI x90.Read) rfl ?_
        obtain ⟨v142, hx143, hF144⟩ := bind_some' hx139
        simp only [hg137, run_guard (g := 74), guard_false, run_call, B0, reduceIte, reduceEqDiff]
        refine call1 rfl (mapM1 snap_lst (mapM1 snap_lst mapM0)) (laws_sameInts_x (fun b hb => decide_eq_true hb) x79.Read x90.Read v142 hx143) ?_
        simp only [hg137, run_guard (g := 74), guard_false, run_un, put1_some, xnot, run_pick, xpick_f, run_ops_nil, run_nil, B0, reduceIte, reduceEqDiff]
        have e145 := some_inj hF144
        exact hN136 _ _ ⟨hS134, by rw [← e145]; simp only [B0, reduceIte, reduceEqDiff], f127, f128, f131, f132⟩
    rintro fr146 h152 ⟨hS153, f147, f148, f149, f150, f151⟩
    simp only [List.drop_succ_cons, List.drop_zero]
    simp only [run_ops_nil, f147, run_cond, B0, reduceIte, reduceEqDiff]
    refine cond_split (t := v138) (fun hc154 => ?_) (fun hc154 => ?_)
    · rw [iteT hc154] at hF140
      simp only [run_seq, run_reg, run_mv, run_ops_nil, run_ret, B0, reduceIte, reduceEqDiff]
      have e155 := some_inj hF140
      subst e155
      have ho156 := hr64 _ rfl
      have hk157 := hk62
      rw [ho156] at hk157
      dsimp only [jnO] at hk157
      apply hR68
      have he := some_inj hk157
      subst he
      simp only [end_ret1, B0, reduceIte, reduceEqDiff]
      exact rfl
    rw [iteF hc154] at hF140
    simp only [run_skip, run_nil, B0, reduceIte, reduceEqDiff]
    have e158 := some_inj hF140
    exact hN66 _ _ _ e158.symm ⟨f148, f149, hS153⟩ (f151) (f150)
  rintro _ fr160 h161 rfl ⟨f163, f164, hS162⟩
  dsimp only [jnO] at hk62
  unfold laws_sameReaders_j1 at hk62
  simp only [run_seq, run_reg, run_mv, run_ops_nil, run_ret, B0, reduceIte, reduceEqDiff]
  have he := some_inj hk62
  subst he
  simp only [end_ret1, B0, reduceIte, reduceEqDiff]
  exact rfl
end Go.Proofs.Ytdhibknhejhfaaa.X
namespace Go.Proofs.Ytdhibknhejhfaaa.X
open Go
open Nat (reduceEqDiff)
theorem impl_areMembers_x {W : Nat → Bool} {h : Heap} (hW : ∀ b,
    (geL h.length) b → W b = true) (list_0 : List Int) (many_1 : Int) (r : Bool) (hF : impl_areMembers list_0 many_1 = some r) : Ret E W 81 [lst cI list_0,
    .int .i64 many_1] h (fun v h' => cut h.length h' E.sz false 9 v = some (.bool r)) := by
  refine Ret.of (fn := x81) rfl (Run.of ?_)
  unfold impl_areMembers at hF
  have zf0 : argFr [lst cI list_0, .int .i64 many_1] 0 = lst cI list_0 := rfl
  have zf1 : argFr [lst cI list_0, .int .i64 many_1] 1 = .int .i64 many_1 := rfl
  generalize argFr [lst cI list_0, .int .i64 many_1] = fr0 at zf0 zf1 ⊢
  have hS : Sep h (geL h.length) [] := Sep.nil h
  simp only [x81, run_seq, run_reg, run_mv, run_ops_nil, x81_5, zf0, run_len, put1_some, xlen_lst, B0, reduceIte, reduceEqDiff]
  obtain ⟨oc3, hX5, hk6⟩ := jn_some hF
  simp only [x81_4]
  refine rangeL_j (σ := Unit) list_0 (fun i1 x2 _ => impl_areMembers_b1 list_0 many_1 i1 x2 )
      (fun s fr' h' => fr' 0 = lst cI list_0 ∧ fr' 1 = .int .i64 many_1 ∧ fr' 7 = lst cI list_0 ∧ Sep h' (geL h.length) ([])) hX5 ⟨zf0, zf1, rfl, hS⟩ (by simp only [B0, reduceIte,
      reduceEqDiff]) (by simp only [B0, reduceIte, reduceEqDiff]) (fun _ _ _ h => h) rfl rfl (fun _ _ _ _ h => h) (fun _ _ _ _ h => h) (fun _ _ _ _ h => h) (by decide) ?_ ?_
  · rintro i1 x2 _ fr15 h16 hx21 ⟨f18, f19, f20, hS17⟩ f22 f23 oc4 hF7 hr8 Q9 hN10 hB14 hK11 hR12 hE13
    unfold impl_areMembers_b1 at hF7
    simp only [x81_2, run_seq, run_reg, f22, run_mv, f20, run_ia, B0, reduceIte, reduceEqDiff]
    refine put1_eq (v := .ref (cI x2) 0) (xia_lstN hx21 rfl) ?_
    simp only [run_ld, B0, reduceIte, reduceEqDiff]
    refine put1_eq (v := .int .i64 x2) rfl ?_
    simp only [run_mv, run_ops_nil, x81_1, run_seq, run_reg, f19, run_bin, put1_some, xsub, run_call, B0, reduceIte, reduceEqDiff]
    refine call1 rfl (mapM1 snap_int (mapM1 snap_int (mapM1 snap_int mapM0))) (impl_in_x (fun b hb => decide_eq_true hb) x2 0 (IntKind.wrap .i64 (many_1 - 1)) _ rfl) ?_
    simp only [run_un, put1_some, xnot, run_mv, B0, reduceIte, reduceEqDiff]
    obtain ⟨v27, hx28, hF29⟩ := bind_some' hF7
    refine ops_j 12 (fun fr' h' => Sep h' (geL h.length) ([]) ∧ fr' 31 = .bool v27 ∧ fr' 0 = lst cI list_0 ∧ fr' 1 = .int .i64 many_1 ∧ fr' 7 = lst cI list_0 ∧ fr' 8 = .int .i64
        (List.length list_0 : Int) ∧ fr' 9 = .int .i64 (i1 : Int)) (fun Q24 hN25 => ?_) ?_
    · simp only [List.take_succ_cons, List.take_zero]
      simp only [run_guard (g := 19), B0, reduceIte, reduceEqDiff]
      refine guard_split (t := (!(impl_in x2 0 (IntKind.wrap .i64 (many_1 - 1))))) (fun hg26 => ?_) (fun hg26 => ?_)
      · rw [iteT hg26] at hx28
        simp only [hg26, run_guard (g := 19), guard_off', run_guard (g := 22), guard_tup, run_pick, put1_some, xpick_t, run_ops_nil, run_nil, B0, reduceIte, reduceEqDiff]
        have e30 := some_inj hx28
        exact hN25 _ _ ⟨hS17, by rw [← e30]; simp only [B0, reduceIte, reduceEqDiff], f18, f19, f20, f23, f22⟩
      · rw [iteF hg26] at hx28
        simp only [hg26, run_guard (g := 19), guard_false, run_mv, run_bin, put1_some, xgtr, B0, reduceIte, reduceEqDiff]
        obtain ⟨v34, hx35, hF36⟩ := bind_some' hx28
        refine ops_j 8 (fun fr' h' => Sep h' (geL h.length)
            ([]) ∧ fr' 30 = .bool v34 ∧ fr' 0 = lst cI list_0 ∧ fr' 1 = .int .i64 many_1 ∧ fr' 7 = lst cI list_0 ∧ fr' 8 = .int .i64
            (List.length list_0 : Int) ∧ fr' 9 = .int .i64 (i1 : Int) ∧ fr' 19 = .bool (!(impl_in x2 0 (IntKind.wrap .i64 (many_1 - 1))))) (fun Q31 hN32 => ?_) ?_
        · simp only [List.take_succ_cons, List.take_zero]
          simp only [run_guard (g := 22), B0, reduceIte, reduceEqDiff]
          refine guard_split (t := (decide ((0 : Int) < (i1 : Int)))) (fun hg33 => ?_) (fun hg33 => ?_)
          · rw [iteT hg33] at hx35
            obtain ⟨x37, hx38, hF39⟩ := bind_some' hx35
            simp only [hg33, run_guard (g := 22), guard_true, f18, run_mv, run_bin, put1_some, xsub, run_ia, B0, reduceIte, reduceEqDiff]
            refine put1_eq (v := .ref (cI x37) 0) (xia_lst hx38 rfl) ?_
            simp only [hg33, run_guard (g := 22), guard_true, run_ld, B0, reduceIte, reduceEqDiff]
            refine put1_eq (v := .int .i64 x37) rfl ?_
            simp only [hg33, run_guard (g := 22), guard_true, run_mv, run_bin, put1_some, xgeq, hg26, run_guard (g := 19), guard_false, run_pick, xpick_t, run_ops_nil, run_nil,
                B0, reduceIte, reduceEqDiff]
            have e40 := some_inj hF39
            exact hN32 _ _ ⟨hS17, by rw [← e40]; simp only [B0, reduceIte, reduceEqDiff], f18, f19, f20, f23, f22, by simp only [hg26, B0, reduceIte, reduceEqDiff]⟩
          · rw [iteF hg33] at hx35
            simp only [hg33, run_guard (g := 22), guard_off, hg26, run_guard (g := 19), guard_false, run_pick, put1_some, xpick_f, run_ops_nil, run_nil, B0, reduceIte,
                reduceEqDiff]
            have e41 := some_inj hx35
            exact hN32 _ _ ⟨hS17, by rw [← e41]; simp only [B0, reduceIte, reduceEqDiff], f18, f19, f20, f23, f22, by simp only [hg26, B0, reduceIte, reduceEqDiff]⟩
        rintro fr42 h50 ⟨hS51, f43, f44, f45, f46, f47, f48, f49⟩
        simp only [List.drop_succ_cons, List.drop_zero]
        simp only [f49, hg26, run_pick, put1_some, xpick_f, f43, run_ops_nil, run_nil, B0, reduceIte, reduceEqDiff]
        have e52 := some_inj hF36
        exact hN25 _ _ ⟨hS51, by rw [← e52]; simp only [B0, reduceIte, reduceEqDiff], f44, f45, f46, f47, f48⟩
    rintro fr53 h60 ⟨hS61, f54, f55, f56, f57, f58, f59⟩
    simp only [List.drop_succ_cons, List.drop_zero]
    simp only [run_ops_nil, f54, run_cond, B0, reduceIte, reduceEqDiff]
    refine cond_split (t := v27) (fun hc62 => ?_) (fun hc62 => ?_)
    · rw [iteT hc62] at hF29
      simp only [run_seq, run_reg, run_mv, run_ops_nil, run_ret, B0, reduceIte, reduceEqDiff]
      have e63 := some_inj hF29
      subst e63
      have ho64 := hr8 _ rfl
      have hk65 := hk6
      rw [ho64] at hk65
      dsimp only [jnO] at hk65
      apply hR12
      have he := some_inj hk65
      subst he
      simp only [end_ret1, B0, reduceIte, reduceEqDiff]
      exact rfl
    rw [iteF hc62] at hF29
    simp only [run_skip, run_nil, B0, reduceIte, reduceEqDiff]
    have e66 := some_inj hF29
    exact hN10 _ _ _ e66.symm ⟨f55, f56, f57, hS61⟩ (f59) (f58)
  rintro _ fr68 h69 rfl ⟨f71, f72, f73, hS70⟩
  dsimp only [jnO] at hk6
  unfold impl_areMembers_j1 at hk6
  simp only [run_seq, run_reg, run_mv, run_ops_nil, run_ret, B0, reduceIte, reduceEqDiff]
  have he := some_inj hk6
  subst he
  simp only [end_ret1, B0, reduceIte, reduceEqDiff]
  exact rfl
theorem slices_Equal_int_x {W : Nat → Bool} {h : Heap} (hW : ∀ b,
    (geL h.length) b → W b = true) (s1_0 : List Int) (s2_1 : List Int) (r : Bool) (hF : slices_Equal_int s1_0 s2_1 = some r) : Ret E W 82 [lst cI s1_0,
    lst cI s2_1] h (fun v h' => cut h.length h' E.sz false 9 v = some (.bool r)) := by
  refine Ret.of (fn := x82) rfl (Run.of ?_)
  unfold slices_Equal_int at hF
  have zf0 : argFr [lst cI s1_0, lst cI s2_1] 0 = lst cI s1_0 := rfl
  have zf1 : argFr [lst cI s1_0, lst cI s2_1] 1 = lst cI s2_1 := rfl
  generalize argFr [lst cI s1_0, lst cI s2_1] = fr0 at zf0 zf1 ⊢
  have hS : Sep h (geL h.length) [] := Sep.nil h
  simp only [x82, run_seq, run_reg, run_mv, run_ops_nil, x82_6, zf0, run_len, put1_some, xlen_lst, zf1, run_bin, xneq, run_cond, B0, reduceIte, reduceEqDiff]
  refine cond_split (t := (decide ((List.length s1_0 : Int) ≠ (List.length s2_1 : Int)))) (fun hc1 => ?_) (fun hc1 => ?_)
  · rw [iteT hc1] at hF
    simp only [run_seq, run_reg, run_mv, run_ops_nil, run_ret, B0, reduceIte, reduceEqDiff]
    have he := some_inj hF
    subst he
    simp only [end_ret1, B0, reduceIte, reduceEqDiff]
    exact rfl
  rw [iteF hc1] at hF
  simp only [run_skip, x82_5, run_seq, run_reg, zf0, run_mv, run_len, put1_some, xlen_lst, run_ops_nil, B0, reduceIte, reduceEqDiff]
  obtain ⟨oc4, hX6, hk7⟩ := jn_some hF
  simp only [x82_4]
  refine rangeL_j (σ := Unit) s1_0 (fun i2 x3 _ => slices_Equal_int_b1 s2_1 i2 x3 ) (fun s fr' h' => fr' 0 = lst cI s1_0 ∧ fr' 1 = lst cI s2_1 ∧ Sep h' (geL h.length)
      ([])) hX6 ⟨zf0, zf1, hS⟩ (by simp only [B0, reduceIte, reduceEqDiff]) (by simp only [B0, reduceIte,
      reduceEqDiff]) (fun _ _ _ h => h) rfl rfl (fun _ _ _ _ h => h) (fun _ _ _ _ h => h) (fun _ _ _ _ h => h) (by decide) ?_ ?_
  · rintro i2 x3 _ fr16 h17 hx21 ⟨f19, f20, hS18⟩ f22 f23 oc5 hF8 hr9 Q10 hN11 hB15 hK12 hR13 hE14
    unfold slices_Equal_int_b1 at hF8
    simp only [x82_2, run_seq, run_reg, f22, run_mv, run_ops_nil, x82_1, run_draw, f19, d4_mv, put1d_some, d4_ia, B0, reduceIte, reduceEqDiff]
    refine put1d_eq (v := .ref (cI x3) 0) (xia_lstN hx21 rfl) ?_
    simp only [d4_ld, B0, reduceIte, reduceEqDiff]
    refine put1d_eq (v := .int .i64 x3) rfl ?_
    obtain ⟨x24, hx25, hF26⟩ := bind_some' hF8
    simp only [f20, d4_mv, put1d_some, d4_ia, B0, reduceIte, reduceEqDiff]
    refine put1d_eq (v := .ref (cI x24) 0) (xia_lst hx25 rfl) ?_
    simp only [d4_ld, B0, reduceIte, reduceEqDiff]
    refine put1d_eq (v := .int .i64 x24) rfl ?_
    simp only [d4_bin, put1d_some, xneq, run_draw_nil, run_cond, B0, reduceIte, reduceEqDiff]
    refine cond_split (t := (decide (x3 ≠ x24))) (fun hc27 => ?_) (fun hc27 => ?_)
    · rw [iteT hc27] at hF26
      simp only [run_seq, run_reg, run_mv, run_ops_nil, run_ret, B0, reduceIte, reduceEqDiff]
      have e28 := some_inj hF26
      subst e28
      have ho29 := hr9 _ rfl
      have hk30 := hk7
      rw [ho29] at hk30
      dsimp only [jnO] at hk30
      apply hR13
      have he := some_inj hk30
      subst he
      simp only [end_ret1, B0, reduceIte, reduceEqDiff]
      exact rfl
    rw [iteF hc27] at hF26
    simp only [run_skip, run_nil, B0, reduceIte, reduceEqDiff]
    have e31 := some_inj hF26
    exact hN11 _ _ _ e31.symm ⟨f19, f20, hS18⟩ (f22) (f23)
  rintro _ fr33 h34 rfl ⟨f36, f37, hS35⟩
  dsimp only [jnO] at hk7
  unfold slices_Equal_int_j1 at hk7
  simp only [run_seq, run_reg, run_mv, run_ops_nil, run_ret, B0, reduceIte, reduceEqDiff]
  have he := some_inj hk7
  subst he
  simp only [end_ret1, B0, reduceIte, reduceEqDiff]
  exact rfl
theorem impl_areReaders_x {W : Nat → Bool} {h : Heap} (hW : ∀ b,
    (geL h.length) b → W b = true) (v_0 : Readers_) (r : Bool) (hF : impl_areReaders v_0 = some r) : Ret E W 55 [.agg [.int .i64 v_0.Generation, lst Reader.cells v_0.Readers,
    lst cI v_0.Committed, lst cI v_0.Ends]] h (fun v h' => cut h.length h' E.sz false 9 v = some (.bool r)) := by
  refine Ret.of (fn := x55) rfl (Run.of ?_)
  unfold impl_areReaders at hF
  have zf0 : argFr [.agg [.int .i64 v_0.Generation, lst Reader.cells v_0.Readers, lst cI v_0.Committed, lst cI v_0.Ends]] 0 = .agg [.int .i64 v_0.Generation,
      lst Reader.cells v_0.Readers, lst cI v_0.Committed, lst cI v_0.Ends] := rfl
  generalize argFr [.agg [.int .i64 v_0.Generation, lst Reader.cells v_0.Readers, lst cI v_0.Committed, lst cI v_0.Ends]] = fr0 at zf0 ⊢
  have hS : Sep h (geL h.length) [] := Sep.nil h
  simp only [x55, run_seq, run_reg, run_box, zf0, B0, reduceIte, reduceEqDiff]
  refine put2_boxC (cs := [.int .i64 v_0.Generation, lst Reader.cells v_0.Readers, lst cI v_0.Committed, lst cI v_0.Ends]) hS rfl rfl rfl (fun b1 h2 hS3 => ?_)
  simp only [run_mv, run_ops_nil, B0, reduceIte, reduceEqDiff]
  refine frz_stepC hS3 hW (by simp only [B0, reduceIte, reduceEqDiff]) (fun h5 hS6 => ?_)
  simp only [run_frz_nil, x55_19, run_seq, run_reg, run_fa, put1_some, Nat.reduceAdd, Nat.zero_add, Nat.add_zero, xfa_ref, run_ld, B0, reduceIte, reduceEqDiff]
  refine put1_eq (v := lst cI v_0.Ends) rfl ?_
  simp only [run_len, put1_some, xlen_lst, run_mv, run_ops_nil, x55_18, run_seq, run_reg, run_fa, Nat.reduceAdd, Nat.zero_add, Nat.add_zero, xfa_ref, run_ld, B0, reduceIte,
      reduceEqDiff]
  refine put1_eq (v := lst Reader.cells v_0.Readers) rfl ?_
  simp only [run_len, put1_some, xlen_lst, run_fa, Nat.reduceAdd, Nat.zero_add, Nat.add_zero, xfa_ref, run_ld, B0, reduceIte, reduceEqDiff]
  refine put1_eq (v := lst cI v_0.Ends) rfl ?_
  obtain ⟨v7, hx8, hF9⟩ := bind_some' hF
  simp only [run_call, B0, reduceIte, reduceEqDiff]
  refine call2 rfl hS6 (mapM1 snap_int (mapM1 snap_lst mapM0)) (impl_newReaders_x (fun b hb => decide_eq_true hb) (List.length v_0.Readers : Int) v_0.Ends v7 hx8) ?_
  rintro _ h22 ⟨v10, c11, v14, c15, v18, c19, rfl, hv12, hv16, hv20, hS23⟩
  refine ⟨_, free_t (all_c (free2_a (all_c rfl (all_c (SlN.free1 hv12) (all_c (SlF.free1 hv16) (all_c (SlF.free1 hv20) all_n))))) (all_c rfl all_n)), hS23,
      (pf_app (SlN.pf hv12 Reader.RO) (pf_app (SlF.pf hv16 (fun _ => rfl)) (pf_app (SlF.pf hv20 (fun _ => rfl)) pf_nil))), fun h24 hS25 => ?_⟩
  have hS26 : Sep h24 (geL h.length) (c11 ++ (c15 ++ (c19 ++ ([])))) := by simpa only [List.append_assoc, List.nil_append] using hS25
  simp only [run_mv, run_ext, put1_some, xext_0, xext_1, run_new, B0, reduceIte, reduceEqDiff]
  refine put2_newC hS26 (fun b27 h28 hS29 => ?_)
  simp only [run_st, B0, reduceIte, reduceEqDiff]
  refine put2_stCx (us := [.int .i64 v7.1.Generation, v10, v14, v18]) rfl (cs' := [.int .i64 v7.1.Generation, v10, v14,
      v18]) hS29 hW rfl (all_c rfl (all_c (SlN.one hv12) (all_c (SlF.one hv16) (all_c (SlF.one hv20) all_n)))) (Nat.le_of_ble_eq_true rfl) rfl (fun h31 hS32 => ?_)
  simp only [run_mv, run_ops_nil, B0, reduceIte, reduceEqDiff]
  refine frz_stepC hS32 hW (by simp only [B0, reduceIte, reduceEqDiff]) (fun h33 hS34 => ?_)
  simp only [run_frz_nil, x55_1, run_seq, run_reg, run_mv, run_un, put1_some, xnot, B0, reduceIte, reduceEqDiff]
  refine ops_j 6 (fun fr' h' => Sep h' (geL h.length) ([]) ∧ fr' 32 = .bool ((!v7.2) || (decide ((List.length v_0.Committed : Int) ≠
      (List.length v_0.Ends : Int)))) ∧ fr' 1 = .ref [.int .i64 v_0.Generation, lst Reader.cells v_0.Readers, lst cI v_0.Committed,
      lst cI v_0.Ends] 0 ∧ fr' 3 = .int .i64 (List.length v_0.Ends : Int)) (fun Q35 hN36 => ?_) ?_
  · simp only [List.take_succ_cons, List.take_zero]
    simp only [run_guard (g := 26), B0, reduceIte, reduceEqDiff]
    refine guard_split (t := (!v7.2)) (fun hg37 => ?_) (fun hg37 => ?_)
    · simp only [hg37, run_guard (g := 26), guard_off', run_pick, put1_some, xpick_t, run_ops_nil, run_nil, B0, reduceIte, reduceEqDiff]
      exact hN36 _ _ ⟨(Sep.dc ((Sep.dc ((Sep.dc (hS34)))))), by rw [orT hg37]; simp only [B0, reduceIte, reduceEqDiff], rfl, rfl⟩
    · simp only [hg37, run_guard (g := 26), guard_false, run_fa, put1_some, Nat.reduceAdd, Nat.zero_add, Nat.add_zero, xfa_ref, run_ld, B0, reduceIte, reduceEqDiff]
      refine put1_eq (v := lst cI v_0.Committed) rfl ?_
      simp only [hg37, run_guard (g := 26), guard_false, run_len, put1_some, xlen_lst, run_mv, run_bin, xneq, run_pick, xpick_f, run_ops_nil, run_nil, B0, reduceIte, reduceEqDiff]
      exact hN36 _ _ ⟨(Sep.dc ((Sep.dc ((Sep.dc (hS34)))))), by rw [orF hg37]; simp only [B0, reduceIte, reduceEqDiff], rfl, rfl⟩
  rintro fr38 h42 ⟨hS43, f39, f40, f41⟩
  simp only [List.drop_succ_cons, List.drop_zero]
  simp only [f39, run_mv, B0, reduceIte, reduceEqDiff]
  refine ops_j 5 (fun fr' h' => Sep h' (geL h.length) ([]) ∧ fr' 38 = .bool (((!v7.2) || (decide ((List.length v_0.Committed : Int) ≠ (List.length v_0.Ends : Int)))) ||
      (!(impl_in v_0.Generation 0 1000))) ∧ fr' 1 = .ref [.int .i64 v_0.Generation, lst Reader.cells v_0.Readers, lst cI v_0.Committed,
      lst cI v_0.Ends] 0 ∧ fr' 3 = .int .i64 (List.length v_0.Ends : Int)) (fun Q44 hN45 => ?_) ?_
  · simp only [List.take_succ_cons, List.take_zero]
    simp only [run_guard (g := 33), B0, reduceIte, reduceEqDiff]
    refine guard_split (t := ((!v7.2) || (decide ((List.length v_0.Committed : Int) ≠ (List.length v_0.Ends : Int))))) (fun hg46 => ?_) (fun hg46 => ?_)
    · simp only [hg46, run_guard (g := 33), guard_off', run_pick, put1_some, xpick_t, run_ops_nil, run_nil, B0, reduceIte, reduceEqDiff]
      exact hN45 _ _ ⟨hS43, by rw [orT hg46]; simp only [B0, reduceIte, reduceEqDiff], f40, f41⟩
    · simp only [hg46, run_guard (g := 33), guard_false, f40, run_fa, put1_some, Nat.reduceAdd, Nat.zero_add, Nat.add_zero, xfa_ref, run_ld, B0, reduceIte, reduceEqDiff]
      refine put1_eq (v := .int .i64 v_0.Generation) rfl ?_
      simp only [hg46, run_guard (g := 33), guard_false, run_call, B0, reduceIte, reduceEqDiff]
      refine call1 rfl (mapM1 snap_int (mapM1 snap_int (mapM1 snap_int mapM0))) (impl_in_x (fun b hb => decide_eq_true hb) v_0.Generation 0 1000 _ rfl) ?_
      simp only [hg46, run_guard (g := 33), guard_false, run_un, put1_some, xnot, run_pick, xpick_f, run_ops_nil, run_nil, B0, reduceIte, reduceEqDiff]
      exact hN45 _ _ ⟨hS43, by rw [orF hg46]; simp only [B0, reduceIte, reduceEqDiff], f40, f41⟩
  rintro fr47 h51 ⟨hS52, f48, f49, f50⟩
  simp only [List.drop_succ_cons, List.drop_zero]
  simp only [run_ops_nil, f48, run_cond, B0, reduceIte, reduceEqDiff]
  refine cond_split (t := (((!v7.2) || (decide ((List.length v_0.Committed : Int) ≠ (List.length v_0.Ends : Int)))) || (!(impl_in v_0.Generation 0 1000)))) (fun hc53 => ?_)
      (fun hc53 => ?_)
  · rw [iteT hc53] at hF9
    simp only [run_seq, run_reg, run_mv, run_ops_nil, run_ret, B0, reduceIte, reduceEqDiff]
    have he := some_inj hF9
    subst he
    simp only [end_ret1, B0, reduceIte, reduceEqDiff]
    exact rfl
  rw [iteF hc53] at hF9
  simp only [run_skip, x55_17, run_seq, run_reg, f49, run_fa, put1_some, Nat.reduceAdd, Nat.zero_add, Nat.add_zero, xfa_ref, run_ld, B0, reduceIte, reduceEqDiff]
  refine put1_eq (v := lst cI v_0.Committed) rfl ?_
  simp only [run_len, put1_some, xlen_lst, run_mv, run_ops_nil, B0, reduceIte, reduceEqDiff]
  obtain ⟨oc56, hX58, hk59⟩ := jn_some hF9
  simp only [x55_5]
  refine rangeL_j (σ := Unit) v_0.Committed (fun i54 x55 _ => impl_areReaders_b1 v_0 i54 x55 ) (fun s fr' h' => fr' 1 = .ref [.int .i64 v_0.Generation,
      lst Reader.cells v_0.Readers, lst cI v_0.Committed,
      lst cI v_0.Ends] 0 ∧ fr' 3 = .int .i64 (List.length v_0.Ends : Int) ∧ fr' 40 = lst cI v_0.Committed ∧ Sep h' (geL h.length) ([])) hX58 ⟨f49, f50, rfl,
      hS52⟩ (by simp only [B0, reduceIte, reduceEqDiff]) (by simp only [B0, reduceIte,
      reduceEqDiff]) (fun _ _ _ h => h) rfl rfl (fun _ _ _ _ h => h) (fun _ _ _ _ h => h) (fun _ _ _ _ h => h) (by decide) ?_ ?_
  · rintro i54 x55 _ fr68 h69 hx74 ⟨f71, f72, f73, hS70⟩ f75 f76 oc57 hF60 hr61 Q62 hN63 hB67 hK64 hR65 hE66
    unfold impl_areReaders_b1 at hF60
    simp only [x55_3, run_seq, run_reg, f75, run_mv, f73, run_ia, B0, reduceIte, reduceEqDiff]
    refine put1_eq (v := .ref (cI x55) 0) (xia_lstN hx74 rfl) ?_
    simp only [run_ld, B0, reduceIte, reduceEqDiff]
    refine put1_eq (v := .int .i64 x55) rfl ?_
    simp only [run_mv, run_ops_nil, x55_2, run_seq, run_reg, f71, run_fa, put1_some, Nat.reduceAdd, Nat.zero_add, Nat.add_zero, xfa_ref, run_ld, B0, reduceIte, reduceEqDiff]
    refine put1_eq (v := lst cI v_0.Ends) rfl ?_
    obtain ⟨x77, hx78, hF79⟩ := bind_some' hF60
    simp only [run_mv, run_ia, B0, reduceIte, reduceEqDiff]
    refine put1_eq (v := .ref (cI x77) 0) (xia_lst hx78 rfl) ?_
    simp only [run_ld, B0, reduceIte, reduceEqDiff]
    refine put1_eq (v := .int .i64 x77) rfl ?_
    simp only [run_call, B0, reduceIte, reduceEqDiff]
    refine call1 rfl (mapM1 snap_int (mapM1 snap_int (mapM1 snap_int mapM0))) (impl_in_x (fun b hb => decide_eq_true hb) x55 0 x77 _ rfl) ?_
    simp only [run_un, put1_some, xnot, run_ops_nil, run_cond, B0, reduceIte, reduceEqDiff]
    refine cond_split (t := (!(impl_in x55 0 x77))) (fun hc80 => ?_) (fun hc80 => ?_)
    · rw [iteT hc80] at hF79
      simp only [run_seq, run_reg, run_mv, run_ops_nil, run_ret, B0, reduceIte, reduceEqDiff]
      have e81 := some_inj hF79
      subst e81
      have ho82 := hr61 _ rfl
      have hk83 := hk59
      rw [ho82] at hk83
      dsimp only [jnO] at hk83
      apply hR65
      have he := some_inj hk83
      subst he
      simp only [end_ret1, B0, reduceIte, reduceEqDiff]
      exact rfl
    rw [iteF hc80] at hF79
    simp only [run_skip, run_nil, B0, reduceIte, reduceEqDiff]
    have e84 := some_inj hF79
    exact hN63 _ _ _ e84.symm ⟨f71, f72, f73, hS70⟩ (f75) (f76)
  rintro _ fr86 h87 rfl ⟨f89, f90, f91, hS88⟩
  dsimp only [jnO] at hk59
  unfold impl_areReaders_j3 at hk59
  simp only [x55_16, run_seq, run_reg, f89, run_fa, put1_some, Nat.reduceAdd, Nat.zero_add, Nat.add_zero, xfa_ref, run_ld, B0, reduceIte, reduceEqDiff]
  refine put1_eq (v := lst Reader.cells v_0.Readers) rfl ?_
  simp only [run_len, put1_some, xlen_lst, run_mv, run_ops_nil, B0, reduceIte, reduceEqDiff]
  obtain ⟨oc94, hX96, hk97⟩ := jn_some hk59
  simp only [x55_15]
  refine rangeL_j (σ := Unit) v_0.Readers (fun i92 x93 _ => impl_areReaders_b3 v_0 i92 x93 ) (fun s fr' h' => fr' 1 = .ref [.int .i64 v_0.Generation, lst Reader.cells v_0.Readers,
      lst cI v_0.Committed, lst cI v_0.Ends] 0 ∧ fr' 3 = .int .i64 (List.length v_0.Ends : Int) ∧ fr' 57 = lst Reader.cells v_0.Readers ∧ Sep h' (geL h.length) ([])) hX96 ⟨f89,
      f90, rfl, hS88⟩ (by simp only [B0, reduceIte, reduceEqDiff]) (by simp only [B0, reduceIte,
      reduceEqDiff]) (fun _ _ _ h => h) rfl rfl (fun _ _ _ _ h => h) (fun _ _ _ _ h => h) (fun _ _ _ _ h => h) (by decide) ?_ ?_
  · rintro i92 x93 _ fr106 h107 hx112 ⟨f109, f110, f111, hS108⟩ f113 f114 oc95 hF98 hr99 Q100 hN101 hB105 hK102 hR103 hE104
    unfold impl_areReaders_b3 at hF98
    simp only [x55_13, run_seq, run_reg, f113, run_mv, f111, run_ia, B0, reduceIte, reduceEqDiff]
    refine put1_eq (v := .ref (Reader.cells x93) 0) (xia_lstN hx112 rfl) ?_
    simp only [run_ld, B0, reduceIte, reduceEqDiff]
    refine put1_eq (v := .agg [.bool x93.In, .int .i64 x93.Generation, lst cI x93.Share, lst cI x93.Read]) rfl ?_
    simp only [run_new, B0, reduceIte, reduceEqDiff]
    refine put2_newC hS108 (fun b115 h116 hS117 => ?_)
    simp only [run_mv, run_st, B0, reduceIte, reduceEqDiff]
    refine put2_stCx (us := [.bool x93.In, .int .i64 x93.Generation, lst cI x93.Share, lst cI x93.Read]) rfl (cs' := [.bool x93.In, .int .i64 x93.Generation, lst cI x93.Share,
        lst cI x93.Read]) hS117 hW rfl rfl (Nat.le_of_ble_eq_true rfl) rfl (fun h119 hS120 => ?_)
    simp only [run_ops_nil, B0, reduceIte, reduceEqDiff]
    refine frz_stepC hS120 hW (by simp only [B0, reduceIte, reduceEqDiff]) (fun h121 hS122 => ?_)
    simp only [run_frz_nil, x55_12, run_seq, run_reg, run_fa, put1_some, Nat.reduceAdd, Nat.zero_add, Nat.add_zero, xfa_ref, run_ld, B0, reduceIte, reduceEqDiff]
    refine put1_eq (v := lst cI x93.Read) rfl ?_
    simp only [run_len, put1_some, xlen_lst, f110, run_mv, run_bin, xneq, B0, reduceIte, reduceEqDiff]
    obtain ⟨v126, hx127, hF128⟩ := bind_some' hF98
    refine ops_j 6 (fun fr' h' => Sep h' (geL h.length) ([]) ∧ fr' 75 = .bool v126 ∧ fr' 1 = .ref [.int .i64 v_0.Generation, lst Reader.cells v_0.Readers, lst cI v_0.Committed,
        lst cI v_0.Ends] 0 ∧ fr' 3 = .int .i64 (List.length v_0.Ends : Int) ∧ fr' 8 = .int .i64 (i92 : Int) ∧ fr' 9 = .ref [.bool x93.In, .int .i64 x93.Generation,
        lst cI x93.Share, lst cI x93.Read] 0 ∧ fr' 57 = lst Reader.cells v_0.Readers ∧ fr' 58 = .int .i64 (List.length v_0.Readers : Int) ∧ fr' 59 = .int .i64 (i92 : Int))
        (fun Q123 hN124 => ?_) ?_
    · simp only [List.take_succ_cons, List.take_zero]
      simp only [run_guard (g := 69), B0, reduceIte, reduceEqDiff]
      refine guard_split (t := (decide ((List.length x93.Read : Int) ≠ (List.length v_0.Ends : Int)))) (fun hg125 => ?_) (fun hg125 => ?_)
      · rw [iteT hg125] at hx127
        simp only [hg125, run_guard (g := 69), guard_off', run_pick, put1_some, xpick_t, run_ops_nil, run_nil, B0, reduceIte, reduceEqDiff]
        have e129 := some_inj hx127
        exact hN124 _ _ ⟨hS122, by rw [← e129]; simp only [B0, reduceIte, reduceEqDiff], f109, f110, rfl, rfl, f111, f114, f113⟩
      · rw [iteF hg125] at hx127
        simp only [hg125, run_guard (g := 69), guard_false, run_fa, put1_some, Nat.reduceAdd, Nat.zero_add, Nat.add_zero, xfa_ref, run_ld, B0, reduceIte, reduceEqDiff]
        refine put1_eq (v := lst cI x93.Share) rfl ?_
        obtain ⟨v130, hx131, hF132⟩ := bind_some' hx127
        simp only [hg125, run_guard (g := 69), guard_false, f110, run_mv, run_call, B0, reduceIte, reduceEqDiff]
        refine call1 rfl (mapM1 snap_lst (mapM1 snap_int mapM0)) (impl_areMembers_x (fun b hb => decide_eq_true hb) x93.Share (List.length v_0.Ends : Int) v130 hx131) ?_
        simp only [hg125, run_guard (g := 69), guard_false, run_un, put1_some, xnot, run_pick, xpick_f, run_ops_nil, run_nil, B0, reduceIte, reduceEqDiff]
        have e133 := some_inj hF132
        exact hN124 _ _ ⟨hS122, by rw [← e133]; simp only [B0, reduceIte, reduceEqDiff], f109, f110, rfl, rfl, f111, f114, f113⟩
    rintro fr134 h143 ⟨hS144, f135, f136, f137, f138, f139, f140, f141, f142⟩
    simp only [List.drop_succ_cons, List.drop_zero]
    simp only [f135, run_mv, B0, reduceIte, reduceEqDiff]
    refine ops_j 7 (fun fr' h' => Sep h' (geL h.length) ([]) ∧ fr' 83 = .bool (v126 || (!(impl_in x93.Generation 0 v_0.Generation))) ∧ fr' 1 = .ref [.int .i64 v_0.Generation,
        lst Reader.cells v_0.Readers, lst cI v_0.Committed,
        lst cI v_0.Ends] 0 ∧ fr' 3 = .int .i64 (List.length v_0.Ends : Int) ∧ fr' 8 = .int .i64 (i92 : Int) ∧ fr' 9 = .ref [.bool x93.In, .int .i64 x93.Generation,
        lst cI x93.Share, lst cI x93.Read] 0 ∧ fr' 57 = lst Reader.cells v_0.Readers ∧ fr' 58 = .int .i64 (List.length v_0.Readers : Int) ∧ fr' 59 = .int .i64 (i92 : Int))
        (fun Q145 hN146 => ?_) ?_
    · simp only [List.take_succ_cons, List.take_zero]
      simp only [run_guard (g := 76), B0, reduceIte, reduceEqDiff]
      refine guard_split (t := v126) (fun hg147 => ?_) (fun hg147 => ?_)
      · simp only [hg147, run_guard (g := 76), guard_off', run_pick, put1_some, xpick_t, run_ops_nil, run_nil, B0, reduceIte, reduceEqDiff]
        exact hN146 _ _ ⟨hS144, by rw [orT hg147]; simp only [B0, reduceIte, reduceEqDiff], f136, f137, f138, f139, f140, f141, f142⟩
      · simp only [hg147, run_guard (g := 76), guard_false, f139, run_fa, put1_some, Nat.reduceAdd, Nat.zero_add, Nat.add_zero, xfa_ref, run_ld, B0, reduceIte, reduceEqDiff]
        refine put1_eq (v := .int .i64 x93.Generation) rfl ?_
        simp only [hg147, run_guard (g := 76), guard_false, f136, run_fa, put1_some, Nat.reduceAdd, Nat.zero_add, Nat.add_zero, xfa_ref, run_ld, B0, reduceIte, reduceEqDiff]
        refine put1_eq (v := .int .i64 v_0.Generation) rfl ?_
        simp only [hg147, run_guard (g := 76), guard_false, run_call, B0, reduceIte, reduceEqDiff]
        refine call1 rfl (mapM1 snap_int (mapM1 snap_int (mapM1 snap_int mapM0))) (impl_in_x (fun b hb => decide_eq_true hb) x93.Generation 0 v_0.Generation _ rfl) ?_
        simp only [hg147, run_guard (g := 76), guard_false, run_un, put1_some, xnot, run_pick, xpick_f, run_ops_nil, run_nil, B0, reduceIte, reduceEqDiff]
        exact hN146 _ _ ⟨hS144, by rw [orF hg147]; simp only [B0, reduceIte, reduceEqDiff], f136, f137, f138, f139, f140, f141, f142⟩
    rintro fr148 h157 ⟨hS158, f149, f150, f151, f152, f153, f154, f155, f156⟩
    simp only [List.drop_succ_cons, List.drop_zero]
    simp only [f149, run_mv, B0, reduceIte, reduceEqDiff]
    refine ops_j 15 (fun fr' h' => Sep h' (geL h.length) ([]) ∧ fr' 99 = .bool ((v126 || (!(impl_in x93.Generation 0 v_0.Generation))) || ((!x93.In) && ((decide
        (x93.Generation ≠ 0)) || (decide ((0 : Int) < (List.length x93.Share : Int)))))) ∧ fr' 1 = .ref [.int .i64 v_0.Generation, lst Reader.cells v_0.Readers,
        lst cI v_0.Committed, lst cI v_0.Ends] 0 ∧ fr' 3 = .int .i64 (List.length v_0.Ends : Int) ∧ fr' 8 = .int .i64 (i92 : Int) ∧ fr' 9 = .ref [.bool x93.In,
        .int .i64 x93.Generation, lst cI x93.Share,
        lst cI x93.Read] 0 ∧ fr' 57 = lst Reader.cells v_0.Readers ∧ fr' 58 = .int .i64 (List.length v_0.Readers : Int) ∧ fr' 59 = .int .i64 (i92 : Int)) (fun Q159 hN160 => ?_) ?_
    · simp only [List.take_succ_cons, List.take_zero]
      simp only [run_guard (g := 84), B0, reduceIte, reduceEqDiff]
      refine guard_split (t := (v126 || (!(impl_in x93.Generation 0 v_0.Generation)))) (fun hg161 => ?_) (fun hg161 => ?_)
      · simp only [hg161, run_guard (g := 84), guard_off', run_guard (g := 88), guard_tup, run_guard (g := 92), run_pick, put1_some, xpick_t, run_ops_nil, run_nil, B0, reduceIte,
          reduceEqDiff]
        exact hN160 _ _ ⟨hS158, by rw [orT hg161]; simp only [B0, reduceIte, reduceEqDiff], f150, f151, f152, f153, f154, f155, f156⟩
      · simp only [hg161, run_guard (g := 84), guard_false, f153, run_fa, put1_some, Nat.reduceAdd, Nat.zero_add, Nat.add_zero, xfa_ref, run_ld, B0, reduceIte, reduceEqDiff]
        refine put1_eq (v := .bool x93.In) rfl ?_
        simp only [hg161, run_guard (g := 84), guard_false, run_un, put1_some, xnot, run_mv, B0, reduceIte, reduceEqDiff]
        refine ops_j 10 (fun fr' h' => Sep h' (geL h.length) ([]) ∧ fr' 98 = .bool ((!x93.In) && ((decide (x93.Generation ≠ 0)) || (decide ((0 : Int) <
            (List.length x93.Share : Int))))) ∧ fr' 1 = .ref [.int .i64 v_0.Generation, lst Reader.cells v_0.Readers, lst cI v_0.Committed,
            lst cI v_0.Ends] 0 ∧ fr' 3 = .int .i64 (List.length v_0.Ends : Int) ∧ fr' 8 = .int .i64 (i92 : Int) ∧ fr' 9 = .ref [.bool x93.In, .int .i64 x93.Generation,
            lst cI x93.Share, lst cI x93.Read] 0 ∧ fr' 57 = lst Reader.cells v_0.Readers ∧ fr' 58 = .int .i64 (List.length v_0.Readers : Int) ∧ fr' 59 = .int .i64
            (i92 : Int) ∧ fr' 84 = .bool (v126 || (!(impl_in x93.Generation 0 v_0.Generation)))) (fun Q162 hN163 => ?_) ?_
        · simp only [List.take_succ_cons, List.take_zero]
          simp only [run_guard (g := 88), B0, reduceIte, reduceEqDiff]
          refine guard_split (t := (!x93.In)) (fun hg164 => ?_) (fun hg164 => ?_)
          · simp only [hg164, run_guard (g := 88), guard_true, f153, run_fa, put1_some, Nat.reduceAdd, Nat.zero_add, Nat.add_zero, xfa_ref, run_ld, B0, reduceIte, reduceEqDiff]
            refine put1_eq (v := .int .i64 x93.Generation) rfl ?_
            simp only [hg164, run_guard (g := 88), guard_true, run_bin, put1_some, xneq, run_mv, B0, reduceIte, reduceEqDiff]
            refine ops_j 5 (fun fr' h' => Sep h' (geL h.length) ([]) ∧ fr' 97 = .bool ((decide (x93.Generation ≠ 0)) || (decide ((0 : Int) <
                (List.length x93.Share : Int)))) ∧ fr' 1 = .ref [.int .i64 v_0.Generation, lst Reader.cells v_0.Readers, lst cI v_0.Committed,
                lst cI v_0.Ends] 0 ∧ fr' 3 = .int .i64 (List.length v_0.Ends : Int) ∧ fr' 8 = .int .i64 (i92 : Int) ∧ fr' 9 = .ref [.bool x93.In, .int .i64 x93.Generation,
                lst cI x93.Share, lst cI x93.Read] 0 ∧ fr' 57 = lst Reader.cells v_0.Readers ∧ fr' 58 = .int .i64 (List.length v_0.Readers : Int) ∧ fr' 59 = .int .i64
                (i92 : Int) ∧ fr' 84 = .bool (v126 || (!(impl_in x93.Generation 0 v_0.Generation))) ∧ fr' 88 = .bool (!x93.In)) (fun Q165 hN166 => ?_) ?_
            · simp only [List.take_succ_cons, List.take_zero]
              simp only [run_guard (g := 92), B0, reduceIte, reduceEqDiff]
              refine guard_split (t := (decide (x93.Generation ≠ 0))) (fun hg167 => ?_) (fun hg167 => ?_)
              · simp only [hg167, run_guard (g := 92), guard_off', hg164, run_guard (g := 88), guard_true, run_pick, put1_some, xpick_t, run_ops_nil, run_nil, B0, reduceIte,
                  reduceEqDiff]
                exact hN166 _ _ ⟨hS158, by rw [orT hg167]; simp only [B0, reduceIte, reduceEqDiff], f150, f151, f152, f153, f154, f155, f156, by simp only [hg161, B0, reduceIte,
                    reduceEqDiff], by simp only [hg164, B0, reduceIte, reduceEqDiff]⟩
              · simp only [hg167, run_guard (g := 92), guard_false, f153, run_fa, put1_some, Nat.reduceAdd, Nat.zero_add, Nat.add_zero, xfa_ref, run_ld, B0, reduceIte,
                  reduceEqDiff]
                refine put1_eq (v := lst cI x93.Share) rfl ?_
                simp only [hg167, run_guard (g := 92), guard_false, run_len, put1_some, xlen_lst, run_bin, xgtr, hg164, run_guard (g := 88), guard_true, run_pick, xpick_f,
                    run_ops_nil, run_nil, B0, reduceIte, reduceEqDiff]
                exact hN166 _ _ ⟨hS158, by rw [orF hg167]; simp only [B0, reduceIte, reduceEqDiff], f150, f151, f152, f153, f154, f155, f156, by simp only [hg161, B0, reduceIte,
                    reduceEqDiff], by simp only [hg164, B0, reduceIte, reduceEqDiff]⟩
            rintro fr168 h179 ⟨hS180, f169, f170, f171, f172, f173, f174, f175, f176, f177, f178⟩
            simp only [List.drop_succ_cons, List.drop_zero]
            simp only [f177, hg161, run_guard (g := 84), guard_false, f178, hg164, run_pick, put1_some, xpick_t, f169, run_ops_nil, run_nil, B0, reduceIte, reduceEqDiff]
            exact hN163 _ _ ⟨hS180, by rw [andT hg164]; simp only [B0, reduceIte, reduceEqDiff], f170, f171, f172, f173, f174, f175, f176, by simp only [f177, hg161, B0,
                reduceIte, reduceEqDiff]⟩
          · simp only [hg164, run_guard (g := 88), guard_off, run_guard (g := 92), guard_tup, hg161, run_guard (g := 84), guard_false, run_pick, put1_some, xpick_f, run_ops_nil,
              run_nil, B0, reduceIte, reduceEqDiff]
            exact hN163 _ _ ⟨hS158, by rw [andF hg164]; simp only [B0, reduceIte, reduceEqDiff], f150, f151, f152, f153, f154, f155, f156, by simp only [hg161, B0, reduceIte,
                reduceEqDiff]⟩
        rintro fr181 h191 ⟨hS192, f182, f183, f184, f185, f186, f187, f188, f189, f190⟩
        simp only [List.drop_succ_cons, List.drop_zero]
        simp only [f190, hg161, run_pick, put1_some, xpick_f, f182, run_ops_nil, run_nil, B0, reduceIte, reduceEqDiff]
        exact hN160 _ _ ⟨hS192, by rw [orF hg161]; simp only [B0, reduceIte, reduceEqDiff], f183, f184, f185, f186, f187, f188, f189⟩
    rintro fr193 h202 ⟨hS203, f194, f195, f196, f197, f198, f199, f200, f201⟩
    simp only [List.drop_succ_cons, List.drop_zero]
    simp only [run_ops_nil, f194, run_cond, B0, reduceIte, reduceEqDiff]
    refine cond_split (t := ((v126 || (!(impl_in x93.Generation 0 v_0.Generation))) || ((!x93.In) && ((decide (x93.Generation ≠ 0)) || (decide ((0 : Int) <
        (List.length x93.Share : Int))))))) (fun hc204 => ?_) (fun hc204 => ?_)
    · rw [iteT hc204] at hF128
      simp only [run_seq, run_reg, run_mv, run_ops_nil, run_ret, B0, reduceIte, reduceEqDiff]
      have e205 := some_inj hF128
      subst e205
      have ho206 := hr99 _ rfl
      have hk207 := hk97
      rw [ho206] at hk207
      dsimp only [jnO] at hk207
      apply hR103
      have he := some_inj hk207
      subst he
      simp only [end_ret1, B0, reduceIte, reduceEqDiff]
      exact rfl
    rw [iteF hc204] at hF128
    simp only [run_skip, x55_11, run_seq, run_reg, f198, run_fa, put1_some, Nat.reduceAdd, Nat.zero_add, Nat.add_zero, xfa_ref, run_ld, B0, reduceIte, reduceEqDiff]
    refine put1_eq (v := lst cI x93.Read) rfl ?_
    simp only [run_len, put1_some, xlen_lst, run_mv, run_ops_nil, B0, reduceIte, reduceEqDiff]
    obtain ⟨oc210, hX212, hk213⟩ := jn_some hF128
    simp only [x55_9]
    refine rangeL_j (σ := Unit) x93.Read (fun i208 x209 _ => impl_areReaders_b2 v_0 x93 i208 x209 ) (fun s fr' h' => fr' 1 = .ref [.int .i64 v_0.Generation,
        lst Reader.cells v_0.Readers, lst cI v_0.Committed,
        lst cI v_0.Ends] 0 ∧ fr' 3 = .int .i64 (List.length v_0.Ends : Int) ∧ fr' 8 = .int .i64 (i92 : Int) ∧ fr' 9 = .ref [.bool x93.In, .int .i64 x93.Generation,
        lst cI x93.Share, lst cI x93.Read] 0 ∧ fr' 57 = lst Reader.cells v_0.Readers ∧ fr' 58 = .int .i64 (List.length v_0.Readers : Int) ∧ fr' 59 = .int .i64
        (i92 : Int) ∧ fr' 101 = lst cI x93.Read ∧ Sep h' (geL h.length) ([])) hX212 ⟨f195, f196, f197, f198, f199, f200, f201, rfl, hS203⟩ (by simp only [B0, reduceIte,
        reduceEqDiff]) (by simp only [B0, reduceIte, reduceEqDiff]) (fun _ _ _ h => h) rfl rfl (fun _ _ _ _ h => h) (fun _ _ _ _ h => h) (fun _ _ _ _ h => h) (by decide) ?_ ?_
    · rintro i208 x209 _ fr222 h223 hx233 ⟨f225, f226, f227, f228, f229, f230, f231, f232, hS224⟩ f234 f235 oc211 hF214 hr215 Q216 hN217 hB221 hK218 hR219 hE220
      unfold impl_areReaders_b2 at hF214
      simp only [x55_7, run_seq, run_reg, f234, run_mv, f232, run_ia, B0, reduceIte, reduceEqDiff]
      refine put1_eq (v := .ref (cI x209) 0) (xia_lstN hx233 rfl) ?_
      simp only [run_ld, B0, reduceIte, reduceEqDiff]
      refine put1_eq (v := .int .i64 x209) rfl ?_
      simp only [run_mv, run_ops_nil, x55_6, run_seq, run_reg, f225, run_fa, put1_some, Nat.reduceAdd, Nat.zero_add, Nat.add_zero, xfa_ref, run_ld, B0, reduceIte, reduceEqDiff]
      refine put1_eq (v := lst cI v_0.Ends) rfl ?_
      obtain ⟨x236, hx237, hF238⟩ := bind_some' hF214
      simp only [run_mv, run_ia, B0, reduceIte, reduceEqDiff]
      refine put1_eq (v := .ref (cI x236) 0) (xia_lst hx237 rfl) ?_
      simp only [run_ld, B0, reduceIte, reduceEqDiff]
      refine put1_eq (v := .int .i64 x236) rfl ?_
      simp only [run_call, B0, reduceIte, reduceEqDiff]
      refine call1 rfl (mapM1 snap_int (mapM1 snap_int (mapM1 snap_int mapM0))) (impl_in_x (fun b hb => decide_eq_true hb) x209 0 x236 _ rfl) ?_
      simp only [run_un, put1_some, xnot, run_mv, B0, reduceIte, reduceEqDiff]
      obtain ⟨v242, hx243, hF244⟩ := bind_some' hF238
      refine ops_j 10 (fun fr' h' => Sep h' (geL h.length) ([]) ∧ fr' 126 = .bool v242 ∧ fr' 1 = .ref [.int .i64 v_0.Generation, lst Reader.cells v_0.Readers,
          lst cI v_0.Committed, lst cI v_0.Ends] 0 ∧ fr' 3 = .int .i64 (List.length v_0.Ends : Int) ∧ fr' 8 = .int .i64 (i92 : Int) ∧ fr' 9 = .ref [.bool x93.In,
          .int .i64 x93.Generation, lst cI x93.Share,
          lst cI x93.Read] 0 ∧ fr' 57 = lst Reader.cells v_0.Readers ∧ fr' 58 = .int .i64 (List.length v_0.Readers : Int) ∧ fr' 59 = .int .i64
          (i92 : Int) ∧ fr' 101 = lst cI x93.Read ∧ fr' 102 = .int .i64 (List.length x93.Read : Int) ∧ fr' 103 = .int .i64 (i208 : Int)) (fun Q239 hN240 => ?_) ?_
      · simp only [List.take_succ_cons, List.take_zero]
        simp only [run_guard (g := 116), B0, reduceIte, reduceEqDiff]
        refine guard_split (t := (!(impl_in x209 0 x236))) (fun hg241 => ?_) (fun hg241 => ?_)
        · rw [iteT hg241] at hx243
          simp only [hg241, run_guard (g := 116), guard_off', run_guard (g := 119), guard_tup, run_pick, put1_some, xpick_t, run_ops_nil, run_nil, B0, reduceIte, reduceEqDiff]
          have e245 := some_inj hx243
          exact hN240 _ _ ⟨hS224, by rw [← e245]; simp only [B0, reduceIte, reduceEqDiff], f225, f226, f227, f228, f229, f230, f231, f232, f235, f234⟩
        · rw [iteF hg241] at hx243
          simp only [hg241, run_guard (g := 116), guard_false, run_mv, run_bin, put1_some, xneq, B0, reduceIte, reduceEqDiff]
          obtain ⟨v249, hx250, hF251⟩ := bind_some' hx243
          refine ops_j 6 (fun fr' h' => Sep h' (geL h.length) ([]) ∧ fr' 125 = .bool v249 ∧ fr' 1 = .ref [.int .i64 v_0.Generation, lst Reader.cells v_0.Readers,
              lst cI v_0.Committed, lst cI v_0.Ends] 0 ∧ fr' 3 = .int .i64 (List.length v_0.Ends : Int) ∧ fr' 8 = .int .i64 (i92 : Int) ∧ fr' 9 = .ref [.bool x93.In,
              .int .i64 x93.Generation, lst cI x93.Share,
              lst cI x93.Read] 0 ∧ fr' 57 = lst Reader.cells v_0.Readers ∧ fr' 58 = .int .i64 (List.length v_0.Readers : Int) ∧ fr' 59 = .int .i64
              (i92 : Int) ∧ fr' 101 = lst cI x93.Read ∧ fr' 102 = .int .i64 (List.length x93.Read : Int) ∧ fr' 103 = .int .i64 (i208 : Int) ∧ fr' 116 = .bool
              (!(impl_in x209 0 x236))) (fun Q246 hN247 => ?_) ?_
          · simp only [List.take_succ_cons, List.take_zero]
            simp only [run_guard (g := 119), B0, reduceIte, reduceEqDiff]
            refine guard_split (t := (decide (x209 ≠ 0))) (fun hg248 => ?_) (fun hg248 => ?_)
            · rw [iteT hg248] at hx250
              simp only [hg248, run_guard (g := 119), guard_true, f228, run_fa, put1_some, Nat.reduceAdd, Nat.zero_add, Nat.add_zero, xfa_ref, run_ld, B0, reduceIte, reduceEqDiff]
              refine put1_eq (v := lst cI x93.Share) rfl ?_
              obtain ⟨v252, hx253, hF254⟩ := bind_some' hx250
              simp only [hg248, run_guard (g := 119), guard_true, run_mv, run_call, B0, reduceIte, reduceEqDiff]
              refine call1 rfl (mapM1 snap_lst (mapM1 snap_int mapM0)) (slices_Contains_int_x (fun b hb => decide_eq_true hb) x93.Share (i208 : Int) v252 hx253) ?_
              simp only [hg248, run_guard (g := 119), guard_true, run_un, put1_some, xnot, hg241, run_guard (g := 116), guard_false, run_pick, xpick_t, run_ops_nil, run_nil, B0,
                  reduceIte, reduceEqDiff]
              have e255 := some_inj hF254
              exact hN247 _ _ ⟨hS224, by rw [← e255]; simp only [B0, reduceIte, reduceEqDiff], f225, f226, f227, f228, f229, f230, f231, f232, f235, f234, by simp only [hg241, B0,
                  reduceIte, reduceEqDiff]⟩
            · rw [iteF hg248] at hx250
              simp only [hg248, run_guard (g := 119), guard_off, hg241, run_guard (g := 116), guard_false, run_pick, put1_some, xpick_f, run_ops_nil, run_nil, B0, reduceIte,
                  reduceEqDiff]
              have e256 := some_inj hx250
              exact hN247 _ _ ⟨hS224, by rw [← e256]; simp only [B0, reduceIte, reduceEqDiff], f225, f226, f227, f228, f229, f230, f231, f232, f235, f234, by simp only [hg241, B0,
                  reduceIte, reduceEqDiff]⟩
          rintro fr257 h270 ⟨hS271, f258, f259, f260, f261, f262, f263, f264, f265, f266, f267, f268, f269⟩
          simp only [List.drop_succ_cons, List.drop_zero]
          simp only [f269, hg241, run_pick, put1_some, xpick_f, f258, run_ops_nil, run_nil, B0, reduceIte, reduceEqDiff]
          have e272 := some_inj hF251
          exact hN240 _ _ ⟨hS271, by rw [← e272]; simp only [B0, reduceIte, reduceEqDiff], f259, f260, f261, f262, f263, f264, f265, f266, f267, f268⟩
      rintro fr273 h285 ⟨hS286, f274, f275, f276, f277, f278, f279, f280, f281, f282, f283, f284⟩
      simp only [List.drop_succ_cons, List.drop_zero]
      simp only [run_ops_nil, f274, run_cond, B0, reduceIte, reduceEqDiff]
      refine cond_split (t := v242) (fun hc287 => ?_) (fun hc287 => ?_)
      · rw [iteT hc287] at hF244
        simp only [run_seq, run_reg, run_mv, run_ops_nil, run_ret, B0, reduceIte, reduceEqDiff]
        have e288 := some_inj hF244
        subst e288
        have ho289 := hr215 _ rfl
        have hk290 := hk213
        rw [ho289] at hk290
        dsimp only [jnO] at hk290
        apply hR219
        have e291 := some_inj hk290
        subst e291
        have ho292 := hr99 _ rfl
        have hk293 := hk97
        rw [ho292] at hk293
        dsimp only [jnO] at hk293
        apply hR103
        have he := some_inj hk293
        subst he
        simp only [end_ret1, B0, reduceIte, reduceEqDiff]
        exact rfl
      rw [iteF hc287] at hF244
      simp only [run_skip, run_nil, B0, reduceIte, reduceEqDiff]
      have e294 := some_inj hF244
      exact hN217 _ _ _ e294.symm ⟨f275, f276, f277, f278, f279, f280, f281, f282, hS286⟩ (f284) (f283)
    rintro _ fr296 h297 rfl ⟨f299, f300, f301, f302, f303, f304, f305, f306, hS298⟩
    dsimp only [jnO] at hk213
    unfold impl_areReaders_j1 at hk213
    simp only [x55_10, run_seq, run_draw, f302, d4_fa, put1d_some, Nat.reduceAdd, Nat.zero_add, Nat.add_zero, xfa_ref, d4_ld, B0, reduceIte, reduceEqDiff]
    refine put1d_eq (v := .bool x93.In) rfl ?_
    simp only [d4_mv, put1d_some, B0, reduceIte, reduceEqDiff]
    refine draw_j 6 (fun fr' h' => Sep h' (geL h.length) ([]) ∧ fr' 136 = .bool (x93.In && (decide (x93.Generation = v_0.Generation))) ∧ fr' 1 = .ref [.int .i64 v_0.Generation,
        lst Reader.cells v_0.Readers, lst cI v_0.Committed,
        lst cI v_0.Ends] 0 ∧ fr' 3 = .int .i64 (List.length v_0.Ends : Int) ∧ fr' 8 = .int .i64 (i92 : Int) ∧ fr' 9 = .ref [.bool x93.In, .int .i64 x93.Generation,
        lst cI x93.Share, lst cI x93.Read] 0 ∧ fr' 57 = lst Reader.cells v_0.Readers ∧ fr' 58 = .int .i64 (List.length v_0.Readers : Int) ∧ fr' 59 = .int .i64 (i92 : Int)) rfl
        (fun Q307 hN308 => ?_) ?_
    · simp only [List.take_succ_cons, List.take_zero]
      simp only [run_guardd (g := 130), B0, reduceIte, reduceEqDiff]
      refine guardd_split (t := x93.In) (fun hg309 => ?_) (fun hg309 => ?_)
      · simp only [hg309, run_guardd (g := 130), guardd_true, f302, d4_fa, put1d_some, Nat.reduceAdd, Nat.zero_add, Nat.add_zero, xfa_ref, d4_ld, B0, reduceIte, reduceEqDiff]
        refine put1d_eq (v := .int .i64 x93.Generation) rfl ?_
        simp only [hg309, run_guardd (g := 130), guardd_true, f299, d4_fa, put1d_some, Nat.reduceAdd, Nat.zero_add, Nat.add_zero, xfa_ref, d4_ld, B0, reduceIte, reduceEqDiff]
        refine put1d_eq (v := .int .i64 v_0.Generation) rfl ?_
        simp only [hg309, run_guardd (g := 130), guardd_true, d4_bin, put1d_some, xeql, d4_pick, xpick_t, run_draw_nil, run_nil, B0, reduceIte, reduceEqDiff]
        exact hN308 _ _ ⟨hS298, by rw [andT hg309]; simp only [B0, reduceIte, reduceEqDiff], f299, f300, f301, by simp only [f302, B0, reduceIte, reduceEqDiff, hg309], f303, f304,
            f305⟩
      · simp only [hg309, run_guardd (g := 130), guardd_off, d4_pick, put1d_some, xpick_f, run_draw_nil, run_nil, B0, reduceIte, reduceEqDiff]
        exact hN308 _ _ ⟨hS298, by rw [andF hg309]; simp only [B0, reduceIte, reduceEqDiff], f299, f300, f301, by simp only [f302, B0, reduceIte, reduceEqDiff, hg309], f303, f304,
            f305⟩
    rintro fr310 h319 ⟨hS320, f311, f312, f313, f314, f315, f316, f317, f318⟩
    simp only [List.drop_succ_cons, List.drop_zero]
    simp only [f311, d4_mv, put1d_some, B0, reduceIte, reduceEqDiff]
    simp only [run_guardd (g := 137), B0, reduceIte, reduceEqDiff]
    refine guardd_split (t := (x93.In && (decide (x93.Generation = v_0.Generation)))) (fun hg321 => ?_) (fun hg321 => ?_)
    · rw [iteT hg321] at hk213
      simp only [hg321, run_guardd (g := 137), guardd_true, f315, d1_fa, put1d_some, Nat.reduceAdd, Nat.zero_add, Nat.add_zero, xfa_ref, d1_ld, ldd_ref, B0, reduceIte,
          reduceEqDiff]
      refine put1d_eq (v := lst cI x93.Share) rfl ?_
      simp only [hg321, run_guardd (g := 137), guardd_true, f312, d4_ld, B0, reduceIte, reduceEqDiff]
      refine put1d_eq (v := .agg [.int .i64 v_0.Generation, lst Reader.cells v_0.Readers, lst cI v_0.Committed, lst cI v_0.Ends]) rfl ?_
      obtain ⟨v322, hx323, hF324⟩ := bind_some' hk213
      simp only [hg321, run_guardd (g := 137), guardd_true, f314, d4_mv, put1d_some, run_d2_call, B0, reduceIte, reduceEqDiff]
      refine call2q rfl hS320 (mapM1 (snap_agg (mapM1 snap_int (mapM1 snap_lst (mapM1 snap_lst (mapM1 snap_lst mapM0))))) (mapM1 snap_int mapM0)) (impl_Readers_shareOf_x
          (fun b hb => decide_eq_true hb) v_0 (i92 : Int) v322 hx323) ?_
      rintro v325 h329 ⟨_, c326, rfl, hv327, hS330⟩
      refine ⟨_, free_1 (SlF.free1 hv327), hS330, (pf_app (SlF.pf hv327 (fun _ => rfl)) pf_nil), fun h331 hS332 => ?_⟩
      have hS333 : Sep h331 (geL h.length) (c326 ++ ([])) := by simpa only [List.append_assoc, List.nil_append] using hS332
      obtain ⟨v334, hx335, hF336⟩ := bind_some' hF324
      simp only [hg321, run_guardd (g := 137), guardd_true, run_d3_call, B0, reduceIte, reduceEqDiff]
      refine call1d rfl (mapM1 snap_lst (mapM1 (SlF.snap hv327 hS333 rfl (fun _ => rfl) (fun _ => rfl)) mapM0)) (slices_Equal_int_x
          (fun b hb => decide_eq_true hb) x93.Share v322 v334 hx335) ?_
      simp only [hg321, run_guardd (g := 137), guardd_true, d4_un, put1d_some, xnot, d4_pick, xpick_t, run_draw_nil, run_cond, B0, reduceIte, reduceEqDiff]
      refine cond_split (t := (!v334)) (fun hc337 => ?_) (fun hc337 => ?_)
      · rw [iteT hc337] at hF336
        simp only [run_seq, run_reg, run_mv, run_ops_nil, run_ret, B0, reduceIte, reduceEqDiff]
        have e338 := some_inj hF336
        subst e338
        have ho339 := hr99 _ rfl
        have hk340 := hk97
        rw [ho339] at hk340
        dsimp only [jnO] at hk340
        apply hR103
        have he := some_inj hk340
        subst he
        simp only [end_ret1, B0, reduceIte, reduceEqDiff]
        exact rfl
      rw [iteF hc337] at hF336
      simp only [run_skip, run_nil, B0, reduceIte, reduceEqDiff]
      have e341 := some_inj hF336
      exact hN101 _ _ _ e341.symm ⟨f312, f313, f316, (Sep.dc (hS333))⟩ (f318) (f317)
    rw [iteF hg321] at hk213
    simp only [hg321, run_guardd (g := 137), guardd_off, d4_pick, put1d_some, xpick_f, run_draw_nil, run_cond, cond_false, run_skip, run_nil, B0, reduceIte, reduceEqDiff]
    have e342 := some_inj hk213
    exact hN101 _ _ _ e342.symm ⟨f312, f313, f316, hS320⟩ (f318) (f317)
  rintro _ fr345 h346 rfl ⟨f348, f349, f350, hS347⟩
  dsimp only [jnO] at hk97
  unfold impl_areReaders_j2 at hk97
  simp only [run_seq, run_reg, run_mv, run_ops_nil, run_ret, B0, reduceIte, reduceEqDiff]
  have he := some_inj hk97
  subst he
  simp only [end_ret1, B0, reduceIte, reduceEqDiff]
  exact rfl
theorem impl_GoodReaders_x {W : Nat → Bool} {h : Heap} (hW : ∀ b,
    (geL h.length) b → W b = true) (r_0 : Readers_) (r : Bool) (hF : impl_GoodReaders r_0 = some r) : Ret E W 12 [.agg [.int .i64 r_0.Generation, lst Reader.cells r_0.Readers,
    lst cI r_0.Committed, lst cI r_0.Ends]] h (fun v h' => cut h.length h' E.sz false 9 v = some (.bool r)) := by
  refine Ret.of (fn := x12) rfl (Run.of ?_)
  unfold impl_GoodReaders at hF
  have zf0 : argFr [.agg [.int .i64 r_0.Generation, lst Reader.cells r_0.Readers, lst cI r_0.Committed, lst cI r_0.Ends]] 0 = .agg [.int .i64 r_0.Generation,
      lst Reader.cells r_0.Readers, lst cI r_0.Committed, lst cI r_0.Ends] := rfl
  generalize argFr [.agg [.int .i64 r_0.Generation, lst Reader.cells r_0.Readers, lst cI r_0.Committed, lst cI r_0.Ends]] = fr0 at zf0 ⊢
  have hS : Sep h (geL h.length) [] := Sep.nil h
  simp only [x12, run_seq, run_reg, run_box, zf0, B0, reduceIte, reduceEqDiff]
  refine put2_boxC (cs := [.int .i64 r_0.Generation, lst Reader.cells r_0.Readers, lst cI r_0.Committed, lst cI r_0.Ends]) hS rfl rfl rfl (fun b1 h2 hS3 => ?_)
  simp only [run_mv, run_ops_nil, B0, reduceIte, reduceEqDiff]
  refine frz_stepC hS3 hW (by simp only [B0, reduceIte, reduceEqDiff]) (fun h5 hS6 => ?_)
  simp only [run_frz_nil, run_seq, run_reg, run_ld, B0, reduceIte, reduceEqDiff]
  refine put1_eq (v := .agg [.int .i64 r_0.Generation, lst Reader.cells r_0.Readers, lst cI r_0.Committed, lst cI r_0.Ends]) rfl ?_
  obtain ⟨v7, hx8, hF9⟩ := bind_some' hF
  simp only [run_call, B0, reduceIte, reduceEqDiff]
  refine call1 rfl (mapM1 (snap_agg (mapM1 snap_int (mapM1 snap_lst (mapM1 snap_lst (mapM1 snap_lst mapM0))))) mapM0) (impl_areReaders_x
      (fun b hb => decide_eq_true hb) r_0 v7 hx8) ?_
  simp only [run_mv, run_ops_nil, run_ret, B0, reduceIte, reduceEqDiff]
  have he := some_inj hF9
  subst he
  simp only [end_ret1, B0, reduceIte, reduceEqDiff]
  exact rfl
theorem laws_has_x {W : Nat → Bool} {h : Heap} (hW : ∀ b,
    (geL h.length) b → W b = true) (l_0 : List Int) (n_1 : Int) (r : Bool) (hF : laws_has l_0 n_1 = some r) : Ret E W 13 [lst cI l_0,
    .int .i64 n_1] h (fun v h' => cut h.length h' E.sz false 9 v = some (.bool r)) := by
  refine Ret.of (fn := x13) rfl (Run.of ?_)
  unfold laws_has at hF
  have zf0 : argFr [lst cI l_0, .int .i64 n_1] 0 = lst cI l_0 := rfl
  have zf1 : argFr [lst cI l_0, .int .i64 n_1] 1 = .int .i64 n_1 := rfl
  generalize argFr [lst cI l_0, .int .i64 n_1] = fr0 at zf0 zf1 ⊢
  have hS : Sep h (geL h.length) [] := Sep.nil h
  simp only [x13, run_seq, run_reg, run_mv, run_ops_nil, x13_5, zf0, run_len, put1_some, xlen_lst, B0, reduceIte, reduceEqDiff]
  obtain ⟨oc3, hX5, hk6⟩ := jn_some hF
  simp only [x13_4]
  refine rangeL_j (σ := Unit) l_0 (fun i1 x2 _ => laws_has_b1 n_1 i1 x2 ) (fun s fr' h' => fr' 1 = .int .i64 n_1 ∧ fr' 7 = lst cI l_0 ∧ Sep h' (geL h.length) ([])) hX5 ⟨zf1, rfl,
      hS⟩ (by simp only [B0, reduceIte, reduceEqDiff]) (by simp only [B0, reduceIte,
      reduceEqDiff]) (fun _ _ _ h => h) rfl rfl (fun _ _ _ _ h => h) (fun _ _ _ _ h => h) (fun _ _ _ _ h => h) (by decide) ?_ ?_
  · rintro i1 x2 _ fr15 h16 hx20 ⟨f18, f19, hS17⟩ f21 f22 oc4 hF7 hr8 Q9 hN10 hB14 hK11 hR12 hE13
    unfold laws_has_b1 at hF7
    simp only [x13_2, run_seq, run_reg, f19, f21, run_ia, B0, reduceIte, reduceEqDiff]
    refine put1_eq (v := .ref (cI x2) 0) (xia_lstN hx20 rfl) ?_
    simp only [run_ld, B0, reduceIte, reduceEqDiff]
    refine put1_eq (v := .int .i64 x2) rfl ?_
    simp only [run_mv, run_ops_nil, x13_1, run_seq, run_reg, f18, run_bin, put1_some, xeql, run_cond, B0, reduceIte, reduceEqDiff]
    refine cond_split (t := (decide (x2 = n_1))) (fun hc23 => ?_) (fun hc23 => ?_)
    · rw [iteT hc23] at hF7
      simp only [run_seq, run_reg, run_mv, run_ops_nil, run_ret, B0, reduceIte, reduceEqDiff]
      have e24 := some_inj hF7
      subst e24
      have ho25 := hr8 _ rfl
      have hk26 := hk6
      rw [ho25] at hk26
      dsimp only [jnO] at hk26
      apply hR12
      have he := some_inj hk26
      subst he
      simp only [end_ret1, B0, reduceIte, reduceEqDiff]
      exact rfl
    rw [iteF hc23] at hF7
    simp only [run_skip, run_nil, B0, reduceIte, reduceEqDiff]
    have e27 := some_inj hF7
    exact hN10 _ _ _ e27.symm ⟨f18, f19, hS17⟩ (f21) (f22)
  rintro _ fr29 h30 rfl ⟨f32, f33, hS31⟩
  dsimp only [jnO] at hk6
  unfold laws_has_j1 at hk6
  simp only [run_seq, run_reg, run_mv, run_ops_nil, run_ret, B0, reduceIte, reduceEqDiff]
  have he := some_inj hk6
  subst he
  simp only [end_ret1, B0, reduceIte, reduceEqDiff]
  exact rfl
theorem slices_IndexFunc_Reader_x {W : Nat → Bool} {h : Heap} (hW : ∀ b,
    (geL h.length) b → W b = true) (s_0 : List Reader) {g1 : Nat} {caps1 : List XV} (hm1 : E.mode g1 = 1) (f_1 : Reader → Option Bool) (hf1 : ∀ (W : Nat → Bool) (h : Heap), (∀ b,
    h.length ≤ b → W b = true) → ∀ a0 r, f_1 a0 = some r → Ret E W g1 ([.agg [.bool a0.In, .int .i64 a0.Generation, lst cI a0.Share,
    lst cI a0.Read]] ++ caps1) h (fun v h' => cut h.length h' E.sz false 9 v = some (.bool r))) (r : Int)
    (hF : slices_IndexFunc_Reader s_0 f_1 = some r) : Ret E W 56 [lst Reader.cells s_0, .fn g1 caps1] h (fun v h' => cut h.length h' E.sz false 9 v = some (.int .i64 r)) := by
  refine Ret.of (fn := x56) rfl (Run.of ?_)
  unfold slices_IndexFunc_Reader at hF
  have zf0 : argFr [lst Reader.cells s_0, .fn g1 caps1] 0 = lst Reader.cells s_0 := rfl
  have zf1 : argFr [lst Reader.cells s_0, .fn g1 caps1] 1 = .fn g1 caps1 := rfl
  generalize argFr [lst Reader.cells s_0, .fn g1 caps1] = fr0 at zf0 zf1 ⊢
  have hS : Sep h (geL h.length) [] := Sep.nil h
  simp only [x56, run_seq, run_reg, run_mv, run_ops_nil, x56_6, zf0, run_len, put1_some, xlen_lst, B0, reduceIte, reduceEqDiff]
  obtain ⟨oc3, hX5, hk6⟩ := jn_some hF
  simp only [x56_5]
  refine rangeL_j (σ := Unit) s_0 (fun i1 x2 _ => slices_IndexFunc_Reader_b1 f_1 i1 x2 ) (fun s fr' h' => fr' 0 = lst Reader.cells s_0 ∧ fr' 1 = .fn g1 caps1 ∧ Sep h'
      (geL h.length) ([])) hX5 ⟨zf0, zf1, hS⟩ (by simp only [B0, reduceIte, reduceEqDiff]) (by simp only [B0, reduceIte,
      reduceEqDiff]) (fun _ _ _ h => h) rfl rfl (fun _ _ _ _ h => h) (fun _ _ _ _ h => h) (fun _ _ _ _ h => h) (by decide) ?_ ?_
  · rintro i1 x2 _ fr15 h16 hx20 ⟨f18, f19, hS17⟩ f21 f22 oc4 hF7 hr8 Q9 hN10 hB14 hK11 hR12 hE13
    unfold slices_IndexFunc_Reader_b1 at hF7
    simp only [x56_3, run_seq, run_reg, f21, run_mv, run_ops_nil, x56_2, f19, f18, run_ia, B0, reduceIte, reduceEqDiff]
    refine put1_eq (v := .ref (Reader.cells x2) 0) (xia_lstN hx20 rfl) ?_
    simp only [run_ld, B0, reduceIte, reduceEqDiff]
    refine put1_eq (v := .agg [.bool x2.In, .int .i64 x2.Generation, lst cI x2.Share, lst cI x2.Read]) rfl ?_
    obtain ⟨v23, hx24, hF25⟩ := bind_some' hF7
    simp only [run_call, B0, reduceIte, reduceEqDiff]
    refine call1 hm1 (mapM1 (snap_agg (mapM1 snap_bool (mapM1 snap_int (mapM1 snap_lst (mapM1 snap_lst mapM0))))) mapM0) (hf1 _ _ (fun b hb => decide_eq_true hb) x2 v23 hx24) ?_
    simp only [run_ops_nil, x56_1, run_cond, B0, reduceIte, reduceEqDiff]
    refine cond_split (t := v23) (fun hc26 => ?_) (fun hc26 => ?_)
    · rw [iteT hc26] at hF25
      simp only [run_seq, run_reg, run_mv, run_ops_nil, run_ret, B0, reduceIte, reduceEqDiff]
      have e27 := some_inj hF25
      subst e27
      have ho28 := hr8 _ rfl
      have hk29 := hk6
      rw [ho28] at hk29
      dsimp only [jnO] at hk29
      apply hR12
      have he := some_inj hk29
      subst he
      simp only [end_ret1, B0, reduceIte, reduceEqDiff]
      exact rfl
    rw [iteF hc26] at hF25
    simp only [run_skip, run_nil, B0, reduceIte, reduceEqDiff]
    have e30 := some_inj hF25
    exact hN10 _ _ _ e30.symm ⟨f18, f19, hS17⟩ (f21) (f22)
  rintro _ fr32 h33 rfl ⟨f35, f36, hS34⟩
  dsimp only [jnO] at hk6
  unfold slices_IndexFunc_Reader_j1 at hk6
  simp only [run_seq, run_reg, run_mv, run_ops_nil, run_ret, B0, reduceIte, reduceEqDiff]
  have he := some_inj hk6
  subst he
  simp only [end_ret1, B0, reduceIte, reduceEqDiff]
  exact rfl
end Go.Proofs.Ytdhibknhejhfaaa.X
