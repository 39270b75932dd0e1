/- The functions' code comes to what the plain functions say (3). -/
import Derived.Test.YtdhibknhejhfaaaXBH2
set_option linter.unusedVariables false
set_option linter.unusedSimpArgs false
set_option maxRecDepth 100000
namespace Go.Proofs.Ytdhibknhejhfaaa.X
open Go
open Nat (reduceEqDiff)
theorem spec_l14Own_x {W : Nat → Bool} {h : Heap} (hW : ∀ b,
    h.length ≤ b → W b = true) (r_0 : Readers_) (r : Readers_) (hF : spec_l14Own r_0 = some r) : Ret E W 54 [.agg [.int .i64 r_0.Generation, lst Reader.cells r_0.Readers,
    lst cI r_0.Committed, lst cI r_0.Ends]] h (fun v h' => ∃ rv0_1 rc0_1 rv0_2 rc0_2 rv0_3 rc0_3, v = .agg [.int .i64 r.Generation, rv0_1, rv0_2,
    rv0_3] ∧ SlN Reader.R 4 37 rv0_1 r.Readers rc0_1 ∧ SlF cI 1 3 rv0_2 r.Committed rc0_2 ∧ SlF cI 1 3 rv0_3 r.Ends rc0_3 ∧ Sep h' h.length (rc0_1 ++ (rc0_2 ++ (rc0_3 ++
    ([]))))) := by
  refine Ret.of (fn := x54) rfl (Run.of ?_)
  unfold spec_l14Own at hF
  have zf0 : argFr [.agg [.int .i64 r_0.Generation, lst Reader.cells r_0.Readers, lst cI r_0.Committed, lst cI r_0.Ends]] 0 = .agg [.int .i64 r_0.Generation,
      lst Reader.cells r_0.Readers, lst cI r_0.Committed, lst cI r_0.Ends] := rfl
  generalize argFr [.agg [.int .i64 r_0.Generation, lst Reader.cells r_0.Readers, lst cI r_0.Committed, lst cI r_0.Ends]] = fr0 at zf0 ⊢
  have hS : Sep h h.length [] := Sep.nil h
  simp only [x54, run_seq, run_reg, run_box, zf0, B0, reduceIte, reduceEqDiff]
  refine put2_boxC (cs := [.int .i64 r_0.Generation, lst Reader.cells r_0.Readers, lst cI r_0.Committed, lst cI r_0.Ends]) hS rfl rfl rfl (fun b1 h2 hS3 => ?_)
  simp only [run_new, B0, reduceIte, reduceEqDiff]
  refine put2_newC hS3 (fun b5 h6 hS7 => ?_)
  simp only [run_ops_nil, B0, reduceIte, reduceEqDiff]
  refine frz_stepC (Sep.m1 hS7) hW (by simp only [B0, reduceIte, reduceEqDiff]) (fun h9 hS10 => ?_)
  simp only [run_frz_nil, x54_8, run_seq, run_draw, d4_buildS, evp, B0, reduceIte, reduceEqDiff]
  refine put2d_buildSF (n := 1) (f := cI) ([] : List Int) hS10 rfl rfl (fun v11 c12 h13 hv14 hS15 => ?_)
  simp only [d1_buildS, evp, B0, reduceIte, reduceEqDiff]
  refine put2d_buildSF (n := 1) (f := cI) ([] : List Int) hS15 rfl rfl (fun v17 c18 h19 hv20 hS21 => ?_)
  simp only [d1_new, B0, reduceIte, reduceEqDiff]
  refine put2d_newC hS21 (fun b23 h24 hS25 => ?_)
  simp only [d1_fa, put1d_some, Nat.reduceAdd, Nat.zero_add, Nat.add_zero, xfa_ref, d1_ld, ldd_ref, B0, reduceIte, reduceEqDiff]
  refine put1d_eq (v := .int .i64 r_0.Generation) rfl ?_
  simp only [d4_fa, put1d_some, Nat.reduceAdd, Nat.zero_add, Nat.add_zero, xfa_ref, d4_ld, B0, reduceIte, reduceEqDiff]
  refine put1d_eq (v := lst cI r_0.Committed) rfl ?_
  simp only [d2_app, B0, reduceIte, reduceEqDiff]
  obtain ⟨l27, hx28, hF29⟩ := bind_some' hF
  refine put2d_appF (f := cI) hv14 (Sep.m2 hS25) hW (fun _ => rfl) (fun _ => rfl) (firstOf_lst (fun _ => rfl)) hx28 (fun v30 c31 h32 hv33 hS34 => ?_)
  simp only [d1_fa, put1d_some, Nat.reduceAdd, Nat.zero_add, Nat.add_zero, xfa_ref, d1_ld, ldd_ref, B0, reduceIte, reduceEqDiff]
  refine put1d_eq (v := lst cI r_0.Ends) rfl ?_
  simp only [d2_app, B0, reduceIte, reduceEqDiff]
  obtain ⟨l36, hx37, hF38⟩ := bind_some' hF29
  refine put2d_appF (f := cI) hv20 (Sep.m2 hS34) hW (fun _ => rfl) (fun _ => rfl) (firstOf_lst (fun _ => rfl)) hx37 (fun v39 c40 h41 hv42 hS43 => ?_)
  simp only [d4_build, evp, B0, reduceIte, reduceEqDiff]
  refine put1d_eq (v := .agg [.int .i64 r_0.Generation, .nil, v30, v39]) (pbuild_some (fill1 (us := [.int .i64 r_0.Generation]) (vs := [.int .i64 r_0.Generation, .nil, .nil,
      .nil]) rfl rfl (Nat.le_of_ble_eq_true rfl) rfl rfl (fill1 (us := [v30]) (vs := [.int .i64 r_0.Generation, .nil, v30,
      .nil]) (cells_one (SlF.one hv33)) rfl (Nat.le_of_ble_eq_true rfl) (all_c (SlF.one hv33) all_n) rfl (fill1 (us := [v39]) (vs := [.int .i64 r_0.Generation, .nil, v30,
      v39]) (cells_one (SlF.one hv42)) rfl (Nat.le_of_ble_eq_true rfl) (all_c (SlF.one hv42) all_n) rfl fill0)))) ?_
  simp only [d3_st, B0, reduceIte, reduceEqDiff]
  refine put2d_stCx (us := [.int .i64 r_0.Generation, .nil, v30, v39]) rfl (cs' := [.int .i64 r_0.Generation, .nil, v30,
      v39]) (Sep.m2 hS43) hW rfl (all_c rfl (all_c rfl (all_c (SlF.one hv33) (all_c (SlF.one hv42) all_n)))) (Nat.le_of_ble_eq_true rfl) rfl (fun h45 hS46 => ?_)
  simp only [run_draw_nil, x54_7, run_seq, run_reg, run_fa, put1_some, Nat.reduceAdd, Nat.zero_add, Nat.add_zero, xfa_ref, run_ld, B0, reduceIte, reduceEqDiff]
  refine put1_eq (v := lst Reader.cells r_0.Readers) rfl ?_
  simp only [run_len, put1_some, xlen_lst, run_mv, run_ops_nil, B0, reduceIte, reduceEqDiff]
  obtain ⟨oc59, hX61, hk62⟩ := jn_some hF38
  simp only [x54_6]
  refine rangeL_j (σ := Readers_) r_0.Readers (fun i57 x58 s138 => spec_l14Own_b1 l27 l36 i57 x58 s138) (fun s fr' h' => ∃ v54 c55,
      fr' 2 = .ptr b5 0 ∧ fr' 3 = .ptr b23 0 ∧ fr' 18 = lst Reader.cells r_0.Readers ∧ SlN Reader.R 4 37 v54 s.Readers c55 ∧ Sep h' h.length ([Blk1 b5 [.int .i64 0, .nil, .nil,
      .nil] 29] ++ ([Blk1 b23 [.int .i64 s.Generation, v54, v30, v39] 29] ++ (c55 ++ (c31 ++ (c40 ++ ([]))))))) hX61 ⟨.nil, [], by simp only [B0, reduceIte, reduceEqDiff],
      by simp only [B0, reduceIte, reduceEqDiff], by simp only [B0, reduceIte, reduceEqDiff], SlN.nil,
      ((Sep.m3 (Sep.m2 (Sep.m2 (Sep.m1 hS46)))) : Sep _ h.length ([Blk1 b5 [.int .i64 0, .nil, .nil, .nil] 29] ++ ([Blk1 b23 [.int .i64 r_0.Generation, .nil, v30,
      v39] 29] ++ (c31 ++ (c40 ++ ([]))))))⟩ (by simp only [B0, reduceIte, reduceEqDiff]) (by simp only [B0, reduceIte,
      reduceEqDiff]) (fun _ _ _ h => h) rfl rfl (fun _ _ _ _ h => h) (fun _ _ _ _ h => h) (fun _ _ _ _ h => h) (by decide) ?_ ?_
  · rintro i57 x58 s52 fr71 h72 hx77 ⟨v54, c55, f74, f75, f76, hv56, hS73⟩ f78 f79 oc60 hF63 hr64 Q65 hN66 hB70 hK67 hR68 hE69
    unfold spec_l14Own_b1 at hF63
    simp only [x54_4, run_seq, run_reg, f76, f78, run_ia, B0, reduceIte, reduceEqDiff]
    refine put1_eq (v := .ref (Reader.cells x58) 0) (xia_lstN hx77 rfl) ?_
    simp only [run_ld, B0, reduceIte, reduceEqDiff]
    refine put1_eq (v := .agg [.bool x58.In, .int .i64 x58.Generation, lst cI x58.Share, lst cI x58.Read]) rfl ?_
    simp only [run_new, B0, reduceIte, reduceEqDiff]
    refine put2_newC hS73 (fun b80 h81 hS82 => ?_)
    simp only [run_st, B0, reduceIte, reduceEqDiff]
    refine put2_stCx (us := [.bool x58.In, .int .i64 x58.Generation, lst cI x58.Share, lst cI x58.Read]) rfl (cs' := [.bool x58.In, .int .i64 x58.Generation, lst cI x58.Share,
        lst cI x58.Read]) hS82 hW rfl rfl (Nat.le_of_ble_eq_true rfl) rfl (fun h84 hS85 => ?_)
    simp only [run_ops_nil, x54_3, run_seq, run_reg, run_buildS, evp, B0, reduceIte, reduceEqDiff]
    refine put2_buildSF (n := 1) (f := cI) ([] : List Int) hS85 rfl rfl (fun v86 c87 h88 hv89 hS90 => ?_)
    simp only [run_fa, put1_some, Nat.reduceAdd, Nat.zero_add, Nat.add_zero, xfa_ptr, run_ld, B0, reduceIte, reduceEqDiff]
    refine put1_eq (v := lst cI x58.Share) ((xld_b (Sep.bk _ _ _ (Sep.m1 hS90))).trans rfl) ?_
    simp only [run_app, B0, reduceIte, reduceEqDiff]
    obtain ⟨l92, hx93, hF94⟩ := bind_some' hF63
    refine put2_appF (f := cI) hv89 hS90 hW (fun _ => rfl) (fun _ => rfl) (firstOf_lst (fun _ => rfl)) hx93 (fun v95 c96 h97 hv98 hS99 => ?_)
    simp only [run_fa, put1_some, Nat.reduceAdd, Nat.zero_add, Nat.add_zero, xfa_ptr, run_st, B0, reduceIte, reduceEqDiff]
    refine put2_stCx (us := [v95]) (cells_one (SlF.one hv98)) (cs' := [.bool x58.In, .int .i64 x58.Generation, v95,
        lst cI x58.Read]) (Sep.m1 hS99) hW rfl (all_c (SlF.one hv98) all_n) (Nat.le_of_ble_eq_true rfl) rfl (fun h101 hS102 => ?_)
    simp only [run_ops_nil, x54_2, run_seq, run_reg, run_buildS, evp, B0, reduceIte, reduceEqDiff]
    refine put2_buildSF (n := 1) (f := cI) ([] : List Int) hS102 rfl rfl (fun v103 c104 h105 hv106 hS107 => ?_)
    simp only [run_fa, put1_some, Nat.reduceAdd, Nat.zero_add, Nat.add_zero, xfa_ptr, run_ld, B0, reduceIte, reduceEqDiff]
    refine put1_eq (v := lst cI x58.Read) ((xld_b (Sep.bk _ _ _ (Sep.m1 hS107))).trans rfl) ?_
    simp only [run_app, B0, reduceIte, reduceEqDiff]
    obtain ⟨l109, hx110, hF111⟩ := bind_some' hF94
    refine put2_appF (f := cI) hv106 hS107 hW (fun _ => rfl) (fun _ => rfl) (firstOf_lst (fun _ => rfl)) hx110 (fun v112 c113 h114 hv115 hS116 => ?_)
    simp only [run_fa, put1_some, Nat.reduceAdd, Nat.zero_add, Nat.add_zero, xfa_ptr, run_st, B0, reduceIte, reduceEqDiff]
    refine put2_stCx (us := [v112]) (cells_one (SlF.one hv115)) (cs' := [.bool x58.In, .int .i64 x58.Generation, v95,
        v112]) (Sep.m1 hS116) hW rfl (all_c (SlF.one hv115) all_n) (Nat.le_of_ble_eq_true rfl) rfl (fun h118 hS119 => ?_)
    simp only [run_ops_nil, x54_1, run_reg, f75, run_fa, put1_some, Nat.reduceAdd, Nat.zero_add, Nat.add_zero, xfa_ptr, run_ld, B0, reduceIte, reduceEqDiff]
    refine put1_eq (v := v54) ((xld_b (Sep.bk _ _ _ (Sep.m4 hS119))).trans rfl) ?_
    simp only [run_ld, B0, reduceIte, reduceEqDiff]
    refine put1_eq (v := .agg [.bool x58.In, .int .i64 x58.Generation, v95, v112]) ((xld_bs (Sep.bk _ _ _ hS119)).trans rfl) ?_
    simp only [run_buildS, evp, B0, reduceIte, reduceEqDiff]
    refine put2_buildSN (R := Reader.R) (n := 4) (cs := [.bool x58.In, .int .i64 x58.Generation, v95,
        v112]) (os := c96 ++ (c113)) (Sep.bi2 (c1 := c96) (c2 := c113) (Sep.m2 (Sep.m1 hS119))) (fill1 (us := [.bool x58.In, .int .i64 x58.Generation, v95,
        v112]) (vs := [.bool x58.In, .int .i64 x58.Generation, v95,
        v112]) rfl rfl (Nat.le_of_ble_eq_true rfl) (all_c rfl (all_c rfl (all_c (SlF.one hv98) (all_c (SlF.one hv115) all_n)))) rfl fill0) (Reader.RI (x :=
        (Reader.mk x58.In x58.Generation l92 l109)) hv98 hv115) rfl (fun v120 c121 h122 hv123 hS124 => ?_)
    simp only [run_app, B0, reduceIte, reduceEqDiff]
    obtain ⟨l126, hx127, hF128⟩ := bind_some' hF111
    refine put2_appN (R := Reader.R) (c := c55) hv56 hv123 (Sep.m4 hS124) hW Reader.RO.len Reader.RO.one hx127 (fun v129 c130 h131 hv132 hS133 => ?_)
    simp only [f75, run_fa, put1_some, Nat.reduceAdd, Nat.zero_add, Nat.add_zero, xfa_ptr, run_st, B0, reduceIte, reduceEqDiff]
    refine put2_stCx (us := [v129]) (cells_one (SlN.one hv132)) (cs' := [.int .i64 s52.Generation, v129, v30,
        v39]) (Sep.m3 hS133) hW rfl (all_c (SlN.one hv132) all_n) (Nat.le_of_ble_eq_true rfl) rfl (fun h135 hS136 => ?_)
    simp only [run_ops_nil, run_nil, B0, reduceIte, reduceEqDiff]
    have e137 := some_inj hF128
    exact hN66 _ _ _ e137.symm ⟨v129, c130, by simp only [f74, B0, reduceIte, reduceEqDiff], by simp only [f75, B0, reduceIte, reduceEqDiff], by simp only [f76, B0, reduceIte,
        reduceEqDiff], hv132, (Sep.m4 (Sep.m3 (Sep.m3 (Sep.m4 (Sep.m4 (Sep.dc (Sep.m2 hS136)))))))⟩ (by simp only [f78, B0, reduceIte, reduceEqDiff]) (by simp only [f79, B0,
        reduceIte, reduceEqDiff])
  rintro s139 fr144 h145 rfl ⟨v141, c142, f147, f148, f149, hv143, hS146⟩
  dsimp only [jnO] at hk62
  unfold spec_l14Own_j1 at hk62
  simp only [run_seq, run_reg, f148, run_ld, B0, reduceIte, reduceEqDiff]
  refine put1_eq (v := .agg [.int .i64 s139.Generation, v141, v30, v39]) ((xld_bs (Sep.bk _ _ _ (Sep.m1 hS146))).trans rfl) ?_
  simp only [f147, run_st, B0, reduceIte, reduceEqDiff]
  refine put2_stCx (us := [.int .i64 s139.Generation, v141, v30, v39]) rfl (cs' := [.int .i64 s139.Generation, v141, v30,
      v39]) hS146 hW rfl (all_c rfl (all_c (SlN.one hv143) (all_c (SlF.one hv33) (all_c (SlF.one hv42) all_n)))) (Nat.le_of_ble_eq_true rfl) rfl (fun h150 hS151 => ?_)
  simp only [run_ops_nil, run_ret, B0, reduceIte, reduceEqDiff]
  have he := some_inj hk62
  subst he
  refine end_ret_cell (bb := b5) (oo := 0) (v := .agg [.int .i64 s139.Generation, v141, v30, v39]) (by simp only [f147, B0, reduceIte,
      reduceEqDiff]) ((xld_bs (Sep.bk _ _ _ hS151)).trans rfl) ?_
  exact ⟨v141, c142, v30, c31, v39, c40, by first | trivial | rfl, hv143, hv33, hv42, (Sep.m2 (Sep.m2 (Sep.m2 (Sep.dc ((Sep.dc (hS151)))))))⟩
theorem spec_StepReaders_x {W : Nat → Bool} {h : Heap} (hW : ∀ b,
    h.length ≤ b → W b = true) (r_0 : Readers_) (x_1 : GroupStep) (r : Readers_ × Bool) (hF : spec_StepReaders r_0 x_1 = some r) : Ret E W 31 [.agg [.int .i64 r_0.Generation,
    lst Reader.cells r_0.Readers, lst cI r_0.Committed, lst cI r_0.Ends], .agg [.int .i64 x_1.Kind, .int .i64 x_1.K, .int .i64 x_1.Part,
    .int .i64 x_1.N]] h (fun v h' => ∃ rv0_1 rc0_1 rv0_2 rc0_2 rv0_3 rc0_3, v = .tup [.agg [.int .i64 r.1.Generation, rv0_1, rv0_2, rv0_3],
    .bool r.2] ∧ SlN Reader.R 4 37 rv0_1 r.1.Readers rc0_1 ∧ SlF cI 1 3 rv0_2 r.1.Committed rc0_2 ∧ SlF cI 1 3 rv0_3 r.1.Ends rc0_3 ∧ Sep h' h.length (rc0_1 ++ (rc0_2 ++
    (rc0_3 ++ ([]))))) := by
  refine Ret.of (fn := x31) rfl (Run.of ?_)
  unfold spec_StepReaders at hF
  have zf0 : argFr [.agg [.int .i64 r_0.Generation, lst Reader.cells r_0.Readers, lst cI r_0.Committed, lst cI r_0.Ends], .agg [.int .i64 x_1.Kind, .int .i64 x_1.K,
      .int .i64 x_1.Part, .int .i64 x_1.N]] 0 = .agg [.int .i64 r_0.Generation, lst Reader.cells r_0.Readers, lst cI r_0.Committed, lst cI r_0.Ends] := rfl
  have zf1 : argFr [.agg [.int .i64 r_0.Generation, lst Reader.cells r_0.Readers, lst cI r_0.Committed, lst cI r_0.Ends], .agg [.int .i64 x_1.Kind, .int .i64 x_1.K,
      .int .i64 x_1.Part, .int .i64 x_1.N]] 1 = .agg [.int .i64 x_1.Kind, .int .i64 x_1.K, .int .i64 x_1.Part, .int .i64 x_1.N] := rfl
  generalize argFr [.agg [.int .i64 r_0.Generation, lst Reader.cells r_0.Readers, lst cI r_0.Committed, lst cI r_0.Ends], .agg [.int .i64 x_1.Kind, .int .i64 x_1.K,
      .int .i64 x_1.Part, .int .i64 x_1.N]] = fr0 at zf0 zf1 ⊢
  have hS : Sep h h.length [] := Sep.nil h
  simp only [x31, run_seq, run_reg, run_box, zf0, B0, reduceIte, reduceEqDiff]
  refine put2_boxC (cs := [.int .i64 r_0.Generation, lst Reader.cells r_0.Readers, lst cI r_0.Committed, lst cI r_0.Ends]) hS rfl rfl rfl (fun b1 h2 hS3 => ?_)
  simp only [run_box, zf1, B0, reduceIte, reduceEqDiff]
  refine put2_boxC (cs := [.int .i64 x_1.Kind, .int .i64 x_1.K, .int .i64 x_1.Part, .int .i64 x_1.N]) hS3 rfl rfl rfl (fun b5 h6 hS7 => ?_)
  simp only [run_new, B0, reduceIte, reduceEqDiff]
  refine put2_newC hS7 (fun b9 h10 hS11 => ?_)
  simp only [run_mv, run_ops_nil, B0, reduceIte, reduceEqDiff]
  refine frz_stepC (Sep.m2 hS11) hW (by simp only [B0, reduceIte, reduceEqDiff]) (fun h13 hS14 => ?_)
  refine frz_stepC (Sep.m1 hS14) hW (by simp only [B0, reduceIte, reduceEqDiff]) (fun h15 hS16 => ?_)
  simp only [run_frz_nil, x31_6, run_seq, run_reg, run_ld, B0, reduceIte, reduceEqDiff]
  refine put1_eq (v := .agg [.int .i64 r_0.Generation, lst Reader.cells r_0.Readers, lst cI r_0.Committed, lst cI r_0.Ends]) rfl ?_
  obtain ⟨v17, hx18, hF19⟩ := bind_some' hF
  simp only [run_call, B0, reduceIte, reduceEqDiff]
  refine call1 rfl (mapM1 (snap_agg (mapM1 snap_int (mapM1 snap_lst (mapM1 snap_lst (mapM1 snap_lst mapM0))))) mapM0) (spec_GoodReaders_x
      (fun b hb => decide_eq_true hb) r_0 v17 hx18) ?_
  simp only [run_un, put1_some, xnot, run_ops_nil, x31_1, run_cond, B0, reduceIte, reduceEqDiff]
  refine cond_split (t := (!v17)) (fun hc20 => ?_) (fun hc20 => ?_)
  · rw [iteT hc20] at hF19
    simp only [run_seq, run_reg, run_build, evp, B0, reduceIte, reduceEqDiff]
    refine put1_eq (v := .agg [.int .i64 0, .nil, .nil, .nil]) rfl ?_
    simp only [run_st, B0, reduceIte, reduceEqDiff]
    refine put2_stCx (us := [.int .i64 0, .nil, .nil, .nil]) rfl (cs' := [.int .i64 0, .nil, .nil, .nil]) hS16 hW rfl rfl (Nat.le_of_ble_eq_true rfl) rfl (fun h21 hS22 => ?_)
    simp only [run_mv, run_ops_nil, run_ret, B0, reduceIte, reduceEqDiff]
    have he := some_inj hF19
    subst he
    refine end_ret_m (mapM1 (res_cell (bb := b9) (oo := 0) (v := .agg [.int .i64 0, .nil, .nil, .nil]) (by simp only [B0, reduceIte,
        reduceEqDiff]) ((xld_bs (Sep.bk _ _ _ hS22)).trans rfl)) (mapM1 (res_t (v := .bool false) (by simp only [B0, reduceIte, reduceEqDiff])) mapM0)) ?_
    exact ⟨.nil, [], .nil, [], .nil, [], by first | trivial | rfl, SlN.nil, SlF.nil, SlF.nil, ((Sep.dc (hS22)) : Sep _ h.length ([]))⟩
  rw [iteF hc20] at hF19
  simp only [run_skip, x31_5, run_seq, run_draw, d1_new, B0, reduceIte, reduceEqDiff]
  refine put2d_newC hS16 (fun b23 h24 hS25 => ?_)
  simp only [d4_ld, B0, reduceIte, reduceEqDiff]
  refine put1d_eq (v := .agg [.int .i64 r_0.Generation, lst Reader.cells r_0.Readers, lst cI r_0.Committed, lst cI r_0.Ends]) rfl ?_
  obtain ⟨v27, hx28, hF29⟩ := bind_some' hF19
  simp only [run_d2_call, B0, reduceIte, reduceEqDiff]
  refine call2q rfl hS25 (mapM1 (snap_agg (mapM1 snap_int (mapM1 snap_lst (mapM1 snap_lst (mapM1 snap_lst mapM0))))) mapM0) (spec_l14Own_x
      (fun b hb => decide_eq_true hb) r_0 v27 hx28) ?_
  rintro _ h42 ⟨v30, c31, v34, c35, v38, c39, rfl, hv32, hv36, hv40, hS43⟩
  refine ⟨_, free_a (all_c rfl (all_c (SlN.free1 hv32) (all_c (SlF.free1 hv36) (all_c (SlF.free1 hv40) all_n)))), hS43,
      (pf_app (SlN.pf hv32 Reader.RO) (pf_app (SlF.pf hv36 (fun _ => rfl)) (pf_app (SlF.pf hv40 (fun _ => rfl)) pf_nil))), fun h44 hS45 => ?_⟩
  have hS46 : Sep h44 h.length (c31 ++ (c35 ++ (c39 ++ ([Blk1 b23 [.int .i64 0, .nil, .nil, .nil] 29] ++ ([Blk1 b9 [.int .i64 0, .nil, .nil,
      .nil] 29] ++ ([])))))) := by simpa only [List.append_assoc, List.nil_append] using hS45
  simp only [d1_ld, ldd_ref, B0, reduceIte, reduceEqDiff]
  refine put1d_eq (v := .agg [.int .i64 x_1.Kind, .int .i64 x_1.K, .int .i64 x_1.Part, .int .i64 x_1.N]) rfl ?_
  obtain ⟨v47, hx48, hF49⟩ := bind_some' hF29
  simp only [run_d3_call, B0, reduceIte, reduceEqDiff]
  refine call0d rfl (spec_l14Step_x hW v27 v30 c31 hv32 v34 c35 hv36 v38 c39 hv40 x_1 v47 hx48 (Sep.m2 (Sep.m2 (Sep.m2 hS46)))) ?_
  rintro _ h62 ⟨v50, c51, v54, c55, v58, c59, rfl, hv52, hv56, hv60, hS63⟩
  simp only [d4_mv, put1d_some, d4_ext, xext_0, d1_ext, xext_1, d3_st, B0, reduceIte, reduceEqDiff]
  refine put2d_stCx (us := [.int .i64 v47.1.Generation, v50, v54, v58]) rfl (cs' := [.int .i64 v47.1.Generation, v50, v54,
      v58]) (Sep.m3 hS63) hW rfl (all_c rfl (all_c (SlN.one hv52) (all_c (SlF.one hv56) (all_c (SlF.one hv60) all_n)))) (Nat.le_of_ble_eq_true rfl) rfl (fun h64 hS65 => ?_)
  simp only [d4_mv, put1d_some, run_draw_nil, B0, reduceIte, reduceEqDiff]
  refine frz_stepC hS65 hW (by simp only [B0, reduceIte, reduceEqDiff]) (fun h66 hS67 => ?_)
  simp only [run_frz_nil, x31_4, run_seq, run_reg, run_mv, run_un, put1_some, xnot, run_ops_nil, x31_2, run_cond, B0, reduceIte, reduceEqDiff]
  refine cond_split (t := (!v47.2)) (fun hc68 => ?_) (fun hc68 => ?_)
  · rw [iteT hc68] at hF49
    simp only [run_seq, run_reg, run_build, evp, B0, reduceIte, reduceEqDiff]
    refine put1_eq (v := .agg [.int .i64 0, .nil, .nil, .nil]) rfl ?_
    simp only [run_st, B0, reduceIte, reduceEqDiff]
    refine put2_stCx (us := [.int .i64 0, .nil, .nil, .nil]) rfl (cs' := [.int .i64 0, .nil, .nil,
        .nil]) (Sep.m3 hS67) hW rfl rfl (Nat.le_of_ble_eq_true rfl) rfl (fun h69 hS70 => ?_)
    simp only [run_mv, run_ops_nil, run_ret, B0, reduceIte, reduceEqDiff]
    have he := some_inj hF49
    subst he
    refine end_ret_m (mapM1 (res_cell (bb := b9) (oo := 0) (v := .agg [.int .i64 0, .nil, .nil, .nil]) (by simp only [B0, reduceIte,
        reduceEqDiff]) ((xld_bs (Sep.bk _ _ _ hS70)).trans rfl)) (mapM1 (res_t (v := .bool false) (by simp only [B0, reduceIte, reduceEqDiff])) mapM0)) ?_
    exact ⟨.nil, [], .nil, [], .nil, [], by first | trivial | rfl, SlN.nil, SlF.nil, SlF.nil, ((Sep.dc ((Sep.dc ((Sep.dc ((Sep.dc (hS70)))))))) : Sep _ h.length ([]))⟩
  rw [iteF hc68] at hF49
  simp only [run_skip, x31_3, run_seq, run_reg, run_ld, B0, reduceIte, reduceEqDiff]
  refine put1_eq (v := .agg [.int .i64 v47.1.Generation, v50, v54, v58]) rfl ?_
  obtain ⟨v71, hx72, hF73⟩ := bind_some' hF49
  simp only [run_call, B0, reduceIte, reduceEqDiff]
  refine call2 rfl hS67 (mapM1 (snap_agg (mapM1 snap_int (mapM1 (SlN.snap hv52 _ hS67 rfl Reader.RO) (mapM1 (SlF.snap hv56 (Sep.m1 hS67) rfl (fun _ => rfl) (fun _ => rfl)) (mapM1
      (SlF.snap hv60 (Sep.m2 hS67) rfl (fun _ => rfl) (fun _ => rfl)) mapM0))))) mapM0) (spec_l14Own_x (fun b hb => decide_eq_true hb) v47.1 v71 hx72) ?_
  rintro _ h86 ⟨v74, c75, v78, c79, v82, c83, rfl, hv76, hv80, hv84, hS87⟩
  refine ⟨_, free_a (all_c rfl (all_c (SlN.free1 hv76) (all_c (SlF.free1 hv80) (all_c (SlF.free1 hv84) all_n)))), hS87,
      (pf_app (SlN.pf hv76 Reader.RO) (pf_app (SlF.pf hv80 (fun _ => rfl)) (pf_app (SlF.pf hv84 (fun _ => rfl)) pf_nil))), fun h88 hS89 => ?_⟩
  have hS90 : Sep h88 h.length (c75 ++ (c79 ++ (c83 ++ (c51 ++ (c55 ++ (c59 ++ ([Blk1 b9 [.int .i64 0, .nil, .nil, .nil] 29] ++ ([])))))))) := by simpa only [List.append_assoc,
      List.nil_append] using hS89
  simp only [run_st, B0, reduceIte, reduceEqDiff]
  refine put2_stCx (us := [.int .i64 v71.Generation, v74, v78, v82]) rfl (cs' := [.int .i64 v71.Generation, v74, v78,
      v82]) (Sep.m6 hS90) hW rfl (all_c rfl (all_c (SlN.one hv76) (all_c (SlF.one hv80) (all_c (SlF.one hv84) all_n)))) (Nat.le_of_ble_eq_true rfl) rfl (fun h91 hS92 => ?_)
  simp only [run_mv, run_ops_nil, run_ret, B0, reduceIte, reduceEqDiff]
  have he := some_inj hF73
  subst he
  refine end_ret_m (mapM1 (res_cell (bb := b9) (oo := 0) (v := .agg [.int .i64 v71.Generation, v74, v78, v82]) (by simp only [B0, reduceIte,
      reduceEqDiff]) ((xld_bs (Sep.bk _ _ _ hS92)).trans rfl)) (mapM1 (res_t (v := .bool true) (by simp only [B0, reduceIte, reduceEqDiff])) mapM0)) ?_
  exact ⟨v74, c75, v78, c79, v82, c83, by first | trivial | rfl, hv76, hv80, hv84, (Sep.m2 (Sep.m2 (Sep.m2 (Sep.dc (Sep.m3 (Sep.dc (Sep.m3 (Sep.dc (Sep.m3 (Sep.dc (hS92)))))))))))⟩
theorem laws_toIntS_x {W : Nat → Bool} {h : Heap} (hW : ∀ b,
    h.length ≤ b → W b = true) (k : Nat) (a_0 : List Int) (r : List Int) (hF : laws_toIntS k a_0 = some r) : Ret E W 18 [lst cI a_0] h (fun v h' => ∃ rv0 rc0,
    v = rv0 ∧ SlF cI 1 3 rv0 r rc0 ∧ Sep h' h.length (rc0 ++ ([]))) := by
  refine Ret.of (fn := x18) rfl (Run.of ?_)
  unfold laws_toIntS at hF
  have zf0 : argFr [lst cI a_0] 0 = lst cI a_0 := rfl
  generalize argFr [lst cI a_0] = fr0 at zf0 ⊢
  have hS : Sep h h.length [] := Sep.nil h
  obtain ⟨l1, hx2, hF3⟩ := bind_some' hF
  simp only [x18, run_seq, run_reg, run_mv, run_ops_nil, x18_7, zf0, run_len, put1_some, xlen_lst, run_mkS, B0, reduceIte, reduceEqDiff]
  refine put2_mkSF (f := cI) (z := (0 : Int)) hS hx2 rfl (fun v4 c5 h6 hv7 hS8 => ?_)
  simp only [run_mv, run_ops_nil, x18_6, run_seq, run_reg, B0, reduceIte, reduceEqDiff]
  obtain ⟨oc20, hX22, hk23⟩ := jn_some hF3
  simp only [x18_5]
  refine loopF_j (σ := Int × (List Int)) (fun s55 => laws_toIntS_b1 a_0 s55.1 s55.2) (fun s fr' h' => ∃ c16,
      fr' 0 = lst cI a_0 ∧ fr' 3 = v4 ∧ fr' 4 = .int .i64 s.1 ∧ SlF cI 1 3 v4 s.2 c16 ∧ Sep h' h.length (c16 ++ ([]))) hX22 ⟨c5, by simp only [zf0, B0, reduceIte, reduceEqDiff],
      by simp only [B0, reduceIte, reduceEqDiff], by simp only [B0, reduceIte, reduceEqDiff], hv7, hS8⟩ (fun _ _ _ h => h) ?_ ?_
  · rintro ⟨s14, s15⟩ fr32 h33 ⟨c16, f35, f36, f37, hv17, hS34⟩ oc21 hF24 hr25 Q26 hN27 hK28 hR29 hE30
    dsimp only at *
    unfold laws_toIntS_b1 at hF24
    simp only [x18_3, run_seq, run_reg, f37, run_mv, f35, run_len, put1_some, xlen_lst, run_bin, xlss, run_ops_nil, run_cond, B0, reduceIte, reduceEqDiff]
    refine cond_split (t := (decide (s14 < (List.length a_0 : Int)))) (fun hc39 => ?_) (fun hc39 => ?_)
    · rw [iteT hc39] at hF24
      obtain ⟨x40, hx41, hF42⟩ := bind_some' hF24
      simp only [run_skip, x18_2, run_seq, run_block, x18_1, run_reg, f36, run_mv, f37, f35, run_ia, B0, reduceIte, reduceEqDiff]
      refine put1_eq (v := .ref (cI x40) 0) (xia_lst hx41 rfl) ?_
      simp only [run_ld, B0, reduceIte, reduceEqDiff]
      refine put1_eq (v := .int .i64 x40) rfl ?_
      obtain ⟨x43, hx44, hF45⟩ := bind_some' hF42
      simp only [run_ia, B0, reduceIte, reduceEqDiff]
      obtain ⟨b46, hb47⟩ := SlF.isrow hv17 (geti_ne hx44)
      refine put1_eq (SlF.ia hv17 hb47 hx44) ?_
      simp only [run_st, B0, reduceIte, reduceEqDiff]
      refine put2_stF (f := cI) (x' := x40) (o := 0) hv17 hS34 hW hb47 hx44 (fun _ => rfl) rfl rfl (Nat.le_of_ble_eq_true rfl) rfl (fun c50 h48 hv51 hS49 => ?_)
      have hx52 := geti_set (x' := x40) hx44
      simp only [run_ops_nil, run_blk, run_reg, f37, run_mv, run_bin, put1_some, xadd, run_nil, B0, reduceIte, reduceEqDiff]
      have e53 := some_inj hF45
      exact hN27 _ _ _ e53.symm ⟨c50, by simp only [f35, B0, reduceIte, reduceEqDiff], by simp only [f36, B0, reduceIte, reduceEqDiff], by simp only [B0, reduceIte, reduceEqDiff],
          hv51, hS49⟩
    rw [iteF hc39] at hF24
    simp only [run_exit, out_code, out_nil, B0, reduceIte, reduceEqDiff]
    have e54 := some_inj hF24
    exact hK28 _ _ _ e54.symm ⟨c16, by simp only [f35, B0, reduceIte, reduceEqDiff], by simp only [f36, B0, reduceIte, reduceEqDiff], by simp only [f37, B0, reduceIte,
        reduceEqDiff], hv17, hS34⟩
  rintro ⟨s56, s57⟩ fr60 h61 rfl ⟨c58, f63, f64, f65, hv59, hS62⟩
  dsimp only [jnO] at hk23
  dsimp only at *
  unfold laws_toIntS_j1 at hk23
  simp only [run_seq, run_reg, f64, run_mv, run_ops_nil, run_ret, B0, reduceIte, reduceEqDiff]
  have he := some_inj hk23
  subst he
  simp only [end_ret1, B0, reduceIte, reduceEqDiff]
  exact ⟨v4, c58, by first | trivial | rfl, hv59, hS62⟩
theorem laws_toReader_x {W : Nat → Bool} {h : Heap} (hW : ∀ b,
    h.length ≤ b → W b = true) (k : Nat) (a_0 : Reader) (r : Reader) (hF : laws_toReader k a_0 = some r) : Ret E W 86 [.agg [.bool a_0.In, .int .i64 a_0.Generation,
    lst cI a_0.Share, lst cI a_0.Read]] h (fun v h' => ∃ rv0_2 rc0_2 rv0_3 rc0_3, v = .agg [.bool r.In, .int .i64 r.Generation, rv0_2,
    rv0_3] ∧ SlF cI 1 3 rv0_2 r.Share rc0_2 ∧ SlF cI 1 3 rv0_3 r.Read rc0_3 ∧ Sep h' h.length (rc0_2 ++ (rc0_3 ++ ([])))) := by
  refine Ret.of (fn := x86) rfl (Run.of ?_)
  unfold laws_toReader at hF
  have zf0 : argFr [.agg [.bool a_0.In, .int .i64 a_0.Generation, lst cI a_0.Share, lst cI a_0.Read]] 0 = .agg [.bool a_0.In, .int .i64 a_0.Generation, lst cI a_0.Share,
      lst cI a_0.Read] := rfl
  generalize argFr [.agg [.bool a_0.In, .int .i64 a_0.Generation, lst cI a_0.Share, lst cI a_0.Read]] = fr0 at zf0 ⊢
  have hS : Sep h h.length [] := Sep.nil h
  simp only [x86, run_seq, run_reg, run_box, zf0, B0, reduceIte, reduceEqDiff]
  refine put2_boxC (cs := [.bool a_0.In, .int .i64 a_0.Generation, lst cI a_0.Share, lst cI a_0.Read]) hS rfl rfl rfl (fun b1 h2 hS3 => ?_)
  simp only [run_new, B0, reduceIte, reduceEqDiff]
  refine put2_newC hS3 (fun b5 h6 hS7 => ?_)
  simp only [run_ops_nil, B0, reduceIte, reduceEqDiff]
  refine frz_stepC (Sep.m1 hS7) hW (by simp only [B0, reduceIte, reduceEqDiff]) (fun h9 hS10 => ?_)
  simp only [run_frz_nil, x86_5, run_seq, run_reg, run_new, B0, reduceIte, reduceEqDiff]
  refine put2_newC hS10 (fun b11 h12 hS13 => ?_)
  simp only [run_ops_nil, x86_4, run_seq, run_reg, run_fa, put1_some, Nat.reduceAdd, Nat.zero_add, Nat.add_zero, xfa_ref, run_ld, B0, reduceIte, reduceEqDiff]
  refine put1_eq (v := .bool a_0.In) rfl ?_
  simp only [run_fa, put1_some, Nat.reduceAdd, Nat.zero_add, Nat.add_zero, xfa_ptr, run_st, B0, reduceIte, reduceEqDiff]
  refine put2_stCx (us := [.bool a_0.In]) rfl (cs' := [.bool a_0.In, .int .i64 0, .nil, .nil]) hS13 hW rfl rfl (Nat.le_of_ble_eq_true rfl) rfl (fun h15 hS16 => ?_)
  simp only [run_ops_nil, x86_3, run_seq, run_reg, run_fa, put1_some, Nat.reduceAdd, Nat.zero_add, Nat.add_zero, xfa_ref, run_ld, B0, reduceIte, reduceEqDiff]
  refine put1_eq (v := .int .i64 a_0.Generation) rfl ?_
  simp only [run_fa, put1_some, Nat.reduceAdd, Nat.zero_add, Nat.add_zero, xfa_ptr, run_st, B0, reduceIte, reduceEqDiff]
  refine put2_stCx (us := [.int .i64 a_0.Generation]) rfl (cs' := [.bool a_0.In, .int .i64 a_0.Generation, .nil,
      .nil]) hS16 hW rfl rfl (Nat.le_of_ble_eq_true rfl) rfl (fun h17 hS18 => ?_)
  simp only [run_ops_nil, x86_2, run_seq, run_reg, run_fa, put1_some, Nat.reduceAdd, Nat.zero_add, Nat.add_zero, xfa_ref, run_ld, B0, reduceIte, reduceEqDiff]
  refine put1_eq (v := lst cI a_0.Share) rfl ?_
  obtain ⟨v19, hx20, hF21⟩ := bind_some' hF
  simp only [run_call, B0, reduceIte, reduceEqDiff]
  refine call2 rfl hS18 (mapM1 snap_lst mapM0) (laws_toIntS_x (fun b hb => decide_eq_true hb) k a_0.Share v19 hx20) ?_
  rintro v22 h26 ⟨_, c23, rfl, hv24, hS27⟩
  refine ⟨_, free_1 (SlF.free1 hv24), hS27, (pf_app (SlF.pf hv24 (fun _ => rfl)) pf_nil), fun h28 hS29 => ?_⟩
  have hS30 : Sep h28 h.length (c23 ++ ([Blk1 b11 [.bool a_0.In, .int .i64 a_0.Generation, .nil, .nil] 37] ++ ([Blk1 b5 [.bool false, .int .i64 0, .nil,
      .nil] 37] ++ ([])))) := by simpa only [List.append_assoc, List.nil_append] using hS29
  simp only [run_fa, put1_some, Nat.reduceAdd, Nat.zero_add, Nat.add_zero, xfa_ptr, run_st, B0, reduceIte, reduceEqDiff]
  refine put2_stCx (us := [v22]) (cells_one (SlF.one hv24)) (cs' := [.bool a_0.In, .int .i64 a_0.Generation, v22,
      .nil]) (Sep.m1 hS30) hW rfl (all_c (SlF.one hv24) all_n) (Nat.le_of_ble_eq_true rfl) rfl (fun h31 hS32 => ?_)
  simp only [run_ops_nil, x86_1, run_seq, run_reg, run_fa, put1_some, Nat.reduceAdd, Nat.zero_add, Nat.add_zero, xfa_ref, run_ld, B0, reduceIte, reduceEqDiff]
  refine put1_eq (v := lst cI a_0.Read) rfl ?_
  obtain ⟨v33, hx34, hF35⟩ := bind_some' hF21
  simp only [run_call, B0, reduceIte, reduceEqDiff]
  refine call2 rfl hS32 (mapM1 snap_lst mapM0) (laws_toIntS_x (fun b hb => decide_eq_true hb) k a_0.Read v33 hx34) ?_
  rintro v36 h40 ⟨_, c37, rfl, hv38, hS41⟩
  refine ⟨_, free_1 (SlF.free1 hv38), hS41, (pf_app (SlF.pf hv38 (fun _ => rfl)) pf_nil), fun h42 hS43 => ?_⟩
  have hS44 : Sep h42 h.length (c37 ++ ([Blk1 b11 [.bool a_0.In, .int .i64 a_0.Generation, v22, .nil] 37] ++ (c23 ++ ([Blk1 b5 [.bool false, .int .i64 0, .nil,
      .nil] 37] ++ ([]))))) := by simpa only [List.append_assoc, List.nil_append] using hS43
  simp only [run_fa, put1_some, Nat.reduceAdd, Nat.zero_add, Nat.add_zero, xfa_ptr, run_st, B0, reduceIte, reduceEqDiff]
  refine put2_stCx (us := [v36]) (cells_one (SlF.one hv38)) (cs' := [.bool a_0.In, .int .i64 a_0.Generation, v22,
      v36]) (Sep.m1 hS44) hW rfl (all_c (SlF.one hv38) all_n) (Nat.le_of_ble_eq_true rfl) rfl (fun h45 hS46 => ?_)
  simp only [run_ops_nil, run_seq, run_reg, run_ld, B0, reduceIte, reduceEqDiff]
  refine put1_eq (v := .agg [.bool a_0.In, .int .i64 a_0.Generation, v22, v36]) ((xld_bs (Sep.bk _ _ _ hS46)).trans rfl) ?_
  simp only [run_st, B0, reduceIte, reduceEqDiff]
  refine put2_stCx (us := [.bool a_0.In, .int .i64 a_0.Generation, v22, v36]) rfl (cs' := [.bool a_0.In, .int .i64 a_0.Generation, v22,
      v36]) (Sep.m3 hS46) hW rfl (all_c rfl (all_c rfl (all_c (SlF.one hv24) (all_c (SlF.one hv38) all_n)))) (Nat.le_of_ble_eq_true rfl) rfl (fun h47 hS48 => ?_)
  simp only [run_ops_nil, run_ret, B0, reduceIte, reduceEqDiff]
  have he := some_inj hF35
  subst he
  refine end_ret_cell (bb := b5) (oo := 0) (v := .agg [.bool a_0.In, .int .i64 a_0.Generation, v22, v36]) (by simp only [B0, reduceIte,
      reduceEqDiff]) ((xld_bs (Sep.bk _ _ _ hS48)).trans rfl) ?_
  exact ⟨v22, c23, v36, c37, by first | trivial | rfl, hv24, hv38, (Sep.m1 (Sep.dc ((Sep.dc (hS48)))))⟩
theorem laws_toReaderS_x {W : Nat → Bool} {h : Heap} (hW : ∀ b,
    h.length ≤ b → W b = true) (k : Nat) (a_0 : List Reader) (r : List Reader) (hF : laws_toReaderS k a_0 = some r) : Ret E W 66 [lst Reader.cells a_0] h (fun v h' => ∃ rv0 rc0,
    v = rv0 ∧ SlN Reader.R 4 37 rv0 r rc0 ∧ Sep h' h.length (rc0 ++ ([]))) := by
  refine Ret.of (fn := x66) rfl (Run.of ?_)
  unfold laws_toReaderS at hF
  have zf0 : argFr [lst Reader.cells a_0] 0 = lst Reader.cells a_0 := rfl
  generalize argFr [lst Reader.cells a_0] = fr0 at zf0 ⊢
  have hS : Sep h h.length [] := Sep.nil h
  obtain ⟨l1, hx2, hF3⟩ := bind_some' hF
  simp only [x66, run_seq, run_reg, run_mv, run_ops_nil, x66_7, zf0, run_len, put1_some, xlen_lst, run_mkS, B0, reduceIte, reduceEqDiff]
  refine put2_mkSN (R := Reader.R) (e := (Reader.mk false (0 : Int) [] [])) (z := [.bool false, .int .i64 0, .nil,
      .nil]) hS hx2 (Reader.RI (x := (Reader.mk false 0 [] [])) SlF.nil SlF.nil) rfl (fun v4 c5 h6 hv7 hS8 => ?_)
  simp only [run_mv, run_ops_nil, x66_6, run_seq, run_reg, B0, reduceIte, reduceEqDiff]
  obtain ⟨oc20, hX22, hk23⟩ := jn_some hF3
  simp only [x66_5]
  refine loopF_j (σ := Int × (List Reader)) (fun s90 => laws_toReaderS_b1 k a_0 s90.1 s90.2) (fun s fr' h' => ∃ c16,
      fr' 0 = lst Reader.cells a_0 ∧ fr' 3 = v4 ∧ fr' 4 = .int .i64 s.1 ∧ SlN Reader.R 4 37 v4 s.2 c16 ∧ Sep h' h.length (c16 ++ ([]))) hX22 ⟨c5, by simp only [zf0, B0, reduceIte,
      reduceEqDiff], by simp only [B0, reduceIte, reduceEqDiff], by simp only [B0, reduceIte, reduceEqDiff], hv7, hS8⟩ (fun _ _ _ h => h) ?_ ?_
  · rintro ⟨s14, s15⟩ fr32 h33 ⟨c16, f35, f36, f37, hv17, hS34⟩ oc21 hF24 hr25 Q26 hN27 hK28 hR29 hE30
    dsimp only at *
    unfold laws_toReaderS_b1 at hF24
    simp only [x66_3, run_seq, run_reg, f37, run_mv, f35, run_len, put1_some, xlen_lst, run_bin, xlss, run_ops_nil, run_cond, B0, reduceIte, reduceEqDiff]
    refine cond_split (t := (decide (s14 < (List.length a_0 : Int)))) (fun hc39 => ?_) (fun hc39 => ?_)
    · rw [iteT hc39] at hF24
      obtain ⟨x40, hx41, hF42⟩ := bind_some' hF24
      simp only [run_skip, x66_2, run_seq, run_block, x66_1, run_reg, f36, run_mv, f37, f35, run_ia, B0, reduceIte, reduceEqDiff]
      refine put1_eq (v := .ref (Reader.cells x40) 0) (xia_lst hx41 rfl) ?_
      simp only [run_ld, B0, reduceIte, reduceEqDiff]
      refine put1_eq (v := .agg [.bool x40.In, .int .i64 x40.Generation, lst cI x40.Share, lst cI x40.Read]) rfl ?_
      obtain ⟨v43, hx44, hF45⟩ := bind_some' hF42
      simp only [run_call, B0, reduceIte, reduceEqDiff]
      refine call2 rfl hS34 (mapM1 (snap_agg (mapM1 snap_bool (mapM1 snap_int (mapM1 snap_lst (mapM1 snap_lst mapM0))))) mapM0) (laws_toReader_x
          (fun b hb => decide_eq_true hb) k x40 v43 hx44) ?_
      rintro _ h54 ⟨v46, c47, v50, c51, rfl, hv48, hv52, hS55⟩
      refine ⟨_, free_a (all_c rfl (all_c rfl (all_c (SlF.free1 hv48) (all_c (SlF.free1 hv52) all_n)))), hS55,
          (pf_app (SlF.pf hv48 (fun _ => rfl)) (pf_app (SlF.pf hv52 (fun _ => rfl)) pf_nil)), fun h56 hS57 => ?_⟩
      have hS58 : Sep h56 h.length (c47 ++ (c51 ++ (c16 ++ ([])))) := by simpa only [List.append_assoc, List.nil_append] using hS57
      obtain ⟨x59, hx60, hF61⟩ := bind_some' hF45
      simp only [run_ia, B0, reduceIte, reduceEqDiff]
      obtain ⟨b62, hb63⟩ := SlN.isrow hv17 (geti_ne hx60)
      refine put1_eq (SlN.ia hv17 hb63 hx60) ?_
      obtain ⟨c66, cs67, os68, hv69, hR70, hS71⟩ := SlG.opn (SlN.toG hv17 hb63 Reader.RO.len) hx60 hk_nil Reader.RO.len (Sep.m2 hS58)
      obtain ⟨v73, c74, v77, c78, hv75, hv79, rfl, rfl⟩ := hR70
      have hS72 := Sep.no2 hS71
      simp only [run_st, B0, reduceIte, reduceEqDiff]
      refine put2_stGx (us := [.bool v43.In, .int .i64 v43.Generation, v46, v50]) (o := 0) (cs' := [.bool v43.In, .int .i64 v43.Generation, v46,
          v50]) rfl hv69 rfl hx60 hS72 hW rfl (all_c rfl (all_c rfl (all_c (SlF.one hv48) (all_c (SlF.one hv52) all_n)))) (Nat.le_of_ble_eq_true rfl) rfl
          (fun c81 h64 hv82 hS65 => ?_)
      simp only [run_ops_nil, run_blk, run_reg, f37, run_mv, run_bin, put1_some, xadd, run_nil, B0, reduceIte, reduceEqDiff]
      obtain ⟨c83, hv84, hS85⟩ := SlG.cls (e' := v43) (c := c81) (os := c47 ++ (c51)) hv82 rfl hx60 hk_nil (Reader.RI (x := v43) hv48 hv52) (Sep.ni2 (c1 := c47) (c2 := c51)
          (Sep.m2 (Sep.m4 (Sep.m4 hS65))))
      have hx86 := geti_set (x' := v43) hx60
      have hv87 := SlG.toN hv84
      have e88 := some_inj hF61
      exact hN27 _ _ _ e88.symm ⟨c83, by simp only [f35, B0, reduceIte, reduceEqDiff], by simp only [f36, B0, reduceIte, reduceEqDiff], by simp only [B0, reduceIte, reduceEqDiff],
          hv87, (Sep.dc (Sep.m1 (Sep.dc (Sep.m1 hS85))))⟩
    rw [iteF hc39] at hF24
    simp only [run_exit, out_code, out_nil, B0, reduceIte, reduceEqDiff]
    have e89 := some_inj hF24
    exact hK28 _ _ _ e89.symm ⟨c16, by simp only [f35, B0, reduceIte, reduceEqDiff], by simp only [f36, B0, reduceIte, reduceEqDiff], by simp only [f37, B0, reduceIte,
        reduceEqDiff], hv17, hS34⟩
  rintro ⟨s91, s92⟩ fr95 h96 rfl ⟨c93, f98, f99, f100, hv94, hS97⟩
  dsimp only [jnO] at hk23
  dsimp only at *
  unfold laws_toReaderS_j1 at hk23
  simp only [run_seq, run_reg, f99, run_mv, run_ops_nil, run_ret, B0, reduceIte, reduceEqDiff]
  have he := some_inj hk23
  subst he
  simp only [end_ret1, B0, reduceIte, reduceEqDiff]
  exact ⟨v4, c93, by first | trivial | rfl, hv94, hS97⟩
theorem laws_toReaders_x {W : Nat → Bool} {h : Heap} (hW : ∀ b,
    h.length ≤ b → W b = true) (k : Nat) (a_0 : Readers_) (r : Readers_) (hF : laws_toReaders k a_0 = some r) : Ret E W 32 [.agg [.int .i64 a_0.Generation,
    lst Reader.cells a_0.Readers, lst cI a_0.Committed, lst cI a_0.Ends]] h (fun v h' => ∃ rv0_1 rc0_1 rv0_2 rc0_2 rv0_3 rc0_3, v = .agg [.int .i64 r.Generation, rv0_1, rv0_2,
    rv0_3] ∧ SlN Reader.R 4 37 rv0_1 r.Readers rc0_1 ∧ SlF cI 1 3 rv0_2 r.Committed rc0_2 ∧ SlF cI 1 3 rv0_3 r.Ends rc0_3 ∧ Sep h' h.length (rc0_1 ++ (rc0_2 ++ (rc0_3 ++
    ([]))))) := by
  refine Ret.of (fn := x32) rfl (Run.of ?_)
  unfold laws_toReaders at hF
  have zf0 : argFr [.agg [.int .i64 a_0.Generation, lst Reader.cells a_0.Readers, lst cI a_0.Committed, lst cI a_0.Ends]] 0 = .agg [.int .i64 a_0.Generation,
      lst Reader.cells a_0.Readers, lst cI a_0.Committed, lst cI a_0.Ends] := rfl
  generalize argFr [.agg [.int .i64 a_0.Generation, lst Reader.cells a_0.Readers, lst cI a_0.Committed, lst cI a_0.Ends]] = fr0 at zf0 ⊢
  have hS : Sep h h.length [] := Sep.nil h
  simp only [x32, run_seq, run_reg, run_box, zf0, B0, reduceIte, reduceEqDiff]
  refine put2_boxC (cs := [.int .i64 a_0.Generation, lst Reader.cells a_0.Readers, lst cI a_0.Committed, lst cI a_0.Ends]) hS rfl rfl rfl (fun b1 h2 hS3 => ?_)
  simp only [run_new, B0, reduceIte, reduceEqDiff]
  refine put2_newC hS3 (fun b5 h6 hS7 => ?_)
  simp only [run_ops_nil, B0, reduceIte, reduceEqDiff]
  refine frz_stepC (Sep.m1 hS7) hW (by simp only [B0, reduceIte, reduceEqDiff]) (fun h9 hS10 => ?_)
  simp only [run_frz_nil, x32_5, run_seq, run_reg, run_new, B0, reduceIte, reduceEqDiff]
  refine put2_newC hS10 (fun b11 h12 hS13 => ?_)
  simp only [run_ops_nil, x32_4, run_seq, run_reg, run_fa, put1_some, Nat.reduceAdd, Nat.zero_add, Nat.add_zero, xfa_ref, run_ld, B0, reduceIte, reduceEqDiff]
  refine put1_eq (v := .int .i64 a_0.Generation) rfl ?_
  simp only [run_fa, put1_some, Nat.reduceAdd, Nat.zero_add, Nat.add_zero, xfa_ptr, run_st, B0, reduceIte, reduceEqDiff]
  refine put2_stCx (us := [.int .i64 a_0.Generation]) rfl (cs' := [.int .i64 a_0.Generation, .nil, .nil, .nil]) hS13 hW rfl rfl (Nat.le_of_ble_eq_true rfl) rfl (fun h15 hS16 => ?_)
  simp only [run_ops_nil, x32_3, run_seq, run_reg, run_fa, put1_some, Nat.reduceAdd, Nat.zero_add, Nat.add_zero, xfa_ref, run_ld, B0, reduceIte, reduceEqDiff]
  refine put1_eq (v := lst Reader.cells a_0.Readers) rfl ?_
  obtain ⟨v17, hx18, hF19⟩ := bind_some' hF
  simp only [run_call, B0, reduceIte, reduceEqDiff]
  refine call2 rfl hS16 (mapM1 snap_lst mapM0) (laws_toReaderS_x (fun b hb => decide_eq_true hb) k a_0.Readers v17 hx18) ?_
  rintro v20 h24 ⟨_, c21, rfl, hv22, hS25⟩
  refine ⟨_, free_1 (SlN.free1 hv22), hS25, (pf_app (SlN.pf hv22 Reader.RO) pf_nil), fun h26 hS27 => ?_⟩
  have hS28 : Sep h26 h.length (c21 ++ ([Blk1 b11 [.int .i64 a_0.Generation, .nil, .nil, .nil] 29] ++ ([Blk1 b5 [.int .i64 0, .nil, .nil,
      .nil] 29] ++ ([])))) := by simpa only [List.append_assoc, List.nil_append] using hS27
  simp only [run_fa, put1_some, Nat.reduceAdd, Nat.zero_add, Nat.add_zero, xfa_ptr, run_st, B0, reduceIte, reduceEqDiff]
  refine put2_stCx (us := [v20]) (cells_one (SlN.one hv22)) (cs' := [.int .i64 a_0.Generation, v20, .nil,
      .nil]) (Sep.m1 hS28) hW rfl (all_c (SlN.one hv22) all_n) (Nat.le_of_ble_eq_true rfl) rfl (fun h29 hS30 => ?_)
  simp only [run_ops_nil, x32_2, run_seq, run_reg, run_fa, put1_some, Nat.reduceAdd, Nat.zero_add, Nat.add_zero, xfa_ref, run_ld, B0, reduceIte, reduceEqDiff]
  refine put1_eq (v := lst cI a_0.Committed) rfl ?_
  obtain ⟨v31, hx32, hF33⟩ := bind_some' hF19
  simp only [run_call, B0, reduceIte, reduceEqDiff]
  refine call2 rfl hS30 (mapM1 snap_lst mapM0) (laws_toIntS_x (fun b hb => decide_eq_true hb) k a_0.Committed v31 hx32) ?_
  rintro v34 h38 ⟨_, c35, rfl, hv36, hS39⟩
  refine ⟨_, free_1 (SlF.free1 hv36), hS39, (pf_app (SlF.pf hv36 (fun _ => rfl)) pf_nil), fun h40 hS41 => ?_⟩
  have hS42 : Sep h40 h.length (c35 ++ ([Blk1 b11 [.int .i64 a_0.Generation, v20, .nil, .nil] 29] ++ (c21 ++ ([Blk1 b5 [.int .i64 0, .nil, .nil,
      .nil] 29] ++ ([]))))) := by simpa only [List.append_assoc, List.nil_append] using hS41
  simp only [run_fa, put1_some, Nat.reduceAdd, Nat.zero_add, Nat.add_zero, xfa_ptr, run_st, B0, reduceIte, reduceEqDiff]
  refine put2_stCx (us := [v34]) (cells_one (SlF.one hv36)) (cs' := [.int .i64 a_0.Generation, v20, v34,
      .nil]) (Sep.m1 hS42) hW rfl (all_c (SlF.one hv36) all_n) (Nat.le_of_ble_eq_true rfl) rfl (fun h43 hS44 => ?_)
  simp only [run_ops_nil, x32_1, run_seq, run_reg, run_fa, put1_some, Nat.reduceAdd, Nat.zero_add, Nat.add_zero, xfa_ref, run_ld, B0, reduceIte, reduceEqDiff]
  refine put1_eq (v := lst cI a_0.Ends) rfl ?_
  obtain ⟨v45, hx46, hF47⟩ := bind_some' hF33
  simp only [run_call, B0, reduceIte, reduceEqDiff]
  refine call2 rfl hS44 (mapM1 snap_lst mapM0) (laws_toIntS_x (fun b hb => decide_eq_true hb) k a_0.Ends v45 hx46) ?_
  rintro v48 h52 ⟨_, c49, rfl, hv50, hS53⟩
  refine ⟨_, free_1 (SlF.free1 hv50), hS53, (pf_app (SlF.pf hv50 (fun _ => rfl)) pf_nil), fun h54 hS55 => ?_⟩
  have hS56 : Sep h54 h.length (c49 ++ ([Blk1 b11 [.int .i64 a_0.Generation, v20, v34, .nil] 29] ++ (c35 ++ (c21 ++ ([Blk1 b5 [.int .i64 0, .nil, .nil,
      .nil] 29] ++ ([])))))) := by simpa only [List.append_assoc, List.nil_append] using hS55
  simp only [run_fa, put1_some, Nat.reduceAdd, Nat.zero_add, Nat.add_zero, xfa_ptr, run_st, B0, reduceIte, reduceEqDiff]
  refine put2_stCx (us := [v48]) (cells_one (SlF.one hv50)) (cs' := [.int .i64 a_0.Generation, v20, v34,
      v48]) (Sep.m1 hS56) hW rfl (all_c (SlF.one hv50) all_n) (Nat.le_of_ble_eq_true rfl) rfl (fun h57 hS58 => ?_)
  simp only [run_ops_nil, run_seq, run_reg, run_ld, B0, reduceIte, reduceEqDiff]
  refine put1_eq (v := .agg [.int .i64 a_0.Generation, v20, v34, v48]) ((xld_bs (Sep.bk _ _ _ hS58)).trans rfl) ?_
  simp only [run_st, B0, reduceIte, reduceEqDiff]
  refine put2_stCx (us := [.int .i64 a_0.Generation, v20, v34, v48]) rfl (cs' := [.int .i64 a_0.Generation, v20, v34,
      v48]) (Sep.m4 hS58) hW rfl (all_c rfl (all_c (SlN.one hv22) (all_c (SlF.one hv36) (all_c (SlF.one hv50) all_n)))) (Nat.le_of_ble_eq_true rfl) rfl (fun h59 hS60 => ?_)
  simp only [run_ops_nil, run_ret, B0, reduceIte, reduceEqDiff]
  have he := some_inj hF47
  subst he
  refine end_ret_cell (bb := b5) (oo := 0) (v := .agg [.int .i64 a_0.Generation, v20, v34, v48]) (by simp only [B0, reduceIte,
      reduceEqDiff]) ((xld_bs (Sep.bk _ _ _ hS60)).trans rfl) ?_
  exact ⟨v20, c21, v34, c35, v48, c49, by first | trivial | rfl, hv22, hv36, hv50, (Sep.m2 (Sep.m1 (Sep.dc ((Sep.dc (hS60))))))⟩
theorem laws_toGroupStep_x {W : Nat → Bool} {h : Heap} (hW : ∀ b,
    h.length ≤ b → W b = true) (a_0 : GroupStep) (r : GroupStep) (hF : some (laws_toGroupStep a_0) = some r) : Ret E W 33 [.agg [.int .i64 a_0.Kind, .int .i64 a_0.K,
    .int .i64 a_0.Part, .int .i64 a_0.N]] h (fun v h' => cut h.length h' E.sz false 9 v = some (.agg [.int .i64 r.Kind, .int .i64 r.K, .int .i64 r.Part, .int .i64 r.N])) := by
  refine Ret.of (fn := x33) rfl (Run.of ?_)
  unfold laws_toGroupStep at hF
  have zf0 : argFr [.agg [.int .i64 a_0.Kind, .int .i64 a_0.K, .int .i64 a_0.Part, .int .i64 a_0.N]] 0 = .agg [.int .i64 a_0.Kind, .int .i64 a_0.K, .int .i64 a_0.Part,
      .int .i64 a_0.N] := rfl
  generalize argFr [.agg [.int .i64 a_0.Kind, .int .i64 a_0.K, .int .i64 a_0.Part, .int .i64 a_0.N]] = fr0 at zf0 ⊢
  have hS : Sep h h.length [] := Sep.nil h
  simp only [x33, run_seq, run_reg, run_box, zf0, B0, reduceIte, reduceEqDiff]
  refine put2_boxC (cs := [.int .i64 a_0.Kind, .int .i64 a_0.K, .int .i64 a_0.Part, .int .i64 a_0.N]) hS rfl rfl rfl (fun b1 h2 hS3 => ?_)
  simp only [run_new, B0, reduceIte, reduceEqDiff]
  refine put2_newC hS3 (fun b5 h6 hS7 => ?_)
  simp only [run_ops_nil, B0, reduceIte, reduceEqDiff]
  refine frz_stepC (Sep.m1 hS7) hW (by simp only [B0, reduceIte, reduceEqDiff]) (fun h9 hS10 => ?_)
  simp only [run_frz_nil, x33_5, run_seq, run_reg, run_new, B0, reduceIte, reduceEqDiff]
  refine put2_newC hS10 (fun b11 h12 hS13 => ?_)
  simp only [run_ops_nil, x33_4, run_seq, run_reg, run_fa, put1_some, Nat.reduceAdd, Nat.zero_add, Nat.add_zero, xfa_ref, run_ld, B0, reduceIte, reduceEqDiff]
  refine put1_eq (v := .int .i64 a_0.Kind) rfl ?_
  simp only [run_fa, put1_some, Nat.reduceAdd, Nat.zero_add, Nat.add_zero, xfa_ptr, run_st, B0, reduceIte, reduceEqDiff]
  refine put2_stCx (us := [.int .i64 a_0.Kind]) rfl (cs' := [.int .i64 a_0.Kind, .int .i64 0, .int .i64 0,
      .int .i64 0]) hS13 hW rfl rfl (Nat.le_of_ble_eq_true rfl) rfl (fun h15 hS16 => ?_)
  simp only [run_ops_nil, x33_3, run_seq, run_reg, run_fa, put1_some, Nat.reduceAdd, Nat.zero_add, Nat.add_zero, xfa_ref, run_ld, B0, reduceIte, reduceEqDiff]
  refine put1_eq (v := .int .i64 a_0.K) rfl ?_
  simp only [run_fa, put1_some, Nat.reduceAdd, Nat.zero_add, Nat.add_zero, xfa_ptr, run_st, B0, reduceIte, reduceEqDiff]
  refine put2_stCx (us := [.int .i64 a_0.K]) rfl (cs' := [.int .i64 a_0.Kind, .int .i64 a_0.K, .int .i64 0,
      .int .i64 0]) hS16 hW rfl rfl (Nat.le_of_ble_eq_true rfl) rfl (fun h17 hS18 => ?_)
  simp only [run_ops_nil, x33_2, run_seq, run_reg, run_fa, put1_some, Nat.reduceAdd, Nat.zero_add, Nat.add_zero, xfa_ref, run_ld, B0, reduceIte, reduceEqDiff]
  refine put1_eq (v := .int .i64 a_0.Part) rfl ?_
  simp only [run_fa, put1_some, Nat.reduceAdd, Nat.zero_add, Nat.add_zero, xfa_ptr, run_st, B0, reduceIte, reduceEqDiff]
  refine put2_stCx (us := [.int .i64 a_0.Part]) rfl (cs' := [.int .i64 a_0.Kind, .int .i64 a_0.K, .int .i64 a_0.Part,
      .int .i64 0]) hS18 hW rfl rfl (Nat.le_of_ble_eq_true rfl) rfl (fun h19 hS20 => ?_)
  simp only [run_ops_nil, x33_1, run_seq, run_reg, run_fa, put1_some, Nat.reduceAdd, Nat.zero_add, Nat.add_zero, xfa_ref, run_ld, B0, reduceIte, reduceEqDiff]
  refine put1_eq (v := .int .i64 a_0.N) rfl ?_
  simp only [run_fa, put1_some, Nat.reduceAdd, Nat.zero_add, Nat.add_zero, xfa_ptr, run_st, B0, reduceIte, reduceEqDiff]
  refine put2_stCx (us := [.int .i64 a_0.N]) rfl (cs' := [.int .i64 a_0.Kind, .int .i64 a_0.K, .int .i64 a_0.Part,
      .int .i64 a_0.N]) hS20 hW rfl rfl (Nat.le_of_ble_eq_true rfl) rfl (fun h21 hS22 => ?_)
  simp only [run_ops_nil, run_seq, run_reg, run_ld, B0, reduceIte, reduceEqDiff]
  refine put1_eq (v := .agg [.int .i64 a_0.Kind, .int .i64 a_0.K, .int .i64 a_0.Part, .int .i64 a_0.N]) ((xld_bs (Sep.bk _ _ _ hS22)).trans rfl) ?_
  simp only [run_st, B0, reduceIte, reduceEqDiff]
  refine put2_stCx (us := [.int .i64 a_0.Kind, .int .i64 a_0.K, .int .i64 a_0.Part, .int .i64 a_0.N]) rfl (cs' := [.int .i64 a_0.Kind, .int .i64 a_0.K, .int .i64 a_0.Part,
      .int .i64 a_0.N]) (Sep.m1 hS22) hW rfl rfl (Nat.le_of_ble_eq_true rfl) rfl (fun h23 hS24 => ?_)
  simp only [run_ops_nil, run_ret, B0, reduceIte, reduceEqDiff]
  have he := some_inj hF
  subst he
  refine end_ret_cell (bb := b5) (oo := 0) (v := .agg [.int .i64 a_0.Kind, .int .i64 a_0.K, .int .i64 a_0.Part, .int .i64 a_0.N]) (by simp only [B0, reduceIte,
      reduceEqDiff]) ((xld_bs (Sep.bk _ _ _ hS24)).trans rfl) ?_
  exact (cut_agg (mapM1 rfl (mapM1 rfl (mapM1 rfl (mapM1 rfl mapM0)))))
theorem slices_Index_int_x {W : Nat → Bool} {h : Heap} (hW : ∀ b,
    h.length ≤ b → W b = true) (s_0 : List Int) (v_1 : Int) (r : Int) (hF : slices_Index_int s_0 v_1 = some r) : Ret E W 83 [lst cI s_0,
    .int .i64 v_1] h (fun v h' => cut h.length h' E.sz false 9 v = some (.int .i64 r)) := by
  refine Ret.of (fn := x83) rfl (Run.of ?_)
  unfold slices_Index_int at hF
  have zf0 : argFr [lst cI s_0, .int .i64 v_1] 0 = lst cI s_0 := rfl
  have zf1 : argFr [lst cI s_0, .int .i64 v_1] 1 = .int .i64 v_1 := rfl
  generalize argFr [lst cI s_0, .int .i64 v_1] = fr0 at zf0 zf1 ⊢
  have hS : Sep h h.length [] := Sep.nil h
  simp only [x83, run_seq, run_reg, run_mv, run_ops_nil, x83_6, zf0, run_len, put1_some, xlen_lst, B0, reduceIte, reduceEqDiff]
  obtain ⟨oc3, hX5, hk6⟩ := jn_some hF
  simp only [x83_5]
  refine rangeL_j (σ := Unit) s_0 (fun i1 x2 _ => slices_Index_int_b1 v_1 i1 x2 ) (fun s fr' h' => fr' 0 = lst cI s_0 ∧ fr' 1 = .int .i64 v_1 ∧ Sep h' h.length
      ([])) hX5 ⟨by simp only [zf0, B0, reduceIte, reduceEqDiff], by simp only [zf1, B0, reduceIte, reduceEqDiff], hS⟩ (by simp only [B0, reduceIte,
      reduceEqDiff]) (by simp only [B0, reduceIte, reduceEqDiff]) (fun _ _ _ h => h) rfl rfl (fun _ _ _ _ h => h) (fun _ _ _ _ h => h) (fun _ _ _ _ h => h) (by decide) ?_ ?_
  · rintro i1 x2 _ fr15 h16 hx20 ⟨f18, f19, hS17⟩ f21 f22 oc4 hF7 hr8 Q9 hN10 hB14 hK11 hR12 hE13
    unfold slices_Index_int_b1 at hF7
    simp only [x83_3, run_seq, run_reg, f21, run_mv, run_ops_nil, x83_2, f19, f18, run_ia, B0, reduceIte, reduceEqDiff]
    refine put1_eq (v := .ref (cI x2) 0) (xia_lstN hx20 rfl) ?_
    simp only [run_ld, B0, reduceIte, reduceEqDiff]
    refine put1_eq (v := .int .i64 x2) rfl ?_
    simp only [run_bin, put1_some, xeql, run_ops_nil, x83_1, run_cond, B0, reduceIte, reduceEqDiff]
    refine cond_split (t := (decide (v_1 = x2))) (fun hc23 => ?_) (fun hc23 => ?_)
    · rw [iteT hc23] at hF7
      simp only [run_seq, run_reg, run_mv, run_ops_nil, run_ret, B0, reduceIte, reduceEqDiff]
      have e24 := some_inj hF7
      subst e24
      have ho25 := hr8 _ rfl
      have hk26 := hk6
      rw [ho25] at hk26
      dsimp only [jnO] at hk26
      apply hR12
      have he := some_inj hk26
      subst he
      simp only [end_ret1, B0, reduceIte, reduceEqDiff]
      exact rfl
    rw [iteF hc23] at hF7
    simp only [run_skip, run_nil, B0, reduceIte, reduceEqDiff]
    have e27 := some_inj hF7
    exact hN10 _ _ _ e27.symm ⟨by simp only [f18, B0, reduceIte, reduceEqDiff], by simp only [f19, B0, reduceIte, reduceEqDiff], hS17⟩ (by simp only [f21, B0, reduceIte,
        reduceEqDiff]) (by simp only [f22, B0, reduceIte, reduceEqDiff])
  rintro _ fr29 h30 rfl ⟨f32, f33, hS31⟩
  dsimp only [jnO] at hk6
  unfold slices_Index_int_j1 at hk6
  simp only [run_seq, run_reg, run_mv, run_ops_nil, run_ret, B0, reduceIte, reduceEqDiff]
  have he := some_inj hk6
  subst he
  simp only [end_ret1, B0, reduceIte, reduceEqDiff]
  exact rfl
theorem slices_Contains_int_x {W : Nat → Bool} {h : Heap} (hW : ∀ b,
    h.length ≤ b → W b = true) (s_0 : List Int) (v_1 : Int) (r : Bool) (hF : slices_Contains_int s_0 v_1 = some r) : Ret E W 58 [lst cI s_0,
    .int .i64 v_1] h (fun v h' => cut h.length h' E.sz false 9 v = some (.bool r)) := by
  refine Ret.of (fn := x58) rfl (Run.of ?_)
  unfold slices_Contains_int at hF
  have zf0 : argFr [lst cI s_0, .int .i64 v_1] 0 = lst cI s_0 := rfl
  have zf1 : argFr [lst cI s_0, .int .i64 v_1] 1 = .int .i64 v_1 := rfl
  generalize argFr [lst cI s_0, .int .i64 v_1] = fr0 at zf0 zf1 ⊢
  have hS : Sep h h.length [] := Sep.nil h
  obtain ⟨v1, hx2, hF3⟩ := bind_some' hF
  simp only [x58, run_seq, run_reg, run_mv, run_ops_nil, x58_1, zf0, zf1, run_call, B0, reduceIte, reduceEqDiff]
  refine call1 rfl (mapM1 snap_lst (mapM1 snap_int mapM0)) (slices_Index_int_x (fun b hb => decide_eq_true hb) s_0 v_1 v1 hx2) ?_
  simp only [run_bin, put1_some, xgeq, run_mv, run_ops_nil, run_ret, B0, reduceIte, reduceEqDiff]
  have he := some_inj hF3
  subst he
  simp only [end_ret1, B0, reduceIte, reduceEqDiff]
  exact rfl
theorem impl_in_x {W : Nat → Bool} {h : Heap} (hW : ∀ b,
    h.length ≤ b → W b = true) (n_0 : Int) (low_1 : Int) (high_2 : Int) (r : Bool) (hF : some (impl_in n_0 low_1 high_2) = some r) : Ret E W 71 [.int .i64 n_0, .int .i64 low_1,
    .int .i64 high_2] h (fun v h' => cut h.length h' E.sz false 9 v = some (.bool r)) := by
  refine Ret.of (fn := x71) rfl (Run.of ?_)
  unfold impl_in at hF
  have zf0 : argFr [.int .i64 n_0, .int .i64 low_1, .int .i64 high_2] 0 = .int .i64 n_0 := rfl
  have zf1 : argFr [.int .i64 n_0, .int .i64 low_1, .int .i64 high_2] 1 = .int .i64 low_1 := rfl
  have zf2 : argFr [.int .i64 n_0, .int .i64 low_1, .int .i64 high_2] 2 = .int .i64 high_2 := rfl
  generalize argFr [.int .i64 n_0, .int .i64 low_1, .int .i64 high_2] = fr0 at zf0 zf1 zf2 ⊢
  have hS : Sep h h.length [] := Sep.nil h
  simp only [x71, run_seq, run_reg, run_mv, run_ops_nil, x71_1, zf0, zf1, run_bin, put1_some, xgeq, B0, reduceIte, reduceEqDiff]
  refine ops_j 4 (fun fr' h' => Sep h' h.length ([]) ∧ fr' 14 = .bool ((decide (low_1 ≤ n_0)) && (decide (n_0 ≤ high_2)))) (fun Q1 hN2 => ?_) ?_
  · simp only [List.take_succ_cons, List.take_zero]
    simp only [run_guard (g := 10), B0, reduceIte, reduceEqDiff]
    refine guard_split (t := (decide (low_1 ≤ n_0))) (fun hg3 => ?_) (fun hg3 => ?_)
    · simp only [hg3, run_guard (g := 10), guard_true, zf0, run_mv, zf2, run_bin, put1_some, xleq, run_pick, xpick_t, run_ops_nil, run_nil, B0, reduceIte, reduceEqDiff]
      exact hN2 _ _ ⟨hS, by rw [andT hg3]; simp only [B0, reduceIte, reduceEqDiff]⟩
    · simp only [hg3, run_guard (g := 10), guard_off, run_pick, put1_some, xpick_f, run_ops_nil, run_nil, B0, reduceIte, reduceEqDiff]
      exact hN2 _ _ ⟨hS, by rw [andF hg3]; simp only [B0, reduceIte, reduceEqDiff]⟩
  rintro fr4 h6 ⟨hS7, f5⟩
  simp only [List.drop_succ_cons, List.drop_zero]
  simp only [f5, run_mv, run_ops_nil, run_ret, B0, reduceIte, reduceEqDiff]
  have he := some_inj hF
  subst he
  simp only [end_ret1, B0, reduceIte, reduceEqDiff]
  exact rfl
end Go.Proofs.Ytdhibknhejhfaaa.X
namespace Go.Proofs.Ytdhibknhejhfaaa.X
open Go
open Nat (reduceEqDiff)
theorem impl_Readers_shareOf_x {W : Nat → Bool} {h : Heap} (hW : ∀ b,
    h.length ≤ b → W b = true) (r_0 : Readers_) (k_1 : Int) (r : List Int) (hF : impl_Readers_shareOf r_0 k_1 = some r) : Ret E W 72 [.agg [.int .i64 r_0.Generation,
    lst Reader.cells r_0.Readers, lst cI r_0.Committed, lst cI r_0.Ends], .int .i64 k_1] h (fun v h' => ∃ rv0 rc0,
    v = rv0 ∧ SlF cI 1 3 rv0 r rc0 ∧ Sep h' h.length (rc0 ++ ([]))) := by
  refine Ret.of (fn := x72) rfl (Run.of ?_)
  unfold impl_Readers_shareOf at hF
  have zf0 : argFr [.agg [.int .i64 r_0.Generation, lst Reader.cells r_0.Readers, lst cI r_0.Committed, lst cI r_0.Ends], .int .i64 k_1] 0 = .agg [.int .i64 r_0.Generation,
      lst Reader.cells r_0.Readers, lst cI r_0.Committed, lst cI r_0.Ends] := rfl
  have zf1 : argFr [.agg [.int .i64 r_0.Generation, lst Reader.cells r_0.Readers, lst cI r_0.Committed, lst cI r_0.Ends], .int .i64 k_1] 1 = .int .i64 k_1 := rfl
  generalize argFr [.agg [.int .i64 r_0.Generation, lst Reader.cells r_0.Readers, lst cI r_0.Committed, lst cI r_0.Ends], .int .i64 k_1] = fr0 at zf0 zf1 ⊢
  have hS : Sep h h.length [] := Sep.nil h
  simp only [x72, run_seq, run_reg, run_box, zf0, B0, reduceIte, reduceEqDiff]
  refine put2_boxC (cs := [.int .i64 r_0.Generation, lst Reader.cells r_0.Readers, lst cI r_0.Committed, lst cI r_0.Ends]) hS rfl rfl rfl (fun b1 h2 hS3 => ?_)
  simp only [run_mv, run_ops_nil, B0, reduceIte, reduceEqDiff]
  refine frz_stepC hS3 hW (by simp only [B0, reduceIte, reduceEqDiff]) (fun h5 hS6 => ?_)
  simp only [run_frz_nil, x72_17, run_seq, run_reg, run_mv, run_ops_nil, x72_16, run_fa, put1_some, Nat.reduceAdd, Nat.zero_add, Nat.add_zero, xfa_ref, run_ld, B0, reduceIte,
      reduceEqDiff]
  refine put1_eq (v := lst Reader.cells r_0.Readers) rfl ?_
  simp only [run_len, put1_some, xlen_lst, run_mv, run_ops_nil, B0, reduceIte, reduceEqDiff]
  obtain ⟨oc13, hX15, hk16⟩ := jn_some hF
  simp only [x72_7]
  refine rangeL_j (σ := Int × Int) r_0.Readers (fun i11 x12 s49 => impl_Readers_shareOf_b1 k_1 i11 x12 s49.1 s49.2)
      (fun s fr' h' => fr' 1 = .int .i64 k_1 ∧ fr' 2 = .ref [.int .i64 r_0.Generation, lst Reader.cells r_0.Readers, lst cI r_0.Committed,
      lst cI r_0.Ends] 0 ∧ fr' 5 = .int .i64 s.1 ∧ fr' 6 = .int .i64 s.2 ∧ fr' 12 = lst Reader.cells r_0.Readers ∧ Sep h' h.length ([])) hX15 ⟨by simp only [zf1, B0, reduceIte,
      reduceEqDiff], by simp only [B0, reduceIte, reduceEqDiff], by simp only [B0, reduceIte, reduceEqDiff], by simp only [B0, reduceIte, reduceEqDiff], by simp only [B0,
      reduceIte, reduceEqDiff], hS6⟩ (by simp only [B0, reduceIte, reduceEqDiff]) (by simp only [B0, reduceIte,
      reduceEqDiff]) (fun _ _ _ h => h) rfl rfl (fun _ _ _ _ h => h) (fun _ _ _ _ h => h) (fun _ _ _ _ h => h) (by decide) ?_ ?_
  · rintro i11 x12 ⟨s9, s10⟩ fr25 h26 hx33 ⟨f28, f29, f30, f31, f32, hS27⟩ f34 f35 oc14 hF17 hr18 Q19 hN20 hB24 hK21 hR22 hE23
    dsimp only at *
    unfold impl_Readers_shareOf_b1 at hF17
    simp only [x72_5, run_seq, run_reg, f34, run_mv, f32, run_ia, B0, reduceIte, reduceEqDiff]
    refine put1_eq (v := .ref (Reader.cells x12) 0) (xia_lstN hx33 rfl) ?_
    simp only [run_ld, B0, reduceIte, reduceEqDiff]
    refine put1_eq (v := .agg [.bool x12.In, .int .i64 x12.Generation, lst cI x12.Share, lst cI x12.Read]) rfl ?_
    simp only [run_new, B0, reduceIte, reduceEqDiff]
    refine put2_newC hS27 (fun b36 h37 hS38 => ?_)
    simp only [run_mv, run_st, B0, reduceIte, reduceEqDiff]
    refine put2_stCx (us := [.bool x12.In, .int .i64 x12.Generation, lst cI x12.Share, lst cI x12.Read]) rfl (cs' := [.bool x12.In, .int .i64 x12.Generation, lst cI x12.Share,
        lst cI x12.Read]) hS38 hW rfl rfl (Nat.le_of_ble_eq_true rfl) rfl (fun h40 hS41 => ?_)
    simp only [run_ops_nil, B0, reduceIte, reduceEqDiff]
    refine frz_stepC hS41 hW (by simp only [B0, reduceIte, reduceEqDiff]) (fun h42 hS43 => ?_)
    simp only [run_frz_nil, x72_4, run_seq, run_reg, run_fa, put1_some, Nat.reduceAdd, Nat.zero_add, Nat.add_zero, xfa_ref, run_ld, B0, reduceIte, reduceEqDiff]
    refine put1_eq (v := .bool x12.In) rfl ?_
    simp only [run_ops_nil, x72_3, run_cond, B0, reduceIte, reduceEqDiff]
    refine cond_split (t := x12.In) (fun hc44 => ?_) (fun hc44 => ?_)
    · rw [iteT hc44] at hF17
      simp only [x72_2, run_seq, run_reg, run_mv, f28, run_bin, put1_some, xlss, run_ops_nil, x72_1, run_cond, B0, reduceIte, reduceEqDiff]
      refine cond_split (t := (decide ((i11 : Int) < k_1))) (fun hc45 => ?_) (fun hc45 => ?_)
      · rw [iteT hc45] at hF17
        simp only [run_reg, f31, run_mv, run_bin, put1_some, xadd, run_ops_nil, f30, run_nil, B0, reduceIte, reduceEqDiff]
        have e46 := some_inj hF17
        exact hN20 _ _ _ e46.symm ⟨by simp only [f28, B0, reduceIte, reduceEqDiff], by simp only [f29, B0, reduceIte, reduceEqDiff], by simp only [B0, reduceIte, reduceEqDiff],
            by simp only [B0, reduceIte, reduceEqDiff], by simp only [f32, B0, reduceIte, reduceEqDiff], hS43⟩ (by simp only [f34, B0, reduceIte,
            reduceEqDiff]) (by simp only [f35, B0, reduceIte, reduceEqDiff])
      rw [iteF hc45] at hF17
      simp only [run_skip, run_reg, f30, run_mv, run_bin, put1_some, xadd, run_ops_nil, run_nil, B0, reduceIte, reduceEqDiff]
      have e47 := some_inj hF17
      exact hN20 _ _ _ e47.symm ⟨by simp only [f28, B0, reduceIte, reduceEqDiff], by simp only [f29, B0, reduceIte, reduceEqDiff], by simp only [B0, reduceIte, reduceEqDiff],
          by simp only [f31, B0, reduceIte, reduceEqDiff], by simp only [f32, B0, reduceIte, reduceEqDiff], hS43⟩ (by simp only [f34, B0, reduceIte,
          reduceEqDiff]) (by simp only [f35, B0, reduceIte, reduceEqDiff])
    rw [iteF hc44] at hF17
    simp only [run_skip, run_nil, B0, reduceIte, reduceEqDiff]
    have e48 := some_inj hF17
    exact hN20 _ _ _ e48.symm ⟨by simp only [f28, B0, reduceIte, reduceEqDiff], by simp only [f29, B0, reduceIte, reduceEqDiff], by simp only [f30, B0, reduceIte, reduceEqDiff],
        by simp only [f31, B0, reduceIte, reduceEqDiff], by simp only [f32, B0, reduceIte, reduceEqDiff], hS43⟩ (by simp only [f34, B0, reduceIte,
        reduceEqDiff]) (by simp only [f35, B0, reduceIte, reduceEqDiff])
  rintro ⟨s50, s51⟩ fr52 h53 rfl ⟨f55, f56, f57, f58, f59, hS54⟩
  dsimp only [jnO] at hk16
  dsimp only at *
  unfold impl_Readers_shareOf_j2 at hk16
  simp only [x72_15, run_seq, run_reg, run_buildS, evp, B0, reduceIte, reduceEqDiff]
  refine put2_buildSF (n := 1) (f := cI) ([] : List Int) hS54 rfl rfl (fun v60 c61 h62 hv63 hS64 => ?_)
  simp only [run_mv, run_ops_nil, x72_14, run_seq, run_reg, f56, run_fa, put1_some, Nat.reduceAdd, Nat.zero_add, Nat.add_zero, xfa_ref, run_ld, B0, reduceIte, reduceEqDiff]
  refine put1_eq (v := lst cI r_0.Ends) rfl ?_
  simp only [run_len, put1_some, xlen_lst, run_mv, run_ops_nil, B0, reduceIte, reduceEqDiff]
  obtain ⟨oc78, hX80, hk81⟩ := jn_some hk16
  simp only [x72_13]
  refine rangeN_j (σ := (List Int)) (fun i76 s119 => impl_Readers_shareOf_b2 s50 s51 i76 s119) (fun s fr' h' => ∃ v73 c74,
      fr' 5 = .int .i64 s50 ∧ fr' 6 = .int .i64 s51 ∧ fr' 9 = v73 ∧ SlF cI 1 3 v73 s c74 ∧ Sep h' h.length (c74 ++ ([]))) hX80 ⟨v60, c61, by simp only [f57, B0, reduceIte,
      reduceEqDiff], by simp only [f58, B0, reduceIte, reduceEqDiff], by simp only [B0, reduceIte, reduceEqDiff], hv63, hS64⟩ (by simp only [B0, reduceIte,
      reduceEqDiff]) (by simp only [B0, reduceIte, reduceEqDiff]) (fun _ _ _ h => h) rfl rfl (fun _ _ _ _ h => h) (fun _ _ _ _ h => h) (fun _ _ _ _ h => h) (by decide) ?_ ?_
  · rintro i76 s71 fr90 h91 hx96 ⟨v73, c74, f93, f94, f95, hv75, hS92⟩ f97 f98 oc79 hF82 hr83 Q84 hN85 hB89 hK86 hR87 hE88
    unfold impl_Readers_shareOf_b2 at hF82
    obtain ⟨hp99, hF100⟩ := ck_some hF82
    simp only [x72_11, run_seq, run_reg, f97, run_mv, run_ops_nil, x72_10, f93, run_bin, put1_some, xrem_nz (n := s50) hp99, f94, xeql, x72_9, run_cond, B0, reduceIte,
        reduceEqDiff]
    refine cond_split (t := (decide ((Int.tmod (i76 : Int) s50) = s51))) (fun hc101 => ?_) (fun hc101 => ?_)
    · rw [iteT hc101] at hF100
      simp only [x72_8, run_reg, f95, run_mv, run_buildS, evp, B0, reduceIte, reduceEqDiff]
      refine put2_buildSF (n := 1) (f := cI) [(i76 : Int)] hS92 rfl rfl (fun v102 c103 h104 hv105 hS106 => ?_)
      simp only [run_app, B0, reduceIte, reduceEqDiff]
      obtain ⟨l108, hx109, hF110⟩ := bind_some' hF100
      refine put2_appF (f := cI) hv75 (Sep.m1 hS106) hW (fun _ => rfl) (fun _ => rfl) (SlF.first hv105 hS106 (fun _ => rfl)) hx109 (fun v111 c112 h113 hv114 hS115 => ?_)
      simp only [run_mv, run_ops_nil, run_nil, B0, reduceIte, reduceEqDiff]
      have e117 := some_inj hF110
      exact hN85 _ _ _ e117.symm ⟨v111, c112, by simp only [f93, B0, reduceIte, reduceEqDiff], by simp only [f94, B0, reduceIte, reduceEqDiff], by simp only [B0, reduceIte,
          reduceEqDiff], hv114, (Sep.dc (Sep.m1 hS115))⟩ (by simp only [f97, B0, reduceIte, reduceEqDiff]) (by simp only [f98, B0, reduceIte, reduceEqDiff])
    rw [iteF hc101] at hF100
    simp only [run_skip, run_nil, B0, reduceIte, reduceEqDiff]
    have e118 := some_inj hF100
    exact hN85 _ _ _ e118.symm ⟨v73, c74, by simp only [f93, B0, reduceIte, reduceEqDiff], by simp only [f94, B0, reduceIte, reduceEqDiff], by simp only [f95, B0, reduceIte,
        reduceEqDiff], hv75, hS92⟩ (by simp only [f97, B0, reduceIte, reduceEqDiff]) (by simp only [f98, B0, reduceIte, reduceEqDiff])
  rintro s120 fr125 h126 rfl ⟨v122, c123, f128, f129, f130, hv124, hS127⟩
  dsimp only [jnO] at hk81
  unfold impl_Readers_shareOf_j1 at hk81
  simp only [run_seq, run_reg, f130, run_mv, run_ops_nil, run_ret, B0, reduceIte, reduceEqDiff]
  have he := some_inj hk81
  subst he
  simp only [end_ret1, B0, reduceIte, reduceEqDiff]
  exact ⟨v122, c123, by first | trivial | rfl, hv124, hS127⟩
theorem impl_Readers_step_x {W : Nat → Bool} {h : Heap} {lo : Nat} {S0 : List Obj} (hW : ∀ b,
    lo ≤ b → W b = true) (pb0 : Nat) (v_0 : Readers_) (pv0_1 : XV) (pc0_1 : List Obj) (ph0_1 : SlN Reader.R 4 37 pv0_1 v_0.Readers pc0_1) (pv0_2 : XV) (pc0_2 : List Obj)
    (ph0_2 : SlF cI 1 3 pv0_2 v_0.Committed pc0_2) (pv0_3 : XV) (pc0_3 : List Obj) (ph0_3 : SlF cI 1 3 pv0_3 v_0.Ends pc0_3) (v_1 : GroupStep) (r : Bool × Readers_)
    (hF : impl_Readers_step v_0 v_1 = some r) (hS : Sep h lo ([Blk1 pb0 [.int .i64 v_0.Generation, pv0_1, pv0_2,
    pv0_3] 29] ++ (pc0_1 ++ (pc0_2 ++ (pc0_3 ++ (S0)))))) : Ret E W 52 [.ptr pb0 0, .agg [.int .i64 v_1.Kind, .int .i64 v_1.K, .int .i64 v_1.Part,
    .int .i64 v_1.N]] h (fun v h' => ∃ iv0_1 ic0_1 iv0_2 ic0_2 iv0_3 ic0_3,
    v = .bool r.1 ∧ SlN Reader.R 4 37 iv0_1 r.2.Readers ic0_1 ∧ SlF cI 1 3 iv0_2 r.2.Committed ic0_2 ∧ SlF cI 1 3 iv0_3 r.2.Ends ic0_3 ∧ Sep h' lo
    ([Blk1 pb0 [.int .i64 r.2.Generation, iv0_1, iv0_2, iv0_3] 29] ++ (ic0_1 ++ (ic0_2 ++ (ic0_3 ++ (S0)))))) := by
  refine Ret.of (fn := x52) rfl (Run.of ?_)
  unfold impl_Readers_step at hF
  have zf0 : argFr [.ptr pb0 0, .agg [.int .i64 v_1.Kind, .int .i64 v_1.K, .int .i64 v_1.Part, .int .i64 v_1.N]] 0 = .ptr pb0 0 := rfl
  have zf1 : argFr [.ptr pb0 0, .agg [.int .i64 v_1.Kind, .int .i64 v_1.K, .int .i64 v_1.Part, .int .i64 v_1.N]] 1 = .agg [.int .i64 v_1.Kind, .int .i64 v_1.K, .int .i64 v_1.Part,
      .int .i64 v_1.N] := rfl
  generalize argFr [.ptr pb0 0, .agg [.int .i64 v_1.Kind, .int .i64 v_1.K, .int .i64 v_1.Part, .int .i64 v_1.N]] = fr0 at zf0 zf1 ⊢
  simp only [x52, run_seq, run_reg, run_box, zf1, B0, reduceIte, reduceEqDiff]
  refine put2_boxC (cs := [.int .i64 v_1.Kind, .int .i64 v_1.K, .int .i64 v_1.Part, .int .i64 v_1.N]) hS rfl rfl rfl (fun b1 h2 hS3 => ?_)
  simp only [run_mv, run_ops_nil, B0, reduceIte, reduceEqDiff]
  refine frz_stepC hS3 hW (by simp only [B0, reduceIte, reduceEqDiff]) (fun h5 hS6 => ?_)
  simp only [run_frz_nil, x52_31, run_seq, run_draw, d4_fa, put1d_some, Nat.reduceAdd, Nat.zero_add, Nat.add_zero, xfa_ref, d4_ld, B0, reduceIte, reduceEqDiff]
  refine put1d_eq (v := .int .i64 v_1.K) rfl ?_
  simp only [zf0, d4_mv, put1d_some, d4_chk, xchk_ptr, d4_fa, Nat.reduceAdd, Nat.zero_add, Nat.add_zero, xfa_ptr, d4_ld, B0, reduceIte, reduceEqDiff]
  refine put1d_eq (v := pv0_1) ((xld_b (Sep.bk _ _ _ hS6)).trans rfl) ?_
  simp only [d4_len, put1d_some, SlN.len ph0_1, d4_bin, xsub, run_d3_call, B0, reduceIte, reduceEqDiff]
  refine call1d rfl (mapM1 snap_int (mapM1 snap_int (mapM1 snap_int mapM0))) (impl_in_x (fun b hb => decide_eq_true hb) v_1.K 0 (IntKind.wrap .i64
      ((List.length v_0.Readers : Int) - 1)) _ rfl) ?_
  simp only [d4_un, put1d_some, xnot, d4_mv, B0, reduceIte, reduceEqDiff]
  refine draw_j 9 (fun fr' h' => Sep h' lo ([Blk1 pb0 [.int .i64 v_0.Generation, pv0_1, pv0_2,
      pv0_3] 29] ++ (pc0_1 ++ (pc0_2 ++ (pc0_3 ++ (S0))))) ∧ fr' 28 = .bool ((!(impl_in v_1.K 0 (IntKind.wrap .i64 ((List.length v_0.Readers : Int) - 1)))) || ((decide
      (v_1.Kind ≠ 4)) && (decide (v_1.N ≠ 0)))) ∧ fr' 0 = .ptr pb0 0 ∧ fr' 3 = .ref [.int .i64 v_1.Kind, .int .i64 v_1.K, .int .i64 v_1.Part,
      .int .i64 v_1.N] 0) rfl (fun Q7 hN8 => ?_) ?_
  · simp only [List.take_succ_cons, List.take_zero]
    simp only [run_guardd (g := 19), B0, reduceIte, reduceEqDiff]
    refine guardd_split (t := (!(impl_in v_1.K 0 (IntKind.wrap .i64 ((List.length v_0.Readers : Int) - 1))))) (fun hg9 => ?_) (fun hg9 => ?_)
    · simp only [hg9, run_guardd (g := 19), guardd_off', run_guardd (g := 23), guardd_tup, d4_pick, put1d_some, xpick_t, run_draw_nil, run_nil, B0, reduceIte, reduceEqDiff]
      exact hN8 _ _ ⟨(Sep.m3 (Sep.m3 (Sep.m3 (Sep.m3 hS6)))), by rw [orT hg9]; simp only [B0, reduceIte, reduceEqDiff], by simp only [zf0, B0, reduceIte, reduceEqDiff],
          by simp only [B0, reduceIte, reduceEqDiff]⟩
    · simp only [hg9, run_guardd (g := 19), guardd_false, d4_fa, put1d_some, Nat.reduceAdd, Nat.zero_add, Nat.add_zero, xfa_ref, d4_ld, B0, reduceIte, reduceEqDiff]
      refine put1d_eq (v := .int .i64 v_1.Kind) rfl ?_
      simp only [hg9, run_guardd (g := 19), guardd_false, d4_bin, put1d_some, xneq, d4_mv, B0, reduceIte, reduceEqDiff]
      refine draw_j 4 (fun fr' h' => Sep h' lo ([Blk1 pb0 [.int .i64 v_0.Generation, pv0_1, pv0_2,
          pv0_3] 29] ++ (pc0_1 ++ (pc0_2 ++ (pc0_3 ++ (S0))))) ∧ fr' 27 = .bool ((decide (v_1.Kind ≠ 4)) && (decide
          (v_1.N ≠ 0))) ∧ fr' 0 = .ptr pb0 0 ∧ fr' 3 = .ref [.int .i64 v_1.Kind, .int .i64 v_1.K, .int .i64 v_1.Part,
          .int .i64 v_1.N] 0 ∧ fr' 19 = .bool (!(impl_in v_1.K 0 (IntKind.wrap .i64 ((List.length v_0.Readers : Int) - 1))))) rfl (fun Q10 hN11 => ?_) ?_
      · simp only [List.take_succ_cons, List.take_zero]
        simp only [run_guardd (g := 23), B0, reduceIte, reduceEqDiff]
        refine guardd_split (t := (decide (v_1.Kind ≠ 4))) (fun hg12 => ?_) (fun hg12 => ?_)
        · simp only [hg12, run_guardd (g := 23), guardd_true, d4_fa, put1d_some, Nat.reduceAdd, Nat.zero_add, Nat.add_zero, xfa_ref, d4_ld, B0, reduceIte, reduceEqDiff]
          refine put1d_eq (v := .int .i64 v_1.N) rfl ?_
          simp only [hg12, run_guardd (g := 23), guardd_true, d4_bin, put1d_some, xneq, hg9, run_guardd (g := 19), guardd_false, d4_pick, xpick_t, run_draw_nil, run_nil, B0,
              reduceIte, reduceEqDiff]
          exact hN11 _ _ ⟨(Sep.m3 (Sep.m3 (Sep.m3 (Sep.m3 hS6)))), by rw [andT hg12]; simp only [B0, reduceIte, reduceEqDiff], by simp only [zf0, B0, reduceIte, reduceEqDiff],
              by simp only [B0, reduceIte, reduceEqDiff], by simp only [hg9, B0, reduceIte, reduceEqDiff]⟩
        · simp only [hg12, run_guardd (g := 23), guardd_off, hg9, run_guardd (g := 19), guardd_false, d4_pick, put1d_some, xpick_f, run_draw_nil, run_nil, B0, reduceIte,
            reduceEqDiff]
          exact hN11 _ _ ⟨(Sep.m3 (Sep.m3 (Sep.m3 (Sep.m3 hS6)))), by rw [andF hg12]; simp only [B0, reduceIte, reduceEqDiff], by simp only [zf0, B0, reduceIte, reduceEqDiff],
              by simp only [B0, reduceIte, reduceEqDiff], by simp only [hg9, B0, reduceIte, reduceEqDiff]⟩
      rintro fr13 h18 ⟨hS19, f14, f15, f16, f17⟩
      simp only [List.drop_succ_cons, List.drop_zero]
      simp only [f17, hg9, d4_pick, put1d_some, xpick_f, f14, run_draw_nil, run_nil, B0, reduceIte, reduceEqDiff]
      exact hN8 _ _ ⟨(Sep.m3 (Sep.m3 (Sep.m3 (Sep.m3 hS19)))), by rw [orF hg9]; simp only [B0, reduceIte, reduceEqDiff], by simp only [f15, B0, reduceIte, reduceEqDiff],
          by simp only [f16, B0, reduceIte, reduceEqDiff]⟩
  rintro fr20 h24 ⟨hS25, f21, f22, f23⟩
  simp only [List.drop_succ_cons, List.drop_zero]
  simp only [f21, d4_mv, put1d_some, B0, reduceIte, reduceEqDiff]
  refine draw_j 14 (fun fr' h' => Sep h' lo ([Blk1 pb0 [.int .i64 v_0.Generation, pv0_1, pv0_2,
      pv0_3] 29] ++ (pc0_1 ++ (pc0_2 ++ (pc0_3 ++ (S0))))) ∧ fr' 43 = .bool (((!(impl_in v_1.K 0 (IntKind.wrap .i64 ((List.length v_0.Readers : Int) - 1)))) || ((decide
      (v_1.Kind ≠ 4)) && (decide (v_1.N ≠ 0)))) || (((decide (v_1.Kind ≠ 4)) && (decide (v_1.Kind ≠ 5))) && (decide
      (v_1.Part ≠ 0)))) ∧ fr' 0 = .ptr pb0 0 ∧ fr' 3 = .ref [.int .i64 v_1.Kind, .int .i64 v_1.K, .int .i64 v_1.Part, .int .i64 v_1.N] 0) rfl (fun Q26 hN27 => ?_) ?_
  · simp only [List.take_succ_cons, List.take_zero]
    simp only [run_guardd (g := 29), B0, reduceIte, reduceEqDiff]
    refine guardd_split (t := ((!(impl_in v_1.K 0 (IntKind.wrap .i64 ((List.length v_0.Readers : Int) - 1)))) || ((decide (v_1.Kind ≠ 4)) && (decide (v_1.N ≠ 0)))))
        (fun hg28 => ?_) (fun hg28 => ?_)
    · simp only [hg28, run_guardd (g := 29), guardd_off', run_guardd (g := 33), guardd_tup, run_guardd (g := 38), d4_pick, put1d_some, xpick_t, run_draw_nil, run_nil, B0,
        reduceIte, reduceEqDiff]
      exact hN27 _ _ ⟨(Sep.m3 (Sep.m3 (Sep.m3 (Sep.m3 hS25)))), by rw [orT hg28]; simp only [B0, reduceIte, reduceEqDiff], by simp only [f22, B0, reduceIte, reduceEqDiff],
          by simp only [f23, B0, reduceIte, reduceEqDiff]⟩
    · simp only [hg28, run_guardd (g := 29), guardd_false, f23, d4_fa, put1d_some, Nat.reduceAdd, Nat.zero_add, Nat.add_zero, xfa_ref, d4_ld, B0, reduceIte, reduceEqDiff]
      refine put1d_eq (v := .int .i64 v_1.Kind) rfl ?_
      simp only [hg28, run_guardd (g := 29), guardd_false, d4_bin, put1d_some, xneq, d4_mv, B0, reduceIte, reduceEqDiff]
      refine draw_j 4 (fun fr' h' => Sep h' lo ([Blk1 pb0 [.int .i64 v_0.Generation, pv0_1, pv0_2,
          pv0_3] 29] ++ (pc0_1 ++ (pc0_2 ++ (pc0_3 ++ (S0))))) ∧ fr' 37 = .bool ((decide (v_1.Kind ≠ 4)) && (decide
          (v_1.Kind ≠ 5))) ∧ fr' 0 = .ptr pb0 0 ∧ fr' 3 = .ref [.int .i64 v_1.Kind, .int .i64 v_1.K, .int .i64 v_1.Part,
          .int .i64 v_1.N] 0 ∧ fr' 29 = .bool ((!(impl_in v_1.K 0 (IntKind.wrap .i64 ((List.length v_0.Readers : Int) - 1)))) || ((decide (v_1.Kind ≠ 4)) && (decide
          (v_1.N ≠ 0))))) rfl (fun Q29 hN30 => ?_) ?_
      · simp only [List.take_succ_cons, List.take_zero]
        simp only [run_guardd (g := 33), B0, reduceIte, reduceEqDiff]
        refine guardd_split (t := (decide (v_1.Kind ≠ 4))) (fun hg31 => ?_) (fun hg31 => ?_)
        · simp only [hg31, run_guardd (g := 33), guardd_true, f23, d4_fa, put1d_some, Nat.reduceAdd, Nat.zero_add, Nat.add_zero, xfa_ref, d4_ld, B0, reduceIte, reduceEqDiff]
          refine put1d_eq (v := .int .i64 v_1.Kind) rfl ?_
          simp only [hg31, run_guardd (g := 33), guardd_true, d4_bin, put1d_some, xneq, hg28, run_guardd (g := 29), guardd_false, d4_pick, xpick_t, run_draw_nil, run_nil, B0,
              reduceIte, reduceEqDiff]
          exact hN30 _ _ ⟨(Sep.m3 (Sep.m3 (Sep.m3 (Sep.m3 hS25)))), by rw [andT hg31]; simp only [B0, reduceIte, reduceEqDiff], by simp only [f22, B0, reduceIte, reduceEqDiff],
              by simp only [f23, B0, reduceIte, reduceEqDiff], by simp only [hg28, B0, reduceIte, reduceEqDiff]⟩
        · simp only [hg31, run_guardd (g := 33), guardd_off, hg28, run_guardd (g := 29), guardd_false, d4_pick, put1d_some, xpick_f, run_draw_nil, run_nil, B0, reduceIte,
            reduceEqDiff]
          exact hN30 _ _ ⟨(Sep.m3 (Sep.m3 (Sep.m3 (Sep.m3 hS25)))), by rw [andF hg31]; simp only [B0, reduceIte, reduceEqDiff], by simp only [f22, B0, reduceIte, reduceEqDiff],
              by simp only [f23, B0, reduceIte, reduceEqDiff], by simp only [hg28, B0, reduceIte, reduceEqDiff]⟩
      rintro fr32 h37 ⟨hS38, f33, f34, f35, f36⟩
      simp only [List.drop_succ_cons, List.drop_zero]
      simp only [f36, hg28, run_guardd (g := 29), guardd_false, f33, d4_mv, put1d_some, B0, reduceIte, reduceEqDiff]
      refine draw_j 4 (fun fr' h' => Sep h' lo ([Blk1 pb0 [.int .i64 v_0.Generation, pv0_1, pv0_2,
          pv0_3] 29] ++ (pc0_1 ++ (pc0_2 ++ (pc0_3 ++ (S0))))) ∧ fr' 42 = .bool (((decide (v_1.Kind ≠ 4)) && (decide (v_1.Kind ≠ 5))) && (decide
          (v_1.Part ≠ 0))) ∧ fr' 0 = .ptr pb0 0 ∧ fr' 3 = .ref [.int .i64 v_1.Kind, .int .i64 v_1.K, .int .i64 v_1.Part,
          .int .i64 v_1.N] 0 ∧ fr' 29 = .bool ((!(impl_in v_1.K 0 (IntKind.wrap .i64 ((List.length v_0.Readers : Int) - 1)))) || ((decide (v_1.Kind ≠ 4)) && (decide
          (v_1.N ≠ 0))))) rfl (fun Q39 hN40 => ?_) ?_
      · simp only [List.take_succ_cons, List.take_zero]
        simp only [run_guardd (g := 38), B0, reduceIte, reduceEqDiff]
        refine guardd_split (t := ((decide (v_1.Kind ≠ 4)) && (decide (v_1.Kind ≠ 5)))) (fun hg41 => ?_) (fun hg41 => ?_)
        · simp only [hg41, run_guardd (g := 38), guardd_true, f35, d4_fa, put1d_some, Nat.reduceAdd, Nat.zero_add, Nat.add_zero, xfa_ref, d4_ld, B0, reduceIte, reduceEqDiff]
          refine put1d_eq (v := .int .i64 v_1.Part) rfl ?_
          simp only [hg41, run_guardd (g := 38), guardd_true, d4_bin, put1d_some, xneq, f36, hg28, run_guardd (g := 29), guardd_false, d4_pick, xpick_t, run_draw_nil, run_nil, B0,
              reduceIte, reduceEqDiff]
          exact hN40 _ _ ⟨(Sep.m3 (Sep.m3 (Sep.m3 (Sep.m3 hS38)))), by rw [andT hg41]; simp only [B0, reduceIte, reduceEqDiff], by simp only [f34, B0, reduceIte, reduceEqDiff],
              by simp only [f35, B0, reduceIte, reduceEqDiff], by simp only [f36, hg28, B0, reduceIte, reduceEqDiff]⟩
        · simp only [hg41, run_guardd (g := 38), guardd_off, f36, hg28, run_guardd (g := 29), guardd_false, d4_pick, put1d_some, xpick_f, run_draw_nil, run_nil, B0, reduceIte,
            reduceEqDiff]
          exact hN40 _ _ ⟨(Sep.m3 (Sep.m3 (Sep.m3 (Sep.m3 hS38)))), by rw [andF hg41]; simp only [B0, reduceIte, reduceEqDiff], by simp only [f34, B0, reduceIte, reduceEqDiff],
              by simp only [f35, B0, reduceIte, reduceEqDiff], by simp only [f36, hg28, B0, reduceIte, reduceEqDiff]⟩
      rintro fr42 h47 ⟨hS48, f43, f44, f45, f46⟩
      simp only [List.drop_succ_cons, List.drop_zero]
      simp only [f46, hg28, d4_pick, put1d_some, xpick_f, f43, run_draw_nil, run_nil, B0, reduceIte, reduceEqDiff]
      exact hN27 _ _ ⟨(Sep.m3 (Sep.m3 (Sep.m3 (Sep.m3 hS48)))), by rw [orF hg28]; simp only [B0, reduceIte, reduceEqDiff], by simp only [f44, B0, reduceIte, reduceEqDiff],
          by simp only [f45, B0, reduceIte, reduceEqDiff]⟩
  rintro fr49 h53 ⟨hS54, f50, f51, f52⟩
  simp only [List.drop_succ_cons, List.drop_zero]
  simp only [run_draw_nil, f50, run_cond, B0, reduceIte, reduceEqDiff]
  refine cond_split (t := (((!(impl_in v_1.K 0 (IntKind.wrap .i64 ((List.length v_0.Readers : Int) - 1)))) || ((decide (v_1.Kind ≠ 4)) && (decide (v_1.N ≠ 0)))) || (((decide
      (v_1.Kind ≠ 4)) && (decide (v_1.Kind ≠ 5))) && (decide (v_1.Part ≠ 0))))) (fun hc55 => ?_) (fun hc55 => ?_)
  · rw [iteT hc55] at hF
    simp only [run_seq, run_reg, run_mv, run_ops_nil, run_ret, B0, reduceIte, reduceEqDiff]
    have he := some_inj hF
    subst he
    simp only [end_ret1, B0, reduceIte, reduceEqDiff]
    exact ⟨pv0_1, pc0_1, pv0_2, pc0_2, pv0_3, pc0_3, by first | trivial | rfl, ph0_1, ph0_2, ph0_3, (Sep.m3 (Sep.m3 (Sep.m3 (Sep.m3 hS54))))⟩
  rw [iteF hc55] at hF
  simp only [run_skip, x52_30, run_seq, run_draw, f51, d4_mv, put1d_some, d4_chk, xchk_ptr, d4_fa, Nat.reduceAdd, Nat.zero_add, Nat.add_zero, xfa_ptr, d4_ld, B0, reduceIte,
      reduceEqDiff]
  refine put1d_eq (v := pv0_1) ((xld_b (Sep.bk _ _ _ hS54)).trans rfl) ?_
  simp only [f52, d4_fa, put1d_some, Nat.reduceAdd, Nat.zero_add, Nat.add_zero, xfa_ref, d4_ld, B0, reduceIte, reduceEqDiff]
  refine put1d_eq (v := .int .i64 v_1.K) rfl ?_
  obtain ⟨x56, hx57, hF58⟩ := bind_some' hF
  simp only [d4_ia, B0, reduceIte, reduceEqDiff]
  obtain ⟨b59, hb60⟩ := SlN.isrow ph0_1 (geti_ne hx57)
  refine put1d_eq (SlN.ia ph0_1 hb60 hx57) ?_
  obtain ⟨c61, cs62, os63, hv64, hR65, hS66⟩ := SlG.opn (SlN.toG ph0_1 hb60 Reader.RO.len) hx57 hk_nil Reader.RO.len (Sep.m1 hS54)
  obtain ⟨v68, c69, v72, c73, hv70, hv74, rfl, rfl⟩ := hR65
  have hS67 := Sep.no2 hS66
  simp only [d4_mv, put1d_some, run_draw_nil, x52_29, run_seq, run_draw, d4_chk, xchk_ptr, d4_fa, Nat.reduceAdd, Nat.zero_add, Nat.add_zero, xfa_ptr, d4_ld, B0, reduceIte,
      reduceEqDiff]
  refine put1d_eq (v := .bool x56.In) ((SlG.ld (o := 0) hv64 rfl hx57 hS67 (Nat.le_of_ble_eq_true rfl)).trans rfl) ?_
  simp only [f52, d4_fa, put1d_some, Nat.reduceAdd, Nat.zero_add, Nat.add_zero, xfa_ref, d4_ld, B0, reduceIte, reduceEqDiff]
  refine put1d_eq (v := .int .i64 v_1.Kind) rfl ?_
  simp only [d4_bin, put1d_some, xeql, d4_eqb, xeqb_f, run_draw_nil, run_cond, B0, reduceIte, reduceEqDiff]
  refine cond_split (t := (x56.In == (decide (v_1.Kind = 1)))) (fun hc76 => ?_) (fun hc76 => ?_)
  · rw [iteT hc76] at hF58
    simp only [run_seq, run_reg, run_mv, run_ops_nil, run_ret, B0, reduceIte, reduceEqDiff]
    obtain ⟨c77, hv78, hS79⟩ := SlG.cls0 (c := c61) (os := c69 ++ (c73)) hv64 rfl hx57 hk_nil (Reader.RI (x := x56) hv70 hv74) (Sep.ni2 (c1 := c69) (c2 := c73) (Sep.m2 (Sep.m2
        (Sep.m2 hS67))))
    have hv80 := SlG.toN hv78
    have he := some_inj hF58
    subst he
    simp only [end_ret1, B0, reduceIte, reduceEqDiff]
    exact ⟨pv0_1, c77, pv0_2, pc0_2, pv0_3, pc0_3, by first | trivial | rfl, hv80, ph0_2, ph0_3, (Sep.m3 (Sep.m2 (Sep.m3 (Sep.m3 hS79))))⟩
  rw [iteF hc76] at hF58
  simp only [run_skip, x52_28, run_seq, run_draw, d4_mv, put1d_some, d4_chk, xchk_ptr, d4_fa, Nat.reduceAdd, Nat.zero_add, Nat.add_zero, xfa_ptr, d4_ld, B0, reduceIte,
      reduceEqDiff]
  refine put1d_eq (v := .int .i64 x56.Generation) ((SlG.ld (o := 1) hv64 rfl hx57 hS67 (Nat.le_of_ble_eq_true rfl)).trans rfl) ?_
  simp only [f51, d4_mv, put1d_some, d4_chk, xchk_ptr, d4_fa, Nat.reduceAdd, Nat.zero_add, Nat.add_zero, xfa_ptr, d4_ld, B0, reduceIte, reduceEqDiff]
  refine put1d_eq (v := .int .i64 v_0.Generation) ((xld_b (Sep.bk _ _ _ (Sep.m3 hS67))).trans rfl) ?_
  simp only [d4_bin, put1d_some, xeql, d4_mv, run_draw_nil, x52_27, run_seq, run_reg, f52, run_fa, put1_some, Nat.reduceAdd, Nat.zero_add, Nat.add_zero, xfa_ref, run_ld, B0,
      reduceIte, reduceEqDiff]
  refine put1_eq (v := .int .i64 v_1.Kind) rfl ?_
  simp only [run_ops_nil, x52_26, run_block, x52_25, run_seq, run_reg, run_bin, put1_some, xeql, run_mv, x52_1, run_cond, B0, reduceIte, reduceEqDiff]
  obtain ⟨c81, hv82, hS83⟩ := SlG.cls0 (c := c61) (os := c69 ++ (c73)) hv64 rfl hx57 hk_nil (Reader.RI (x := x56) hv70 hv74) (Sep.ni2 (c1 := c69) (c2 := c73) (Sep.m2 (Sep.m2
      (Sep.m2 hS67))))
  have hv84 := SlG.toN hv82
  obtain ⟨s85, hX87, hk88⟩ := bind_some' hF58
  refine cond_j (t := (decide (v_1.Kind = 1))) (fun fr' h' => fr' 0 = .ptr pb0 0 ∧ fr' 3 = .ref [.int .i64 v_1.Kind, .int .i64 v_1.K, .int .i64 v_1.Part,
      .int .i64 v_1.N] 0 ∧ fr' 5 = .ptr b59 (v_1.K.toNat * 4) ∧ fr' 6 = .bool (decide
      (x56.Generation = v_0.Generation)) ∧ fr' 69 = .int .i64 v_1.Kind ∧ fr' 70 = .bool s85 ∧ Sep h' lo ([Blk1 pb0 [.int .i64 v_0.Generation, pv0_1, pv0_2,
      pv0_3] 29] ++ (c81 ++ (pc0_2 ++ (pc0_3 ++ (S0)))))) (fun Q89 hN90 hR91 hE92 => ⟨fun hc93 => ?_, fun hc93 => ?_⟩) ?_
  · rw [iteT hc93] at hX87
    simp only [run_skip, run_nil, B0, reduceIte, reduceEqDiff]
    have e94 := some_inj hX87
    subst e94
    exact hN90 _ _ ⟨by simp only [f51, B0, reduceIte, reduceEqDiff], by simp only [f52, B0, reduceIte, reduceEqDiff], by simp only [B0, reduceIte, reduceEqDiff], by simp only [B0,
        reduceIte, reduceEqDiff], by simp only [B0, reduceIte, reduceEqDiff], by simp only [B0, reduceIte, reduceEqDiff], (Sep.m3 (Sep.m2 (Sep.m3 (Sep.m3 hS83))))⟩
  · rw [iteF hc93] at hX87
    simp only [run_reg, run_bin, put1_some, xeql, run_mv, run_ops_nil, run_nil, B0, reduceIte, reduceEqDiff]
    have e95 := some_inj hX87
    subst e95
    exact hN90 _ _ ⟨by simp only [f51, B0, reduceIte, reduceEqDiff], by simp only [f52, B0, reduceIte, reduceEqDiff], by simp only [B0, reduceIte, reduceEqDiff], by simp only [B0,
        reduceIte, reduceEqDiff], by simp only [B0, reduceIte, reduceEqDiff], by simp only [B0, reduceIte, reduceEqDiff], (Sep.m3 (Sep.m2 (Sep.m3 (Sep.m3 hS83))))⟩
  rintro fr96 h97 ⟨f99, f100, f101, f102, f103, f104, hS98⟩
  unfold impl_Readers_step_j1 at hk88
  simp only [x52_24, f104, run_cond, B0, reduceIte, reduceEqDiff]
  refine cond_split (t := s85) (fun hc105 => ?_) (fun hc105 => ?_)
  · rw [iteT hc105] at hk88
    simp only [x52_4, run_seq, run_reg, f99, run_mv, run_chk, put1_some, xchk_ptr, run_fa, Nat.reduceAdd, Nat.zero_add, Nat.add_zero, xfa_ptr, run_ld, B0, reduceIte, reduceEqDiff]
    refine put1_eq (v := .int .i64 v_0.Generation) ((xld_b (Sep.bk _ _ _ hS98)).trans rfl) ?_
    simp only [run_bin, put1_some, xeql, run_ops_nil, run_cond, B0, reduceIte, reduceEqDiff]
    refine cond_split (t := (decide (v_0.Generation = 1000))) (fun hc106 => ?_) (fun hc106 => ?_)
    · rw [iteT hc106] at hk88
      simp only [run_seq, run_reg, run_mv, run_ops_nil, run_ret, B0, reduceIte, reduceEqDiff]
      have he := some_inj hk88
      subst he
      simp only [end_ret1, B0, reduceIte, reduceEqDiff]
      exact ⟨pv0_1, c81, pv0_2, pc0_2, pv0_3, pc0_3, by first | trivial | rfl, hv84, ph0_2, ph0_3, (Sep.m3 (Sep.m3 (Sep.m3 (Sep.m3 hS98))))⟩
    rw [iteF hc106] at hk88
    simp only [run_skip, x52_3, run_seq, run_reg, f99, run_mv, run_chk, put1_some, xchk_ptr, run_fa, Nat.reduceAdd, Nat.zero_add, Nat.add_zero, xfa_ptr, run_ld, B0, reduceIte,
        reduceEqDiff]
    refine put1_eq (v := .int .i64 v_0.Generation) ((xld_b (Sep.bk _ _ _ hS98)).trans rfl) ?_
    simp only [run_bin, put1_some, xadd, run_chk, xchk_ptr, run_fa, Nat.reduceAdd, Nat.zero_add, Nat.add_zero, xfa_ptr, run_st, B0, reduceIte, reduceEqDiff]
    refine put2_stCx (us := [.int .i64 (IntKind.wrap .i64 (v_0.Generation + 1))]) rfl (cs' := [.int .i64 (IntKind.wrap .i64 (v_0.Generation + 1)), pv0_1, pv0_2,
        pv0_3]) hS98 hW rfl rfl (Nat.le_of_ble_eq_true rfl) rfl (fun h107 hS108 => ?_)
    simp only [run_ops_nil, x52_2, run_seq, run_draw, f101, d4_mv, put1d_some, f100, d4_fa, Nat.reduceAdd, Nat.zero_add, Nat.add_zero, xfa_ref, d4_ld, B0, reduceIte, reduceEqDiff]
    refine put1d_eq (v := .int .i64 v_1.Kind) rfl ?_
    simp only [d4_bin, put1d_some, xeql, f99, d4_mv, d4_chk, xchk_ptr, d4_fa, Nat.reduceAdd, Nat.zero_add, Nat.add_zero, xfa_ptr, d4_ld, B0, reduceIte, reduceEqDiff]
    refine put1d_eq (v := pv0_3) ((xld_b (Sep.bk _ _ _ hS108)).trans rfl) ?_
    obtain ⟨l109, hx110, hF111⟩ := bind_some' hk88
    simp only [d4_len, put1d_some, SlF.plen ph0_3, d4_mkS, B0, reduceIte, reduceEqDiff]
    refine put2d_mkSF (f := cI) (z := (0 : Int)) hS108 hx110 rfl (fun v112 c113 h114 hv115 hS116 => ?_)
    simp only [d4_build, evp, B0, reduceIte, reduceEqDiff]
    refine put1d_eq (v := .agg [.bool (decide (v_1.Kind = 1)), .int .i64 0, .nil,
        v112]) (pbuild_some (fill1 (us := [.bool (decide (v_1.Kind = 1))]) (vs := [.bool (decide (v_1.Kind = 1)), .int .i64 0, .nil,
        .nil]) rfl rfl (Nat.le_of_ble_eq_true rfl) rfl rfl (fill1 (us := [v112]) (vs := [.bool (decide (v_1.Kind = 1)), .int .i64 0, .nil,
        v112]) (cells_one (SlF.one hv115)) rfl (Nat.le_of_ble_eq_true rfl) (all_c (SlF.one hv115) all_n) rfl fill0))) ?_
    obtain ⟨c120, cs121, os122, hv123, hR124, hS125⟩ := SlG.opn (SlN.toG hv84 hb60 Reader.RO.len) hx57 hk_nil Reader.RO.len (Sep.m2 hS116)
    obtain ⟨v127, c128, v131, c132, hv129, hv133, rfl, rfl⟩ := hR124
    have hS126 := Sep.no2 hS125
    simp only [d4_chk, put1d_some, xchk_ptr, d3_st, B0, reduceIte, reduceEqDiff]
    refine put2d_stGx (us := [.bool (decide (v_1.Kind = 1)), .int .i64 0, .nil, v112]) (o := 0) (cs' := [.bool (decide (v_1.Kind = 1)), .int .i64 0, .nil,
        v112]) rfl hv123 rfl hx57 hS126 hW rfl (all_c rfl (all_c rfl (all_c rfl (all_c (SlF.one hv115) all_n)))) (Nat.le_of_ble_eq_true rfl) rfl (fun c135 h118 hv136 hS119 => ?_)
    simp only [run_draw_nil, run_seq, run_reg, run_mv, run_ops_nil, run_ret, B0, reduceIte, reduceEqDiff]
    obtain ⟨c137, hv138, hS139⟩ := SlG.cls (e' := (Reader.mk (decide (v_1.Kind = 1)) 0 [] l109)) (c := c135) (os := [] ++ (c113)) hv136 rfl hx57 hk_nil (Reader.RI (x :=
        (Reader.mk (decide (v_1.Kind = 1)) 0 [] l109)) SlF.nil hv115) (Sep.ni2 (c1 := []) (c2 := c113) ((Sep.m1 (Sep.m3 hS119)) : Sep _ lo (c135 ++ (c113 ++ (c128 ++ (c132 ++
        ([Blk1 pb0 [.int .i64 (IntKind.wrap .i64 (v_0.Generation + 1)), pv0_1, pv0_2, pv0_3] 29] ++ (pc0_2 ++ (pc0_3 ++ (S0))))))))))
    have hx140 := geti_set (x' := (Reader.mk (decide (v_1.Kind = 1)) 0 [] l109)) hx57
    have hv141 := SlG.toN hv138
    have he := some_inj hF111
    subst he
    simp only [end_ret1, B0, reduceIte, reduceEqDiff]
    exact ⟨pv0_1, c137, pv0_2, pc0_2, pv0_3, pc0_3, by first | trivial | rfl, hv141, ph0_2, ph0_3, (Sep.m3 (Sep.m2 (Sep.m3 (Sep.m3 (Sep.dc (Sep.m1 (Sep.dc (Sep.m1 hS139))))))))⟩
  rw [iteF hc105] at hk88
  simp only [x52_23, run_seq, run_reg, f103, run_bin, put1_some, xeql, run_mv, run_ops_nil, x52_22, run_cond, B0, reduceIte, reduceEqDiff]
  refine cond_split (t := (decide (v_1.Kind = 3))) (fun hc142 => ?_) (fun hc142 => ?_)
  · rw [iteT hc142] at hk88
    simp only [x52_13, run_seq, run_reg, f102, run_mv, run_ops_nil, run_cond, B0, reduceIte, reduceEqDiff]
    refine cond_split (t := (decide (x56.Generation = v_0.Generation))) (fun hc143 => ?_) (fun hc143 => ?_)
    · rw [iteT hc143] at hk88
      simp only [run_seq, run_reg, run_mv, run_ops_nil, run_ret, B0, reduceIte, reduceEqDiff]
      have he := some_inj hk88
      subst he
      simp only [end_ret1, B0, reduceIte, reduceEqDiff]
      exact ⟨pv0_1, c81, pv0_2, pc0_2, pv0_3, pc0_3, by first | trivial | rfl, hv84, ph0_2, ph0_3, (Sep.m3 (Sep.m3 (Sep.m3 (Sep.m3 hS98))))⟩
    rw [iteF hc143] at hk88
    simp only [run_skip, x52_12, run_seq, run_reg, f101, run_mv, f99, run_chk, put1_some, xchk_ptr, run_fa, Nat.reduceAdd, Nat.zero_add, Nat.add_zero, xfa_ptr, run_ld, B0,
        reduceIte, reduceEqDiff]
    refine put1_eq (v := .int .i64 v_0.Generation) ((xld_b (Sep.bk _ _ _ hS98)).trans rfl) ?_
    obtain ⟨c146, cs147, os148, hv149, hR150, hS151⟩ := SlG.opn (SlN.toG hv84 hb60 Reader.RO.len) hx57 hk_nil Reader.RO.len (Sep.m1 hS98)
    obtain ⟨v153, c154, v157, c158, hv155, hv159, rfl, rfl⟩ := hR150
    have hS152 := Sep.no2 hS151
    simp only [run_chk, put1_some, xchk_ptr, run_fa, Nat.reduceAdd, Nat.zero_add, Nat.add_zero, xfa_ptr, run_st, B0, reduceIte, reduceEqDiff]
    refine put2_stGx (us := [.int .i64 v_0.Generation]) (o := 1) (cs' := [.bool x56.In, .int .i64 v_0.Generation, v153,
        v157]) rfl hv149 rfl hx57 hS152 hW rfl rfl (Nat.le_of_ble_eq_true rfl) rfl (fun c161 h144 hv162 hS145 => ?_)
    simp only [run_ops_nil, x52_11, run_seq, run_draw, f101, d1_mv, put1d_some, f99, d4_mv, d4_chk, xchk_ptr, d4_ld, B0, reduceIte, reduceEqDiff]
    refine put1d_eq (v := .agg [.int .i64 v_0.Generation, pv0_1, pv0_2, pv0_3]) ((xld_bs (Sep.bk _ _ _ (Sep.m3 hS145))).trans rfl) ?_
    simp only [f100, d4_fa, put1d_some, Nat.reduceAdd, Nat.zero_add, Nat.add_zero, xfa_ref, d4_ld, B0, reduceIte, reduceEqDiff]
    refine put1d_eq (v := .int .i64 v_1.K) rfl ?_
    obtain ⟨c163, hv164, hS165⟩ := SlG.cls (e' := (Reader.mk x56.In v_0.Generation x56.Share x56.Read)) (c := c161) (os := c154 ++ (c158)) hv162 rfl hx57 hk_nil (Reader.RI (x :=
        (Reader.mk x56.In v_0.Generation x56.Share x56.Read)) hv155 hv159) (Sep.ni2 (c1 := c154) (c2 := c158) (Sep.m2 (Sep.m2 (Sep.m2 hS145))))
    have hx166 := geti_set (x' := (Reader.mk x56.In v_0.Generation x56.Share x56.Read)) hx57
    have hv167 := SlG.toN hv164
    obtain ⟨v168, hx169, hF170⟩ := bind_some' hk88
    simp only [run_d3_call, B0, reduceIte, reduceEqDiff]
    refine call2d rfl hS165 (mapM1 (snap_agg (mapM1 snap_int (mapM1 (SlN.snap hv167 _ hS165 rfl Reader.RO) (mapM1 (SlF.snap ph0_2 (Sep.m2 hS165) rfl (fun _ => rfl)
        (fun _ => rfl)) (mapM1 (SlF.snap ph0_3 (Sep.m3 hS165) rfl (fun _ => rfl) (fun _ => rfl)) mapM0))))) (mapM1 snap_int mapM0)) (impl_Readers_shareOf_x
        (fun b hb => decide_eq_true hb) (Readers_.mk v_0.Generation (List.set v_0.Readers v_1.K.toNat
        (Reader.mk x56.In v_0.Generation x56.Share x56.Read)) v_0.Committed v_0.Ends) v_1.K v168 hx169) ?_
    rintro v171 h175 ⟨_, c172, rfl, hv173, hS176⟩
    refine ⟨_, free_1 (SlF.free1 hv173), hS176, (pf_app (SlF.pf hv173 (fun _ => rfl)) pf_nil), fun h177 hS178 => ?_⟩
    have hS179 : Sep h177 lo (c172 ++ (c163 ++ ([Blk1 pb0 [.int .i64 v_0.Generation, pv0_1, pv0_2, pv0_3] 29] ++ (pc0_2 ++ (pc0_3 ++ (S0)))))) := by simpa only [List.append_assoc,
        List.nil_append] using hS178
    obtain ⟨c182, cs183, os184, hv185, hR186, hS187⟩ := SlG.opn (SlN.toG hv167 hb60 Reader.RO.len) hx166 hk_nil Reader.RO.len (Sep.m1 hS179)
    obtain ⟨v189, c190, v193, c194, hv191, hv195, rfl, rfl⟩ := hR186
    have hS188 := Sep.no2 hS187
    simp only [d4_chk, put1d_some, xchk_ptr, d4_fa, Nat.reduceAdd, Nat.zero_add, Nat.add_zero, xfa_ptr, d3_st, B0, reduceIte, reduceEqDiff]
    refine put2d_stGx (us := [v171]) (o := 2) (cs' := [.bool ((Reader.mk x56.In v_0.Generation x56.Share x56.Read).In),
        .int .i64 ((Reader.mk x56.In v_0.Generation x56.Share x56.Read).Generation), v171,
        v193]) (cells_one (SlF.one hv173)) hv185 rfl hx166 hS188 hW rfl (all_c (SlF.one hv173) all_n) (Nat.le_of_ble_eq_true rfl) rfl (fun c197 h180 hv198 hS181 => ?_)
    simp only [run_draw_nil, x52_10, run_seq, run_reg, f101, run_mv, f99, run_chk, put1_some, xchk_ptr, run_fa, Nat.reduceAdd, Nat.zero_add, Nat.add_zero, xfa_ptr, run_ld, B0,
        reduceIte, reduceEqDiff]
    refine put1_eq (v := pv0_3) ((xld_b (Sep.bk _ _ _ (Sep.m4 hS181))).trans rfl) ?_
    obtain ⟨l199, hx200, hF201⟩ := bind_some' hF170
    simp only [run_len, put1_some, SlF.plen ph0_3, run_mkS, B0, reduceIte, reduceEqDiff]
    refine put2_mkSF (f := cI) (z := (0 : Int)) hS181 hx200 rfl (fun v202 c203 h204 hv205 hS206 => ?_)
    simp only [run_chk, put1_some, xchk_ptr, run_fa, Nat.reduceAdd, Nat.zero_add, Nat.add_zero, xfa_ptr, run_st, B0, reduceIte, reduceEqDiff]
    refine put2_stGx (us := [v202]) (o := 3) (cs' := [.bool ((Reader.mk x56.In v_0.Generation x56.Share x56.Read).In),
        .int .i64 ((Reader.mk x56.In v_0.Generation x56.Share x56.Read).Generation), v171,
        v202]) (cells_one (SlF.one hv205)) hv198 rfl hx166 (Sep.m1 hS206) hW rfl (all_c (SlF.one hv205) all_n) (Nat.le_of_ble_eq_true rfl) rfl (fun c210 h208 hv211 hS209 => ?_)
    simp only [run_ops_nil, x52_9, run_seq, run_reg, f101, run_mv, run_chk, put1_some, xchk_ptr, run_fa, Nat.reduceAdd, Nat.zero_add, Nat.add_zero, xfa_ptr, run_ld, B0, reduceIte,
        reduceEqDiff]
    refine put1_eq (v := v171) ((SlG.ld (o := 2) hv211 rfl hx166 hS209 (Nat.le_of_ble_eq_true rfl)).trans rfl) ?_
    simp only [run_len, put1_some, SlF.plen hv173, run_mv, run_ops_nil, B0, reduceIte, reduceEqDiff]
    obtain ⟨oc220, hX222, hk223⟩ := jn_some hF201
    simp only [x52_8]
    refine rangeN_j (σ := (List Int)) (fun i218 s262 => impl_Readers_step_b1 v_0 v168 i218 s262) (fun s fr' h' => ∃ c216,
        fr' 0 = .ptr pb0 0 ∧ fr' 5 = .ptr b59 (v_1.K.toNat * 4) ∧ fr' 128 = v171 ∧ SlF cI 1 3 v202 s c216 ∧ Sep h' lo ([Blk1 pb0 [.int .i64 v_0.Generation, pv0_1, pv0_2,
        pv0_3] 29] ++ (c210 ++ (c172 ++ (pc0_2 ++ (pc0_3 ++ (c216 ++ (S0)))))))) hX222 ⟨c203, by simp only [f99, B0, reduceIte, reduceEqDiff], by simp only [f101, B0, reduceIte,
        reduceEqDiff], by simp only [B0, reduceIte, reduceEqDiff], hv205,
        (Sep.m5 (Sep.m4 (Sep.m4 (Sep.m5 (Sep.m5 (Sep.m1 (Sep.dc (Sep.m2 (Sep.dc (Sep.m2 hS209))))))))))⟩ (by simp only [B0, reduceIte, reduceEqDiff]) (by simp only [B0, reduceIte,
        reduceEqDiff]) (fun _ _ _ h => h) rfl rfl (fun _ _ _ _ h => h) (fun _ _ _ _ h => h) (fun _ _ _ _ h => h) (by decide) ?_ ?_
    · rintro i218 s215 fr232 h233 hx238 ⟨c216, f235, f236, f237, hv217, hS234⟩ f239 f240 oc221 hF224 hr225 Q226 hN227 hB231 hK228 hR229 hE230
      unfold impl_Readers_step_b1 at hF224
      obtain ⟨x241, hx242, hF243⟩ := bind_some' hF224
      simp only [x52_6, run_seq, run_reg, f237, f239, run_ia, B0, reduceIte, reduceEqDiff]
      obtain ⟨b244, hb245⟩ := SlF.isrow hv173 (geti_ne hx242)
      refine put1_eq (SlF.ia hv173 hb245 hx242) ?_
      simp only [run_ld, B0, reduceIte, reduceEqDiff]
      refine put1_eq (v := .int .i64 x241) ((SlF.ld (o := 0) hv173 (Sep.m2 hS234) hb245 hx242 (fun _ => rfl) (Nat.le_of_ble_eq_true rfl)).trans rfl) ?_
      simp only [run_mv, run_ops_nil, x52_5, run_draw, f236, d4_mv, put1d_some, d4_chk, xchk_ptr, d4_fa, Nat.reduceAdd, Nat.zero_add, Nat.add_zero, xfa_ptr, d4_ld, B0, reduceIte,
          reduceEqDiff]
      refine put1d_eq (v := v202) ((SlG.ld (o := 3) hv211 rfl hx166 (Sep.m1 hS234) (Nat.le_of_ble_eq_true rfl)).trans rfl) ?_
      simp only [d4_mv, put1d_some, f235, d4_chk, xchk_ptr, d4_fa, Nat.reduceAdd, Nat.zero_add, Nat.add_zero, xfa_ptr, d4_ld, B0, reduceIte, reduceEqDiff]
      refine put1d_eq (v := pv0_2) ((xld_b (Sep.bk _ _ _ hS234)).trans rfl) ?_
      obtain ⟨x246, hx247, hF248⟩ := bind_some' hF243
      simp only [d4_mv, put1d_some, d4_ia, B0, reduceIte, reduceEqDiff]
      obtain ⟨b249, hb250⟩ := SlF.isrow ph0_2 (geti_ne hx247)
      refine put1d_eq (SlF.ia ph0_2 hb250 hx247) ?_
      simp only [d4_ld, B0, reduceIte, reduceEqDiff]
      refine put1d_eq (v := .int .i64 x246) ((SlF.ld (o := 0) ph0_2 (Sep.m3 hS234) hb250 hx247 (fun _ => rfl) (Nat.le_of_ble_eq_true rfl)).trans rfl) ?_
      obtain ⟨x251, hx252, hF253⟩ := bind_some' hF248
      simp only [d4_ia, B0, reduceIte, reduceEqDiff]
      obtain ⟨b254, hb255⟩ := SlF.isrow hv217 (geti_ne hx252)
      refine put1d_eq (SlF.ia hv217 hb255 hx252) ?_
      simp only [d3_st, B0, reduceIte, reduceEqDiff]
      refine put2d_stF (f := cI) (x' := x246) (o := 0) hv217 (Sep.m5 hS234) hW hb255 hx252 (fun _ => rfl) rfl rfl (Nat.le_of_ble_eq_true rfl) rfl (fun c258 h256 hv259 hS257 => ?_)
      have hx260 := geti_set (x' := x246) hx252
      simp only [run_draw_nil, run_nil, B0, reduceIte, reduceEqDiff]
      have e261 := some_inj hF253
      exact hN227 _ _ _ e261.symm ⟨c258, by simp only [f235, B0, reduceIte, reduceEqDiff], by simp only [f236, B0, reduceIte, reduceEqDiff], by simp only [f237, B0, reduceIte,
          reduceEqDiff], hv259, (Sep.m5 (Sep.m5 (Sep.m5 (Sep.m5 (Sep.m5 hS257)))))⟩ (by simp only [f239, B0, reduceIte, reduceEqDiff]) (by simp only [f240, B0, reduceIte,
          reduceEqDiff])
    rintro s263 fr266 h267 rfl ⟨c264, f269, f270, f271, hv265, hS268⟩
    dsimp only [jnO] at hk223
    unfold impl_Readers_step_j2 at hk223
    simp only [run_seq, run_reg, run_mv, run_ops_nil, run_ret, B0, reduceIte, reduceEqDiff]
    obtain ⟨c272, hv273, hS274⟩ := SlG.cls (e' := (Reader.mk ((Reader.mk x56.In v_0.Generation x56.Share x56.Read).In)
        ((Reader.mk x56.In v_0.Generation x56.Share x56.Read).Generation) v168 s263)) (c := c210) (os := c172 ++ (c264)) hv211 rfl hx166 hk_nil (Reader.RI (x := (Reader.mk
        ((Reader.mk x56.In v_0.Generation x56.Share x56.Read).In) ((Reader.mk x56.In v_0.Generation x56.Share x56.Read).Generation) v168 s263)) hv173 hv265) (Sep.ni2 (c1 := c172)
        (c2 := c264) (Sep.m3 (Sep.m3 (Sep.m5 hS268))))
    rw [List.set_set] at hv273
    have hx275 := geti_set (x' := (Reader.mk ((Reader.mk x56.In v_0.Generation x56.Share x56.Read).In)
        ((Reader.mk x56.In v_0.Generation x56.Share x56.Read).Generation) v168 s263)) hx57
    have hv276 := SlG.toN hv273
    have he := some_inj hk223
    subst he
    simp only [end_ret1, B0, reduceIte, reduceEqDiff]
    exact ⟨pv0_1, c272, pv0_2, pc0_2, pv0_3, pc0_3, by first | trivial | rfl, hv276, ph0_2, ph0_3, (Sep.m3 (Sep.m2 (Sep.m3 (Sep.m3 hS274))))⟩
  rw [iteF hc142] at hk88
  simp only [x52_21, run_seq, run_reg, f103, run_bin, put1_some, xeql, run_mv, run_ops_nil, x52_20, run_cond, B0, reduceIte, reduceEqDiff]
  refine cond_split (t := (decide (v_1.Kind = 4))) (fun hc278 => ?_) (fun hc278 => ?_)
  · rw [iteT hc278] at hk88
    obtain ⟨c279, cs280, os281, hv282, hR283, hS284⟩ := SlG.opn (SlN.toG hv84 hb60 Reader.RO.len) hx57 hk_nil Reader.RO.len (Sep.m1 hS98)
    obtain ⟨v286, c287, v290, c291, hv288, hv292, rfl, rfl⟩ := hR283
    have hS285 := Sep.no2 hS284
    simp only [x52_15, run_seq, run_draw, f101, d4_mv, put1d_some, d4_chk, xchk_ptr, d4_fa, Nat.reduceAdd, Nat.zero_add, Nat.add_zero, xfa_ptr, d4_ld, B0, reduceIte, reduceEqDiff]
    refine put1d_eq (v := v286) ((SlG.ld (o := 2) hv282 rfl hx57 hS285 (Nat.le_of_ble_eq_true rfl)).trans rfl) ?_
    simp only [f100, d4_fa, put1d_some, Nat.reduceAdd, Nat.zero_add, Nat.add_zero, xfa_ref, d4_ld, B0, reduceIte, reduceEqDiff]
    refine put1d_eq (v := .int .i64 v_1.Part) rfl ?_
    obtain ⟨v294, hx295, hF296⟩ := bind_some' hk88
    simp only [run_d3_call, B0, reduceIte, reduceEqDiff]
    refine call1d rfl (mapM1 (SlF.snap hv288 (Sep.m1 hS285) rfl (fun _ => rfl) (fun _ => rfl)) (mapM1 snap_int mapM0)) (slices_Contains_int_x
        (fun b hb => decide_eq_true hb) x56.Share v_1.Part v294 hx295) ?_
    simp only [d4_un, put1d_some, xnot, d4_mv, B0, reduceIte, reduceEqDiff]
    refine draw_j 4 (fun fr' h' => Sep h' lo ([Blk1 pb0 [.int .i64 v_0.Generation, pv0_1, pv0_2,
        pv0_3] 29] ++ (c279 ++ (pc0_2 ++ (pc0_3 ++ (c287 ++ (c291 ++ (S0))))))) ∧ fr' 162 = .bool ((!v294) || (decide
        (v_1.N < 1))) ∧ fr' 0 = .ptr pb0 0 ∧ fr' 3 = .ref [.int .i64 v_1.Kind, .int .i64 v_1.K, .int .i64 v_1.Part,
        .int .i64 v_1.N] 0 ∧ fr' 5 = .ptr b59 (v_1.K.toNat * 4)) rfl (fun Q297 hN298 => ?_) ?_
    · simp only [List.take_succ_cons, List.take_zero]
      simp only [run_guardd (g := 158), B0, reduceIte, reduceEqDiff]
      refine guardd_split (t := (!v294)) (fun hg299 => ?_) (fun hg299 => ?_)
      · simp only [hg299, run_guardd (g := 158), guardd_off', d4_pick, put1d_some, xpick_t, run_draw_nil, run_nil, B0, reduceIte, reduceEqDiff]
        exact hN298 _ _ ⟨(Sep.m5 (Sep.m4 (Sep.m5 (Sep.m5 (Sep.m2 (Sep.m2 hS285)))))), by rw [orT hg299]; simp only [B0, reduceIte, reduceEqDiff], by simp only [f99, B0, reduceIte,
            reduceEqDiff], by simp only [f100, B0, reduceIte, reduceEqDiff], by simp only [f101, B0, reduceIte, reduceEqDiff]⟩
      · simp only [hg299, run_guardd (g := 158), guardd_false, f100, d4_fa, put1d_some, Nat.reduceAdd, Nat.zero_add, Nat.add_zero, xfa_ref, d4_ld, B0, reduceIte, reduceEqDiff]
        refine put1d_eq (v := .int .i64 v_1.N) rfl ?_
        simp only [hg299, run_guardd (g := 158), guardd_false, d4_bin, put1d_some, xlss, d4_pick, xpick_f, run_draw_nil, run_nil, B0, reduceIte, reduceEqDiff]
        exact hN298 _ _ ⟨(Sep.m5 (Sep.m4 (Sep.m5 (Sep.m5 (Sep.m2 (Sep.m2 hS285)))))), by rw [orF hg299]; simp only [B0, reduceIte, reduceEqDiff], by simp only [f99, B0, reduceIte,
            reduceEqDiff], by simp only [f100, B0, reduceIte, reduceEqDiff], by simp only [f101, B0, reduceIte, reduceEqDiff]⟩
    rintro fr300 h305 ⟨hS306, f301, f302, f303, f304⟩
    simp only [List.drop_succ_cons, List.drop_zero]
    simp only [run_draw_nil, f301, run_cond, B0, reduceIte, reduceEqDiff]
    refine cond_split (t := ((!v294) || (decide (v_1.N < 1)))) (fun hc307 => ?_) (fun hc307 => ?_)
    · rw [iteT hc307] at hF296
      simp only [run_seq, run_reg, run_mv, run_ops_nil, run_ret, B0, reduceIte, reduceEqDiff]
      obtain ⟨c308, hv309, hS310⟩ := SlG.cls0 (c := c279) (os := c287 ++ (c291)) hv282 rfl hx57 hk_nil (Reader.RI (x := x56) hv288 hv292) (Sep.ni2 (c1 := c287) (c2 := c291)
          (Sep.m3 (Sep.m5 (Sep.m5 hS306))))
      have hv311 := SlG.toN hv309
      have he := some_inj hF296
      subst he
      simp only [end_ret1, B0, reduceIte, reduceEqDiff]
      exact ⟨pv0_1, c308, pv0_2, pc0_2, pv0_3, pc0_3, by first | trivial | rfl, hv311, ph0_2, ph0_3, (Sep.m3 (Sep.m2 (Sep.m3 (Sep.m3 hS310))))⟩
    rw [iteF hc307] at hF296
    simp only [run_skip, x52_14, run_seq, run_draw, f304, d4_mv, put1d_some, d4_chk, xchk_ptr, d4_fa, Nat.reduceAdd, Nat.zero_add, Nat.add_zero, xfa_ptr, d4_ld, B0, reduceIte,
        reduceEqDiff]
    refine put1d_eq (v := v290) ((SlG.ld (o := 3) hv282 rfl hx57 (Sep.m1 hS306) (Nat.le_of_ble_eq_true rfl)).trans rfl) ?_
    simp only [f303, d4_fa, put1d_some, Nat.reduceAdd, Nat.zero_add, Nat.add_zero, xfa_ref, d4_ld, B0, reduceIte, reduceEqDiff]
    refine put1d_eq (v := .int .i64 v_1.Part) rfl ?_
    obtain ⟨x312, hx313, hF314⟩ := bind_some' hF296
    simp only [d4_ia, B0, reduceIte, reduceEqDiff]
    obtain ⟨b315, hb316⟩ := SlF.isrow hv292 (geti_ne hx313)
    refine put1d_eq (SlF.ia hv292 hb316 hx313) ?_
    simp only [d4_ld, B0, reduceIte, reduceEqDiff]
    refine put1d_eq (v := .int .i64 x312) ((SlF.ld (o := 0) hv292 (Sep.m5 hS306) hb316 hx313 (fun _ => rfl) (Nat.le_of_ble_eq_true rfl)).trans rfl) ?_
    simp only [f303, d4_fa, put1d_some, Nat.reduceAdd, Nat.zero_add, Nat.add_zero, xfa_ref, d4_ld, B0, reduceIte, reduceEqDiff]
    refine put1d_eq (v := .int .i64 v_1.N) rfl ?_
    simp only [f302, d4_mv, put1d_some, d4_chk, xchk_ptr, d4_fa, Nat.reduceAdd, Nat.zero_add, Nat.add_zero, xfa_ptr, d4_ld, B0, reduceIte, reduceEqDiff]
    refine put1d_eq (v := pv0_3) ((xld_b (Sep.bk _ _ _ hS306)).trans rfl) ?_
    simp only [f303, d4_fa, put1d_some, Nat.reduceAdd, Nat.zero_add, Nat.add_zero, xfa_ref, d4_ld, B0, reduceIte, reduceEqDiff]
    refine put1d_eq (v := .int .i64 v_1.Part) rfl ?_
    obtain ⟨x317, hx318, hF319⟩ := bind_some' hF314
    simp only [d4_ia, B0, reduceIte, reduceEqDiff]
    obtain ⟨b320, hb321⟩ := SlF.isrow ph0_3 (geti_ne hx318)
    refine put1d_eq (SlF.ia ph0_3 hb321 hx318) ?_
    simp only [d4_ld, B0, reduceIte, reduceEqDiff]
    refine put1d_eq (v := .int .i64 x317) ((SlF.ld (o := 0) ph0_3 (Sep.m3 hS306) hb321 hx318 (fun _ => rfl) (Nat.le_of_ble_eq_true rfl)).trans rfl) ?_
    simp only [f304, d4_mv, put1d_some, d4_chk, xchk_ptr, d4_fa, Nat.reduceAdd, Nat.zero_add, Nat.add_zero, xfa_ptr, d4_ld, B0, reduceIte, reduceEqDiff]
    refine put1d_eq (v := v290) ((SlG.ld (o := 3) hv282 rfl hx57 (Sep.m1 hS306) (Nat.le_of_ble_eq_true rfl)).trans rfl) ?_
    simp only [f303, d4_fa, put1d_some, Nat.reduceAdd, Nat.zero_add, Nat.add_zero, xfa_ref, d4_ld, B0, reduceIte, reduceEqDiff]
    refine put1d_eq (v := .int .i64 v_1.Part) rfl ?_
    simp only [d4_ia, B0, reduceIte, reduceEqDiff]
    refine put1d_eq (SlF.ia hv292 hb316 hx313) ?_
    simp only [d4_ld, B0, reduceIte, reduceEqDiff]
    refine put1d_eq (v := .int .i64 x312) ((SlF.ld (o := 0) hv292 (Sep.m5 hS306) hb316 hx313 (fun _ => rfl) (Nat.le_of_ble_eq_true rfl)).trans rfl) ?_
    simp only [d4_bin, put1d_some, xsub, d4_mnx, pmin2, xadd, d4_ia, B0, reduceIte, reduceEqDiff]
    refine put1d_eq (SlF.ia hv292 hb316 hx313) ?_
    simp only [d3_st, B0, reduceIte, reduceEqDiff]
    refine put2d_stF (f := cI) (x' := (IntKind.wrap .i64 (x312 + (mnI v_1.N (IntKind.wrap .i64 (x317 - x312)))))) (o := 0) hv292 (Sep.m5 hS306) hW hb316 hx313
        (fun _ => rfl) rfl rfl (Nat.le_of_ble_eq_true rfl) rfl (fun c324 h322 hv325 hS323 => ?_)
    have hx326 := geti_set (x' := (IntKind.wrap .i64 (x312 + (mnI v_1.N (IntKind.wrap .i64 (x317 - x312)))))) hx313
    simp only [run_draw_nil, run_seq, run_reg, run_mv, run_ops_nil, run_ret, B0, reduceIte, reduceEqDiff]
    obtain ⟨c327, hv328, hS329⟩ := SlG.cls (e' := (Reader.mk x56.In x56.Generation x56.Share (List.set x56.Read v_1.Part.toNat (IntKind.wrap .i64 (x312 + (mnI v_1.N
        (IntKind.wrap .i64 (x317 - x312)))))))) (c := c279) (os := c287 ++ (c324)) hv282 rfl hx57 hk_nil (Reader.RI (x := (Reader.mk x56.In x56.Generation x56.Share
        (List.set x56.Read v_1.Part.toNat (IntKind.wrap .i64 (x312 + (mnI v_1.N (IntKind.wrap .i64 (x317 - x312)))))))) hv288 hv325) (Sep.ni2 (c1 := c287) (c2 := c324) (Sep.m3
        (Sep.m5 hS323)))
    have hx330 := geti_set (x' := (Reader.mk x56.In x56.Generation x56.Share (List.set x56.Read v_1.Part.toNat (IntKind.wrap .i64 (x312 + (mnI v_1.N (IntKind.wrap .i64
        (x317 - x312)))))))) hx57
    have hv331 := SlG.toN hv328
    have he := some_inj hF319
    subst he
    simp only [end_ret1, B0, reduceIte, reduceEqDiff]
    exact ⟨pv0_1, c327, pv0_2, pc0_2, pv0_3, pc0_3, by first | trivial | rfl, hv331, ph0_2, ph0_3, (Sep.m3 (Sep.m2 (Sep.m3 (Sep.m3 hS329))))⟩
  rw [iteF hc278] at hk88
  simp only [x52_19, run_seq, run_reg, f103, run_bin, put1_some, xeql, run_mv, run_ops_nil, x52_18, run_cond, B0, reduceIte, reduceEqDiff]
  refine cond_split (t := (decide (v_1.Kind = 5))) (fun hc332 => ?_) (fun hc332 => ?_)
  · rw [iteT hc332] at hk88
    simp only [x52_17, run_seq, run_draw, f102, d4_mv, put1d_some, d4_un, xnot, B0, reduceIte, reduceEqDiff]
    simp only [run_guardd (g := 197), B0, reduceIte, reduceEqDiff]
    refine guardd_split (t := (!(decide (x56.Generation = v_0.Generation)))) (fun hg333 => ?_) (fun hg333 => ?_)
    · rw [iteT hg333] at hk88
      simp only [hg333, run_guardd (g := 197), guardd_off', d4_pick, put1d_some, xpick_t, run_draw_nil, run_cond, cond_true, run_seq, run_reg, run_mv, run_ops_nil, run_ret, B0,
          reduceIte, reduceEqDiff]
      have he := some_inj hk88
      subst he
      simp only [end_ret1, B0, reduceIte, reduceEqDiff]
      exact ⟨pv0_1, c81, pv0_2, pc0_2, pv0_3, pc0_3, by first | trivial | rfl, hv84, ph0_2, ph0_3, (Sep.m3 (Sep.m3 (Sep.m3 (Sep.m3 hS98))))⟩
    rw [iteF hg333] at hk88
    obtain ⟨c334, cs335, os336, hv337, hR338, hS339⟩ := SlG.opn (SlN.toG hv84 hb60 Reader.RO.len) hx57 hk_nil Reader.RO.len (Sep.m1 hS98)
    obtain ⟨v341, c342, v345, c346, hv343, hv347, rfl, rfl⟩ := hR338
    have hS340 := Sep.no2 hS339
    simp only [hg333, run_guardd (g := 197), guardd_false, f101, d4_mv, put1d_some, d4_chk, xchk_ptr, d4_fa, Nat.reduceAdd, Nat.zero_add, Nat.add_zero, xfa_ptr, d4_ld, B0,
        reduceIte, reduceEqDiff]
    refine put1d_eq (v := v341) ((SlG.ld (o := 2) hv337 rfl hx57 hS340 (Nat.le_of_ble_eq_true rfl)).trans rfl) ?_
    simp only [hg333, run_guardd (g := 197), guardd_false, f100, d4_fa, put1d_some, Nat.reduceAdd, Nat.zero_add, Nat.add_zero, xfa_ref, d4_ld, B0, reduceIte, reduceEqDiff]
    refine put1d_eq (v := .int .i64 v_1.Part) rfl ?_
    obtain ⟨v349, hx350, hF351⟩ := bind_some' hk88
    simp only [hg333, run_guardd (g := 197), guardd_false, run_d3_call, B0, reduceIte, reduceEqDiff]
    refine call1d rfl (mapM1 (SlF.snap hv343 (Sep.m1 hS340) rfl (fun _ => rfl) (fun _ => rfl)) (mapM1 snap_int mapM0)) (slices_Contains_int_x
        (fun b hb => decide_eq_true hb) x56.Share v_1.Part v349 hx350) ?_
    simp only [hg333, run_guardd (g := 197), guardd_false, d4_un, put1d_some, xnot, d4_pick, xpick_f, run_draw_nil, run_cond, B0, reduceIte, reduceEqDiff]
    refine cond_split (t := (!v349)) (fun hc352 => ?_) (fun hc352 => ?_)
    · rw [iteT hc352] at hF351
      simp only [run_seq, run_reg, run_mv, run_ops_nil, run_ret, B0, reduceIte, reduceEqDiff]
      obtain ⟨c353, hv354, hS355⟩ := SlG.cls0 (c := c334) (os := c342 ++ (c346)) hv337 rfl hx57 hk_nil (Reader.RI (x := x56) hv343 hv347) (Sep.ni2 (c1 := c342) (c2 := c346)
          (Sep.m2 (Sep.m2 (Sep.m2 hS340))))
      have hv356 := SlG.toN hv354
      have he := some_inj hF351
      subst he
      simp only [end_ret1, B0, reduceIte, reduceEqDiff]
      exact ⟨pv0_1, c353, pv0_2, pc0_2, pv0_3, pc0_3, by first | trivial | rfl, hv356, ph0_2, ph0_3, (Sep.m3 (Sep.m2 (Sep.m3 (Sep.m3 hS355))))⟩
    rw [iteF hc352] at hF351
    simp only [run_skip, x52_16, run_seq, run_draw, f99, d4_mv, put1d_some, d4_chk, xchk_ptr, d4_fa, Nat.reduceAdd, Nat.zero_add, Nat.add_zero, xfa_ptr, d4_ld, B0, reduceIte,
        reduceEqDiff]
    refine put1d_eq (v := pv0_2) ((xld_b (Sep.bk _ _ _ (Sep.m3 hS340))).trans rfl) ?_
    simp only [f100, d4_fa, put1d_some, Nat.reduceAdd, Nat.zero_add, Nat.add_zero, xfa_ref, d4_ld, B0, reduceIte, reduceEqDiff]
    refine put1d_eq (v := .int .i64 v_1.Part) rfl ?_
    simp only [f99, d4_mv, put1d_some, d4_chk, xchk_ptr, d4_fa, Nat.reduceAdd, Nat.zero_add, Nat.add_zero, xfa_ptr, d4_ld, B0, reduceIte, reduceEqDiff]
    refine put1d_eq (v := pv0_2) ((xld_b (Sep.bk _ _ _ (Sep.m3 hS340))).trans rfl) ?_
    simp only [f100, d4_fa, put1d_some, Nat.reduceAdd, Nat.zero_add, Nat.add_zero, xfa_ref, d4_ld, B0, reduceIte, reduceEqDiff]
    refine put1d_eq (v := .int .i64 v_1.Part) rfl ?_
    obtain ⟨x357, hx358, hF359⟩ := bind_some' hF351
    simp only [d4_ia, B0, reduceIte, reduceEqDiff]
    obtain ⟨b360, hb361⟩ := SlF.isrow ph0_2 (geti_ne hx358)
    refine put1d_eq (SlF.ia ph0_2 hb361 hx358) ?_
    simp only [d4_ld, B0, reduceIte, reduceEqDiff]
    refine put1d_eq (v := .int .i64 x357) ((SlF.ld (o := 0) ph0_2 (Sep.m4 hS340) hb361 hx358 (fun _ => rfl) (Nat.le_of_ble_eq_true rfl)).trans rfl) ?_
    simp only [f101, d4_mv, put1d_some, d4_chk, xchk_ptr, d4_fa, Nat.reduceAdd, Nat.zero_add, Nat.add_zero, xfa_ptr, d4_ld, B0, reduceIte, reduceEqDiff]
    refine put1d_eq (v := v345) ((SlG.ld (o := 3) hv337 rfl hx57 hS340 (Nat.le_of_ble_eq_true rfl)).trans rfl) ?_
    simp only [f100, d4_fa, put1d_some, Nat.reduceAdd, Nat.zero_add, Nat.add_zero, xfa_ref, d4_ld, B0, reduceIte, reduceEqDiff]
    refine put1d_eq (v := .int .i64 v_1.Part) rfl ?_
    obtain ⟨x362, hx363, hF364⟩ := bind_some' hF359
    simp only [d4_ia, B0, reduceIte, reduceEqDiff]
    obtain ⟨b365, hb366⟩ := SlF.isrow hv347 (geti_ne hx363)
    refine put1d_eq (SlF.ia hv347 hb366 hx363) ?_
    simp only [d4_ld, B0, reduceIte, reduceEqDiff]
    refine put1d_eq (v := .int .i64 x362) ((SlF.ld (o := 0) hv347 (Sep.m2 hS340) hb366 hx363 (fun _ => rfl) (Nat.le_of_ble_eq_true rfl)).trans rfl) ?_
    simp only [d4_mnx, put1d_some, pmax2, d4_ia, B0, reduceIte, reduceEqDiff]
    refine put1d_eq (SlF.ia ph0_2 hb361 hx358) ?_
    simp only [d3_st, B0, reduceIte, reduceEqDiff]
    refine put2d_stF (f := cI) (x' := (mxI x357 x362)) (o := 0) ph0_2 (Sep.m4 hS340) hW hb361 hx358 (fun _ => rfl) rfl rfl (Nat.le_of_ble_eq_true rfl) rfl
        (fun c369 h367 hv370 hS368 => ?_)
    have hx371 := geti_set (x' := (mxI x357 x362)) hx358
    simp only [run_draw_nil, run_seq, run_reg, run_mv, run_ops_nil, run_ret, B0, reduceIte, reduceEqDiff]
    obtain ⟨c372, hv373, hS374⟩ := SlG.cls0 (c := c334) (os := c342 ++ (c346)) hv337 rfl hx57 hk_nil (Reader.RI (x := x56) hv343 hv347) (Sep.ni2 (c1 := c342) (c2 := c346) (Sep.m3
        (Sep.m3 (Sep.m3 hS368))))
    have hv375 := SlG.toN hv373
    have he := some_inj hF364
    subst he
    simp only [end_ret1, B0, reduceIte, reduceEqDiff]
    exact ⟨pv0_1, c372, pv0_2, c369, pv0_3, pc0_3, by first | trivial | rfl, hv375, hv370, ph0_3, (Sep.m3 (Sep.m2 (Sep.m2 (Sep.m3 hS374))))⟩
  rw [iteF hc332] at hk88
  simp only [run_skip, run_blk, run_seq, run_reg, run_mv, run_ops_nil, run_ret, B0, reduceIte, reduceEqDiff]
  have he := some_inj hk88
  subst he
  simp only [end_ret1, B0, reduceIte, reduceEqDiff]
  exact ⟨pv0_1, c81, pv0_2, pc0_2, pv0_3, pc0_3, by first | trivial | rfl, hv84, ph0_2, ph0_3, (Sep.m3 (Sep.m3 (Sep.m3 (Sep.m3 hS98))))⟩
end Go.Proofs.Ytdhibknhejhfaaa.X
