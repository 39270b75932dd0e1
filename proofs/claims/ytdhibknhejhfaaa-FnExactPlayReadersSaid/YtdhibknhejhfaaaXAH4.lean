/- The functions' code comes to what the plain functions say (4). -/
import Derived.Test.YtdhibknhejhfaaaXAH3
set_option linter.unusedVariables false
set_option linter.unusedSimpArgs false
set_option maxRecDepth 100000
namespace Go.Proofs.Ytdhibknhejhfaaa.X
open Go
theorem spec_l14Own_x {W : Nat → Bool} {h : Heap} (hW : ∀ b,
    h.length ≤ b → W b = true) (r_0 : Readers_) (r : Readers_) (hF : spec_l14Own r_0 = some r) : Ret E W 54 [.agg [.int .i64 r_0.Generation, lst Reader.cells r_0.Readers,
    lst cI r_0.Committed, lst cI r_0.Ends]] h (fun v h' => ∃ rv0_1 rc0_1 rv0_2 rc0_2 rv0_3 rc0_3, v = .agg [.int .i64 r.Generation, rv0_1, rv0_2,
    rv0_3] ∧ SlN Reader.R 4 37 rv0_1 r.Readers rc0_1 ∧ SlF cI 1 3 rv0_2 r.Committed rc0_2 ∧ SlF cI 1 3 rv0_3 r.Ends rc0_3 ∧ Sep h' h.length (rc0_1 ++ (rc0_2 ++ (rc0_3 ++
    ([]))))) := by
  refine Ret.of (fn := x54) rfl (Run.of ?_)
  unfold spec_l14Own at hF
  have zf0 : argFr [.agg [.int .i64 r_0.Generation, lst Reader.cells r_0.Readers, lst cI r_0.Committed, lst cI r_0.Ends]] 0 = .agg [.int .i64 r_0.Generation,
      lst Reader.cells r_0.Readers, lst cI r_0.Committed, lst cI r_0.Ends] := rfl
  generalize argFr [.agg [.int .i64 r_0.Generation, lst Reader.cells r_0.Readers, lst cI r_0.Committed, lst cI r_0.Ends]] = fr0 at zf0 ⊢
  have hS : Sep h h.length [] := Sep.nil h
  simp only [x54, run_seq, run_reg, run_box, zf0, put_at, put_no, ev_t, ev_c, reduceIte, Nat.reduceEqDiff, List.map_cons, List.map_nil]
  refine put2_boxC (cs := [.int .i64 r_0.Generation, lst Reader.cells r_0.Readers, lst cI r_0.Committed, lst cI r_0.Ends]) hS rfl rfl rfl (fun b1 h2 hS3 => ?_)
  simp only [run_new, put_at, put_no, ev_t, ev_c, reduceIte, Nat.reduceEqDiff, List.map_cons, List.map_nil]
  refine put2_newC hS3 (fun b5 h6 hS7 => ?_)
  simp only [run_ops_nil, put_at, put_no, ev_t, ev_c, reduceIte, Nat.reduceEqDiff, List.map_cons, List.map_nil]
  refine frz_stepC (Sep.m1 hS7) hW (by simp only [put_at, put_no, ev_t, ev_c, reduceIte, Nat.reduceEqDiff, List.map_cons, List.map_nil]) (fun h9 hS10 => ?_)
  simp only [run_frz_nil, x54_8, run_seq, run_draw, d4_buildS, evp, put_at, put_no, ev_t, ev_c, reduceIte, Nat.reduceEqDiff, List.map_cons, List.map_nil]
  refine put2d_buildSF (n := 1) (f := cI) ([] : List Int) hS10 rfl rfl (fun v11 c12 h13 hv14 hS15 => ?_)
  simp only [d1_buildS, evp, put_at, put_no, ev_t, ev_c, reduceIte, Nat.reduceEqDiff, List.map_cons, List.map_nil]
  refine put2d_buildSF (n := 1) (f := cI) ([] : List Int) hS15 rfl rfl (fun v17 c18 h19 hv20 hS21 => ?_)
  simp only [d1_new, put_at, put_no, ev_t, ev_c, reduceIte, Nat.reduceEqDiff, List.map_cons, List.map_nil]
  refine put2d_newC hS21 (fun b23 h24 hS25 => ?_)
  simp only [d1_fa, put1d_some, Nat.reduceAdd, Nat.zero_add, Nat.add_zero, xfa_ref, d1_ld, ldd_ref, put_at, put_no, ev_t, ev_c, reduceIte, Nat.reduceEqDiff, List.map_cons,
      List.map_nil]
  refine put1d_eq (v := .int .i64 r_0.Generation) rfl ?_
  simp only [d4_fa, put1d_some, Nat.reduceAdd, Nat.zero_add, Nat.add_zero, xfa_ref, d4_ld, put_at, put_no, ev_t, ev_c, reduceIte, Nat.reduceEqDiff, List.map_cons, List.map_nil]
  refine put1d_eq (v := lst cI r_0.Committed) rfl ?_
  simp only [d2_app, put_at, put_no, ev_t, ev_c, reduceIte, Nat.reduceEqDiff, List.map_cons, List.map_nil]
  obtain ⟨l27, hx28, hF29⟩ := bind_some' hF
  refine put2d_appF (f := cI) hv14 (Sep.m2 hS25) hW (fun _ => rfl) (fun _ => rfl) (firstOf_lst (fun _ => rfl)) hx28 (fun v30 c31 h32 hv33 hS34 => ?_)
  simp only [d1_fa, put1d_some, Nat.reduceAdd, Nat.zero_add, Nat.add_zero, xfa_ref, d1_ld, ldd_ref, put_at, put_no, ev_t, ev_c, reduceIte, Nat.reduceEqDiff, List.map_cons,
      List.map_nil]
  refine put1d_eq (v := lst cI r_0.Ends) rfl ?_
  simp only [d2_app, put_at, put_no, ev_t, ev_c, reduceIte, Nat.reduceEqDiff, List.map_cons, List.map_nil]
  obtain ⟨l36, hx37, hF38⟩ := bind_some' hF29
  refine put2d_appF (f := cI) hv20 (Sep.m2 hS34) hW (fun _ => rfl) (fun _ => rfl) (firstOf_lst (fun _ => rfl)) hx37 (fun v39 c40 h41 hv42 hS43 => ?_)
  simp only [d4_build, evp, put_at, put_no, ev_t, ev_c, reduceIte, Nat.reduceEqDiff, List.map_cons, List.map_nil]
  refine put1d_eq (v := .agg [.int .i64 r_0.Generation, .nil, v30, v39]) (pbuild_some (fill1 (us := [.int .i64 r_0.Generation]) (vs := [.int .i64 r_0.Generation, .nil, .nil,
      .nil]) rfl rfl (Nat.le_of_ble_eq_true rfl) rfl rfl (fill1 (us := [v30]) (vs := [.int .i64 r_0.Generation, .nil, v30,
      .nil]) (cells_one (SlF.one hv33)) rfl (Nat.le_of_ble_eq_true rfl) (all_c (SlF.one hv33) all_n) rfl (fill1 (us := [v39]) (vs := [.int .i64 r_0.Generation, .nil, v30,
      v39]) (cells_one (SlF.one hv42)) rfl (Nat.le_of_ble_eq_true rfl) (all_c (SlF.one hv42) all_n) rfl fill0)))) ?_
  simp only [d3_st, put_at, put_no, ev_t, ev_c, reduceIte, Nat.reduceEqDiff, List.map_cons, List.map_nil]
  refine put2d_stCx (us := [.int .i64 r_0.Generation, .nil, v30, v39]) rfl (cs' := [.int .i64 r_0.Generation, .nil, v30,
      v39]) (Sep.m2 hS43) hW rfl (all_c rfl (all_c rfl (all_c (SlF.one hv33) (all_c (SlF.one hv42) all_n)))) (Nat.le_of_ble_eq_true rfl) rfl (fun h45 hS46 => ?_)
  simp only [put_no, run_draw_nil, x54_7, run_seq, run_reg, run_fa, put1_some, Nat.reduceAdd, Nat.zero_add, Nat.add_zero, xfa_ref, run_ld, put_at, ev_t, ev_c, reduceIte,
      Nat.reduceEqDiff, List.map_cons, List.map_nil]
  refine put1_eq (v := lst Reader.cells r_0.Readers) rfl ?_
  simp only [run_len, put1_some, xlen_lst, run_mv, run_ops_nil, put_at, put_no, ev_t, ev_c, reduceIte, Nat.reduceEqDiff, List.map_cons, List.map_nil]
  obtain ⟨oc59, hX61, hk62⟩ := jn_some hF38
  simp only [x54_6]
  refine rangeL_j (σ := Readers_) r_0.Readers (fun i57 x58 s138 => spec_l14Own_b1 l27 l36 i57 x58 s138) (fun s fr' h' => ∃ v54 c55,
      fr' 2 = .ptr b5 0 ∧ fr' 3 = .ptr b23 0 ∧ fr' 18 = lst Reader.cells r_0.Readers ∧ SlN Reader.R 4 37 v54 s.Readers c55 ∧ Sep h' h.length ([Blk1 b5 [.int .i64 0, .nil, .nil,
      .nil] 29] ++ ([Blk1 b23 [.int .i64 s.Generation, v54, v30, v39] 29] ++ (c55 ++ (c31 ++ (c40 ++ ([]))))))) hX61 ⟨.nil, [], by simp only [put_at, put_no, ev_t, ev_c,
      reduceIte, Nat.reduceEqDiff, List.map_cons, List.map_nil], by simp only [put_at, put_no, ev_t, ev_c, reduceIte, Nat.reduceEqDiff, List.map_cons, List.map_nil],
      by simp only [put_at, put_no, ev_t, ev_c, reduceIte, Nat.reduceEqDiff, List.map_cons, List.map_nil], SlN.nil,
      ((Sep.m3 (Sep.m2 (Sep.m2 (Sep.m1 hS46)))) : Sep _ h.length ([Blk1 b5 [.int .i64 0, .nil, .nil, .nil] 29] ++ ([Blk1 b23 [.int .i64 r_0.Generation, .nil, v30,
      v39] 29] ++ (c31 ++ (c40 ++ ([]))))))⟩ (by simp only [put_at, put_no, ev_t, ev_c, reduceIte, Nat.reduceEqDiff, List.map_cons, List.map_nil]) (by simp only [put_at, put_no,
      ev_t, ev_c, reduceIte, Nat.reduceEqDiff, List.map_cons,
      List.map_nil]) (fun _ _ _ h => h) rfl rfl (fun _ _ _ _ h => h) (fun _ _ _ _ h => h) (fun _ _ _ _ h => h) (by decide) ?_ ?_
  · rintro i57 x58 s52 fr71 h72 hx77 ⟨v54, c55, f74, f75, f76, hv56, hS73⟩ f78 f79 oc60 hF63 hr64 Q65 hN66 hB70 hK67 hR68 hE69
    unfold spec_l14Own_b1 at hF63
    simp only [x54_4, run_seq, run_reg, f76, f78, run_ia, put_at, put_no, ev_t, ev_c, reduceIte, Nat.reduceEqDiff, List.map_cons, List.map_nil]
    refine put1_eq (v := .ref (Reader.cells x58) 0) (xia_lstN hx77 rfl) ?_
    simp only [run_ld, put_at, put_no, ev_t, ev_c, reduceIte, Nat.reduceEqDiff, List.map_cons, List.map_nil]
    refine put1_eq (v := .agg [.bool x58.In, .int .i64 x58.Generation, lst cI x58.Share, lst cI x58.Read]) rfl ?_
    simp only [run_new, put_at, put_no, ev_t, ev_c, reduceIte, Nat.reduceEqDiff, List.map_cons, List.map_nil]
    refine put2_newC hS73 (fun b80 h81 hS82 => ?_)
    simp only [run_st, put_at, put_no, ev_t, ev_c, reduceIte, Nat.reduceEqDiff, List.map_cons, List.map_nil]
    refine put2_stCx (us := [.bool x58.In, .int .i64 x58.Generation, lst cI x58.Share, lst cI x58.Read]) rfl (cs' := [.bool x58.In, .int .i64 x58.Generation, lst cI x58.Share,
        lst cI x58.Read]) hS82 hW rfl rfl (Nat.le_of_ble_eq_true rfl) rfl (fun h84 hS85 => ?_)
    simp only [put_no, run_ops_nil, x54_3, run_seq, run_reg, run_buildS, evp, put_at, ev_t, ev_c, reduceIte, Nat.reduceEqDiff, List.map_cons, List.map_nil]
    refine put2_buildSF (n := 1) (f := cI) ([] : List Int) hS85 rfl rfl (fun v86 c87 h88 hv89 hS90 => ?_)
    simp only [run_fa, put1_some, Nat.reduceAdd, Nat.zero_add, Nat.add_zero, xfa_ptr, run_ld, put_at, put_no, ev_t, ev_c, reduceIte, Nat.reduceEqDiff, List.map_cons, List.map_nil]
    refine put1_eq (v := lst cI x58.Share) ((xld_b (Sep.bk _ _ _ (Sep.m1 hS90))).trans rfl) ?_
    simp only [run_app, put_at, put_no, ev_t, ev_c, reduceIte, Nat.reduceEqDiff, List.map_cons, List.map_nil]
    obtain ⟨l92, hx93, hF94⟩ := bind_some' hF63
    refine put2_appF (f := cI) hv89 hS90 hW (fun _ => rfl) (fun _ => rfl) (firstOf_lst (fun _ => rfl)) hx93 (fun v95 c96 h97 hv98 hS99 => ?_)
    simp only [run_fa, put1_some, Nat.reduceAdd, Nat.zero_add, Nat.add_zero, xfa_ptr, run_st, put_at, put_no, ev_t, ev_c, reduceIte, Nat.reduceEqDiff, List.map_cons, List.map_nil]
    refine put2_stCx (us := [v95]) (cells_one (SlF.one hv98)) (cs' := [.bool x58.In, .int .i64 x58.Generation, v95,
        lst cI x58.Read]) (Sep.m1 hS99) hW rfl (all_c (SlF.one hv98) all_n) (Nat.le_of_ble_eq_true rfl) rfl (fun h101 hS102 => ?_)
    simp only [put_no, run_ops_nil, x54_2, run_seq, run_reg, run_buildS, evp, put_at, ev_t, ev_c, reduceIte, Nat.reduceEqDiff, List.map_cons, List.map_nil]
    refine put2_buildSF (n := 1) (f := cI) ([] : List Int) hS102 rfl rfl (fun v103 c104 h105 hv106 hS107 => ?_)
    simp only [run_fa, put1_some, Nat.reduceAdd, Nat.zero_add, Nat.add_zero, xfa_ptr, run_ld, put_at, put_no, ev_t, ev_c, reduceIte, Nat.reduceEqDiff, List.map_cons, List.map_nil]
    refine put1_eq (v := lst cI x58.Read) ((xld_b (Sep.bk _ _ _ (Sep.m1 hS107))).trans rfl) ?_
    simp only [run_app, put_at, put_no, ev_t, ev_c, reduceIte, Nat.reduceEqDiff, List.map_cons, List.map_nil]
    obtain ⟨l109, hx110, hF111⟩ := bind_some' hF94
    refine put2_appF (f := cI) hv106 hS107 hW (fun _ => rfl) (fun _ => rfl) (firstOf_lst (fun _ => rfl)) hx110 (fun v112 c113 h114 hv115 hS116 => ?_)
    simp only [run_fa, put1_some, Nat.reduceAdd, Nat.zero_add, Nat.add_zero, xfa_ptr, run_st, put_at, put_no, ev_t, ev_c, reduceIte, Nat.reduceEqDiff, List.map_cons, List.map_nil]
    refine put2_stCx (us := [v112]) (cells_one (SlF.one hv115)) (cs' := [.bool x58.In, .int .i64 x58.Generation, v95,
        v112]) (Sep.m1 hS116) hW rfl (all_c (SlF.one hv115) all_n) (Nat.le_of_ble_eq_true rfl) rfl (fun h118 hS119 => ?_)
    simp only [put_no, run_ops_nil, x54_1, run_reg, f75, run_fa, put1_some, Nat.reduceAdd, Nat.zero_add, Nat.add_zero, xfa_ptr, run_ld, put_at, ev_t, ev_c, reduceIte,
        Nat.reduceEqDiff, List.map_cons, List.map_nil]
    refine put1_eq (v := v54) ((xld_b (Sep.bk _ _ _ (Sep.m4 hS119))).trans rfl) ?_
    simp only [run_ld, put_at, put_no, ev_t, ev_c, reduceIte, Nat.reduceEqDiff, List.map_cons, List.map_nil]
    refine put1_eq (v := .agg [.bool x58.In, .int .i64 x58.Generation, v95, v112]) ((xld_bs (Sep.bk _ _ _ hS119)).trans rfl) ?_
    simp only [run_buildS, evp, put_at, put_no, ev_t, ev_c, reduceIte, Nat.reduceEqDiff, List.map_cons, List.map_nil]
    refine put2_buildSN (R := Reader.R) (n := 4) (cs := [.bool x58.In, .int .i64 x58.Generation, v95,
        v112]) (os := c96 ++ (c113)) (Sep.bi2 (c1 := c96) (c2 := c113) (Sep.m2 (Sep.m1 hS119))) (fill1 (us := [.bool x58.In, .int .i64 x58.Generation, v95,
        v112]) (vs := [.bool x58.In, .int .i64 x58.Generation, v95,
        v112]) rfl rfl (Nat.le_of_ble_eq_true rfl) (all_c rfl (all_c rfl (all_c (SlF.one hv98) (all_c (SlF.one hv115) all_n)))) rfl fill0) (Reader.RI (x :=
        (Reader.mk x58.In x58.Generation l92 l109)) hv98 hv115) rfl (fun v120 c121 h122 hv123 hS124 => ?_)
    simp only [run_app, put_at, put_no, ev_t, ev_c, reduceIte, Nat.reduceEqDiff, List.map_cons, List.map_nil]
    obtain ⟨l126, hx127, hF128⟩ := bind_some' hF111
    refine put2_appN (R := Reader.R) (c := c55) hv56 hv123 (Sep.m4 hS124) hW Reader.RO.len Reader.RO.one hx127 (fun v129 c130 h131 hv132 hS133 => ?_)
    simp only [f75, run_fa, put1_some, Nat.reduceAdd, Nat.zero_add, Nat.add_zero, xfa_ptr, run_st, put_at, put_no, ev_t, ev_c, reduceIte, Nat.reduceEqDiff, List.map_cons,
        List.map_nil]
    refine put2_stCx (us := [v129]) (cells_one (SlN.one hv132)) (cs' := [.int .i64 s52.Generation, v129, v30,
        v39]) (Sep.m3 hS133) hW rfl (all_c (SlN.one hv132) all_n) (Nat.le_of_ble_eq_true rfl) rfl (fun h135 hS136 => ?_)
    simp only [put_no, run_ops_nil, run_nil, put_at, ev_t, ev_c, reduceIte, Nat.reduceEqDiff, List.map_cons, List.map_nil]
    have e137 := some_inj hF128
    exact hN66 _ _ _ e137.symm ⟨v129, c130, by simp only [f74, put_at, put_no, ev_t, ev_c, reduceIte, Nat.reduceEqDiff, List.map_cons, List.map_nil], by simp only [f75, put_at,
        put_no, ev_t, ev_c, reduceIte, Nat.reduceEqDiff, List.map_cons, List.map_nil], by simp only [f76, put_at, put_no, ev_t, ev_c, reduceIte, Nat.reduceEqDiff, List.map_cons,
        List.map_nil], hv132, (Sep.m4 (Sep.m3 (Sep.m3 (Sep.m4 (Sep.m4 (Sep.dc (Sep.m2 hS136)))))))⟩ (by simp only [f78, put_at, put_no, ev_t, ev_c, reduceIte, Nat.reduceEqDiff,
        List.map_cons, List.map_nil]) (by simp only [f79, put_at, put_no, ev_t, ev_c, reduceIte, Nat.reduceEqDiff, List.map_cons, List.map_nil])
  · rintro s139 fr144 h145 rfl ⟨v141, c142, f147, f148, f149, hv143, hS146⟩
    dsimp only [jnO] at hk62
    unfold spec_l14Own_j1 at hk62
    simp only [run_seq, run_reg, f148, run_ld, put_at, put_no, ev_t, ev_c, reduceIte, Nat.reduceEqDiff, List.map_cons, List.map_nil]
    refine put1_eq (v := .agg [.int .i64 s139.Generation, v141, v30, v39]) ((xld_bs (Sep.bk _ _ _ (Sep.m1 hS146))).trans rfl) ?_
    simp only [f147, run_st, put_at, put_no, ev_t, ev_c, reduceIte, Nat.reduceEqDiff, List.map_cons, List.map_nil]
    refine put2_stCx (us := [.int .i64 s139.Generation, v141, v30, v39]) rfl (cs' := [.int .i64 s139.Generation, v141, v30,
        v39]) hS146 hW rfl (all_c rfl (all_c (SlN.one hv143) (all_c (SlF.one hv33) (all_c (SlF.one hv42) all_n)))) (Nat.le_of_ble_eq_true rfl) rfl (fun h150 hS151 => ?_)
    simp only [put_no, run_ops_nil, run_ret, put_at, ev_t, ev_c, reduceIte, Nat.reduceEqDiff, List.map_cons, List.map_nil]
    have he := some_inj hk62
    subst he
    refine end_ret_cell (bb := b5) (oo := 0) (v := .agg [.int .i64 s139.Generation, v141, v30, v39]) (by simp only [f147, put_at, put_no, ev_t, ev_c, reduceIte, Nat.reduceEqDiff,
        List.map_cons, List.map_nil]) ((xld_bs (Sep.bk _ _ _ hS151)).trans rfl) ?_
    exact ⟨v141, c142, v30, c31, v39, c40, by first | trivial | rfl, hv143, hv33, hv42, (Sep.m2 (Sep.m2 (Sep.m2 (Sep.dc ((Sep.dc (hS151)))))))⟩
theorem spec_PlayReaders_x {W : Nat → Bool} {h : Heap} (hW : ∀ b,
    h.length ≤ b → W b = true) (k : Nat) (readers_0 : Int) (ends_1 : List Int) (l_2 : List GroupStep) (r : Readers_ × (List Bool) × Bool)
    (hF : spec_PlayReaders k readers_0 ends_1 l_2 = some r) : Ret E W 9 [.int .i64 readers_0, lst cI ends_1,
    lst GroupStep.cells l_2] h (fun v h' => ∃ rv0_1 rc0_1 rv0_2 rc0_2 rv0_3 rc0_3 rv1 rc1, v = .tup [.agg [.int .i64 r.1.Generation, rv0_1, rv0_2, rv0_3], rv1,
    .bool r.2.2] ∧ SlN Reader.R 4 37 rv0_1 r.1.Readers rc0_1 ∧ SlF cI 1 3 rv0_2 r.1.Committed rc0_2 ∧ SlF cI 1 3 rv0_3 r.1.Ends rc0_3 ∧ SlF cB 1 4 rv1 r.2.1 rc1 ∧ Sep h' h.length
    (rc0_1 ++ (rc0_2 ++ (rc0_3 ++ (rc1 ++ ([])))))) := by
  refine Ret.of (fn := x9) rfl (Run.of ?_)
  unfold spec_PlayReaders at hF
  have zf0 : argFr [.int .i64 readers_0, lst cI ends_1, lst GroupStep.cells l_2] 0 = .int .i64 readers_0 := rfl
  have zf1 : argFr [.int .i64 readers_0, lst cI ends_1, lst GroupStep.cells l_2] 1 = lst cI ends_1 := rfl
  have zf2 : argFr [.int .i64 readers_0, lst cI ends_1, lst GroupStep.cells l_2] 2 = lst GroupStep.cells l_2 := rfl
  generalize argFr [.int .i64 readers_0, lst cI ends_1, lst GroupStep.cells l_2] = fr0 at zf0 zf1 zf2 ⊢
  have hS : Sep h h.length [] := Sep.nil h
  simp only [x9, run_seq, run_reg, run_new, put_at, put_no, ev_t, ev_c, reduceIte, Nat.reduceEqDiff, List.map_cons, List.map_nil]
  refine put2_newC hS (fun b1 h2 hS3 => ?_)
  obtain ⟨v5, hx6, hF7⟩ := bind_some' hF
  simp only [run_mv, run_ops_nil, x9_14, run_seq, run_reg, zf0, zf1, run_call, put_at, put_no, ev_t, ev_c, reduceIte, Nat.reduceEqDiff, List.map_cons, List.map_nil]
  refine call2 rfl hS3 (mapM1 snap_int (mapM1 snap_lst mapM0)) (spec_NewReaders_x (fun b hb => decide_eq_true hb) k readers_0 ends_1 v5 hx6) ?_
  rintro _ h20 ⟨v8, c9, v12, c13, v16, c17, rfl, hv10, hv14, hv18, hS21⟩
  refine ⟨_, free_t (all_c (free2_a (all_c rfl (all_c (SlN.free1 hv10) (all_c (SlF.free1 hv14) (all_c (SlF.free1 hv18) all_n))))) (all_c rfl all_n)), hS21,
      (pf_app (SlN.pf hv10 Reader.RO) (pf_app (SlF.pf hv14 (fun _ => rfl)) (pf_app (SlF.pf hv18 (fun _ => rfl)) pf_nil))), fun h22 hS23 => ?_⟩
  have hS24 : Sep h22 h.length (c9 ++ (c13 ++ (c17 ++ ([Blk1 b1 [.int .i64 0, .nil, .nil, .nil] 29] ++ ([]))))) := by simpa only [List.append_assoc, List.nil_append] using hS23
  simp only [run_mv, run_ext, put1_some, xext_0, xext_1, run_new, put_at, put_no, ev_t, ev_c, reduceIte, Nat.reduceEqDiff, List.map_cons, List.map_nil]
  refine put2_newC hS24 (fun b25 h26 hS27 => ?_)
  simp only [run_st, put_at, put_no, ev_t, ev_c, reduceIte, Nat.reduceEqDiff, List.map_cons, List.map_nil]
  refine put2_stCx (us := [.int .i64 v5.1.Generation, v8, v12, v16]) rfl (cs' := [.int .i64 v5.1.Generation, v8, v12,
      v16]) hS27 hW rfl (all_c rfl (all_c (SlN.one hv10) (all_c (SlF.one hv14) (all_c (SlF.one hv18) all_n)))) (Nat.le_of_ble_eq_true rfl) rfl (fun h29 hS30 => ?_)
  simp only [put_no, run_mv, run_ops_nil, x9_13, run_seq, run_reg, run_un, put1_some, xnot, put_at, ev_t, ev_c, reduceIte, Nat.reduceEqDiff, List.map_cons, List.map_nil]
  refine ops_j 4 (fun fr' h' => Sep h' h.length ([Blk1 b1 [.int .i64 0, .nil, .nil, .nil] 29] ++ ([Blk1 b25 [.int .i64 v5.1.Generation, v8, v12,
      v16] 29] ++ (c9 ++ (c13 ++ (c17 ++ ([])))))) ∧ fr' 28 = .bool ((!v5.2) || (decide ((80 : Int) <
      (List.length l_2 : Int)))) ∧ fr' 2 = lst GroupStep.cells l_2 ∧ fr' 6 = .ptr b1 0 ∧ fr' 9 = .ptr b25 0) (fun Q31 hN32 => ?_) ?_
  · simp only [List.take_succ_cons, List.take_zero]
    simp only [run_guard (g := 24), put_at, put_no, ev_t, ev_c, reduceIte, Nat.reduceEqDiff, List.map_cons, List.map_nil]
    refine guard_split (t := (!v5.2)) (fun hg33 => ?_) (fun hg33 => ?_)
    · simp only [hg33, run_guard (g := 24), guard_off', run_pick, put1_some, xpick_t, run_ops_nil, run_nil, put_at, put_no, ev_t, ev_c, reduceIte, Nat.reduceEqDiff, List.map_cons,
        List.map_nil]
      exact hN32 _ _ ⟨(Sep.m4 (Sep.m3 (Sep.m3 (Sep.m3 (Sep.m3 hS30))))), by rw [orT hg33]; simp only [put_at, put_no, ev_t, ev_c, reduceIte, Nat.reduceEqDiff, List.map_cons,
          List.map_nil], by simp only [zf2, put_at, put_no, ev_t, ev_c, reduceIte, Nat.reduceEqDiff, List.map_cons, List.map_nil], by simp only [put_at, put_no, ev_t, ev_c,
          reduceIte, Nat.reduceEqDiff, List.map_cons, List.map_nil], by simp only [put_at, put_no, ev_t, ev_c, reduceIte, Nat.reduceEqDiff, List.map_cons, List.map_nil]⟩
    · simp only [hg33, run_guard (g := 24), guard_false, zf2, run_mv, run_len, put1_some, xlen_lst, run_bin, xgtr, run_pick, xpick_f, run_ops_nil, run_nil, put_at, put_no, ev_t,
        ev_c, reduceIte, Nat.reduceEqDiff, List.map_cons, List.map_nil]
      exact hN32 _ _ ⟨(Sep.m4 (Sep.m3 (Sep.m3 (Sep.m3 (Sep.m3 hS30))))), by rw [orF hg33]; simp only [put_at, put_no, ev_t, ev_c, reduceIte, Nat.reduceEqDiff, List.map_cons,
          List.map_nil], by simp only [zf2, put_at, put_no, ev_t, ev_c, reduceIte, Nat.reduceEqDiff, List.map_cons, List.map_nil], by simp only [put_at, put_no, ev_t, ev_c,
          reduceIte, Nat.reduceEqDiff, List.map_cons, List.map_nil], by simp only [put_at, put_no, ev_t, ev_c, reduceIte, Nat.reduceEqDiff, List.map_cons, List.map_nil]⟩
  · rintro fr34 h39 ⟨hS40, f35, f36, f37, f38⟩
    simp only [List.drop_succ_cons, List.drop_zero]
    simp only [run_ops_nil, x9_2, f35, run_cond, put_at, put_no, ev_t, ev_c, reduceIte, Nat.reduceEqDiff, List.map_cons, List.map_nil]
    refine cond_split (t := ((!v5.2) || (decide ((80 : Int) < (List.length l_2 : Int))))) (fun hc41 => ?_) (fun hc41 => ?_)
    · rw [iteT hc41] at hF7
      simp only [x9_1, run_seq, run_reg, run_build, evp, put_at, put_no, ev_t, ev_c, reduceIte, Nat.reduceEqDiff, List.map_cons, List.map_nil]
      refine put1_eq (v := .agg [.int .i64 0, .nil, .nil, .nil]) rfl ?_
      simp only [f37, run_st, put_at, put_no, ev_t, ev_c, reduceIte, Nat.reduceEqDiff, List.map_cons, List.map_nil]
      refine put2_stCx (us := [.int .i64 0, .nil, .nil, .nil]) rfl (cs' := [.int .i64 0, .nil, .nil, .nil]) hS40 hW rfl rfl (Nat.le_of_ble_eq_true rfl) rfl (fun h42 hS43 => ?_)
      simp only [put_no, run_mv, run_ops_nil, run_ret, put_at, ev_t, ev_c, reduceIte, Nat.reduceEqDiff, List.map_cons, List.map_nil]
      have he := some_inj hF7
      subst he
      refine end_ret_m (mapM1 (res_cell (bb := b1) (oo := 0) (v := .agg [.int .i64 0, .nil, .nil, .nil]) (by simp only [f37, put_at, put_no, ev_t, ev_c, reduceIte,
          Nat.reduceEqDiff, List.map_cons, List.map_nil]) ((xld_bs (Sep.bk _ _ _ hS43)).trans rfl)) (mapM1 (res_t (v := .nil) (by simp only [put_at, put_no, ev_t, ev_c, reduceIte,
          Nat.reduceEqDiff, List.map_cons, List.map_nil])) (mapM1 (res_t (v := .bool false) (by simp only [put_at, put_no, ev_t, ev_c, reduceIte, Nat.reduceEqDiff, List.map_cons,
          List.map_nil])) mapM0))) ?_
      exact ⟨.nil, [], .nil, [], .nil, [], .nil, [], by first | trivial | rfl, SlN.nil, SlF.nil, SlF.nil, SlF.nil,
          ((Sep.dc ((Sep.dc ((Sep.dc ((Sep.dc ((Sep.dc (hS43)))))))))) : Sep _ h.length ([]))⟩
    · rw [iteF hc41] at hF7
      simp only [run_skip, x9_12, run_seq, run_reg, run_mv, run_ops_nil, x9_11, f36, run_len, put1_some, xlen_lst, put_at, put_no, ev_t, ev_c, reduceIte, Nat.reduceEqDiff,
          List.map_cons, List.map_nil]
      obtain ⟨oc82, hX84, hk85⟩ := jn_some hF7
      simp only [x9_9]
      refine rangeL_j (σ := (List Bool) × Readers_) l_2 (fun i80 x81 s209 => spec_PlayReaders_b1 i80 x81 s209.1 s209.2) (fun s fr' h' => ∃ v64 c65 v69 c70 v73 c74 v77 c78,
          fr' 6 = .ptr b1 0 ∧ fr' 9 = .ptr b25 0 ∧ fr' 11 = v64 ∧ fr' 30 = lst GroupStep.cells l_2 ∧ SlF cB 1 4 v64 s.1 c65 ∧ SlN Reader.R 4 37 v69 s.2.Readers c70 ∧ SlF cI 1 3 v73 s.2.Committed c74 ∧ SlF cI 1 3 v77 s.2.Ends c78 ∧ Sep h' h.length
          ([Blk1 b1 [.int .i64 0, .nil, .nil, .nil] 29] ++ ([Blk1 b25 [.int .i64 s.2.Generation, v69, v73, v77] 29] ++ (c65 ++ (c70 ++ (c74 ++ (c78 ++ ([])))))))) hX84 ⟨.nil, [],
          v8, c9, v12, c13, v16, c17, by simp only [f37, put_at, put_no, ev_t, ev_c, reduceIte, Nat.reduceEqDiff, List.map_cons, List.map_nil], by simp only [f38, put_at, put_no,
          ev_t, ev_c, reduceIte, Nat.reduceEqDiff, List.map_cons, List.map_nil], by simp only [put_at, put_no, ev_t, ev_c, reduceIte, Nat.reduceEqDiff, List.map_cons,
          List.map_nil], by simp only [put_at, put_no, ev_t, ev_c, reduceIte, Nat.reduceEqDiff, List.map_cons, List.map_nil], SlF.nil, hv10, hv14, hv18,
          ((Sep.m4 (Sep.m4 (Sep.m4 (Sep.m4 (Sep.m4 hS40))))) : Sep _ h.length ([Blk1 b1 [.int .i64 0, .nil, .nil, .nil] 29] ++ ([Blk1 b25 [.int .i64 v5.1.Generation, v8, v12,
          v16] 29] ++ (c9 ++ (c13 ++ (c17 ++ ([])))))))⟩ (by simp only [put_at, put_no, ev_t, ev_c, reduceIte, Nat.reduceEqDiff, List.map_cons,
          List.map_nil]) (by simp only [put_at, put_no, ev_t, ev_c, reduceIte, Nat.reduceEqDiff, List.map_cons,
          List.map_nil]) (fun _ _ _ h => h) rfl rfl (fun _ _ _ _ h => h) (fun _ _ _ _ h => h) (fun _ _ _ _ h => h) (by decide) ?_ ?_
      · rintro i80 x81 ⟨s62, s67⟩ fr94 h95 hx101 ⟨v64, c65, v69, c70, v73, c74, v77, c78, f97, f98, f99, f100, hv66, hv71, hv75, hv79,
          hS96⟩ f102 f103 oc83 hF86 hr87 Q88 hN89 hB93 hK90 hR91 hE92
        dsimp only at *
        unfold spec_PlayReaders_b1 at hF86
        simp only [x9_7, run_seq, run_reg, f100, f102, run_ia, put_at, put_no, ev_t, ev_c, reduceIte, Nat.reduceEqDiff, List.map_cons, List.map_nil]
        refine put1_eq (v := .ref (GroupStep.cells x81) 0) (xia_lstN hx101 rfl) ?_
        simp only [run_ld, put_at, put_no, ev_t, ev_c, reduceIte, Nat.reduceEqDiff, List.map_cons, List.map_nil]
        refine put1_eq (v := .agg [.int .i64 x81.Kind, .int .i64 x81.K, .int .i64 x81.Part, .int .i64 x81.N]) rfl ?_
        simp only [run_new, put_at, put_no, ev_t, ev_c, reduceIte, Nat.reduceEqDiff, List.map_cons, List.map_nil]
        refine put2_newC hS96 (fun b104 h105 hS106 => ?_)
        simp only [run_st, put_at, put_no, ev_t, ev_c, reduceIte, Nat.reduceEqDiff, List.map_cons, List.map_nil]
        refine put2_stCx (us := [.int .i64 x81.Kind, .int .i64 x81.K, .int .i64 x81.Part, .int .i64 x81.N]) rfl (cs' := [.int .i64 x81.Kind, .int .i64 x81.K, .int .i64 x81.Part,
            .int .i64 x81.N]) hS106 hW rfl rfl (Nat.le_of_ble_eq_true rfl) rfl (fun h108 hS109 => ?_)
        simp only [put_no, run_ops_nil, put_at, ev_t, ev_c, reduceIte, Nat.reduceEqDiff, List.map_cons, List.map_nil]
        refine frz_stepC hS109 hW (by simp only [put_at, put_no, ev_t, ev_c, reduceIte, Nat.reduceEqDiff, List.map_cons, List.map_nil]) (fun h110 hS111 => ?_)
        simp only [run_frz_nil, x9_6, run_seq, run_draw, d1_new, put_at, put_no, ev_t, ev_c, reduceIte, Nat.reduceEqDiff, List.map_cons, List.map_nil]
        refine put2d_newC hS111 (fun b112 h113 hS114 => ?_)
        simp only [f98, d4_ld, put_at, put_no, ev_t, ev_c, reduceIte, Nat.reduceEqDiff, List.map_cons, List.map_nil]
        refine put1d_eq (v := .agg [.int .i64 s67.Generation, v69, v73, v77]) ((xld_bs (Sep.bk _ _ _ (Sep.m2 hS114))).trans rfl) ?_
        obtain ⟨v116, hx117, hF118⟩ := bind_some' hF86
        simp only [run_d2_call, put_at, put_no, ev_t, ev_c, reduceIte, Nat.reduceEqDiff, List.map_cons, List.map_nil]
        refine call2q rfl hS114 (mapM1 (snap_agg (mapM1 snap_int (mapM1 (SlN.snap hv71 _ (Sep.m4 hS114) rfl Reader.RO) (mapM1 (SlF.snap hv75 (Sep.m5 hS114) rfl (fun _ => rfl)
            (fun _ => rfl)) (mapM1 (SlF.snap hv79 (Sep.m6 hS114) rfl (fun _ => rfl) (fun _ => rfl)) mapM0))))) mapM0) (spec_l14Own_x
            (fun b hb => decide_eq_true hb) s67 v116 hx117) ?_
        rintro _ h131 ⟨v119, c120, v123, c124, v127, c128, rfl, hv121, hv125, hv129, hS132⟩
        refine ⟨_, free_a (all_c rfl (all_c (SlN.free1 hv121) (all_c (SlF.free1 hv125) (all_c (SlF.free1 hv129) all_n)))), hS132,
            (pf_app (SlN.pf hv121 Reader.RO) (pf_app (SlF.pf hv125 (fun _ => rfl)) (pf_app (SlF.pf hv129 (fun _ => rfl)) pf_nil))), fun h133 hS134 => ?_⟩
        have hS135 : Sep h133 h.length (c120 ++ (c124 ++ (c128 ++ ([Blk1 b112 [.int .i64 0, .nil, .nil, .nil] 29] ++ ([Blk1 b1 [.int .i64 0, .nil, .nil,
            .nil] 29] ++ ([Blk1 b25 [.int .i64 s67.Generation, v69, v73, v77] 29] ++ (c65 ++ (c70 ++ (c74 ++ (c78 ++ ([]))))))))))) := by simpa only [List.append_assoc,
            List.nil_append] using hS134
        simp only [d1_ld, ldd_ref, put_at, put_no, ev_t, ev_c, reduceIte, Nat.reduceEqDiff, List.map_cons, List.map_nil]
        refine put1d_eq (v := .agg [.int .i64 x81.Kind, .int .i64 x81.K, .int .i64 x81.Part, .int .i64 x81.N]) rfl ?_
        obtain ⟨v136, hx137, hF138⟩ := bind_some' hF118
        simp only [run_d3_call, put_at, put_no, ev_t, ev_c, reduceIte, Nat.reduceEqDiff, List.map_cons, List.map_nil]
        refine call0d rfl (spec_l14Step_x hW v116 v119 c120 hv121 v123 c124 hv125 v127 c128 hv129 x81 v136 hx137 (Sep.m2 (Sep.m2 (Sep.m2 hS135)))) ?_
        rintro _ h151 ⟨v139, c140, v143, c144, v147, c148, rfl, hv141, hv145, hv149, hS152⟩
        simp only [d4_mv, put1d_some, d4_ext, xext_0, d1_ext, xext_1, d3_st, put_at, put_no, ev_t, ev_c, reduceIte, Nat.reduceEqDiff, List.map_cons, List.map_nil]
        refine put2d_stCx (us := [.int .i64 v136.1.Generation, v139, v143, v147]) rfl (cs' := [.int .i64 v136.1.Generation, v139, v143,
            v147]) (Sep.m3 hS152) hW rfl (all_c rfl (all_c (SlN.one hv141) (all_c (SlF.one hv145) (all_c (SlF.one hv149) all_n)))) (Nat.le_of_ble_eq_true rfl) rfl
            (fun h153 hS154 => ?_)
        simp only [put_no, d4_mv, put1d_some, run_draw_nil, put_at, ev_t, ev_c, reduceIte, Nat.reduceEqDiff, List.map_cons, List.map_nil]
        refine frz_stepC hS154 hW (by simp only [put_at, put_no, ev_t, ev_c, reduceIte, Nat.reduceEqDiff, List.map_cons, List.map_nil]) (fun h155 hS156 => ?_)
        simp only [run_frz_nil, x9_5, run_seq, run_reg, run_mv, run_ops_nil, x9_3, run_cond, put_at, put_no, ev_t, ev_c, reduceIte, Nat.reduceEqDiff, List.map_cons, List.map_nil]
        obtain ⟨s157, hX171, hk172⟩ := bind_some' hF138
        refine cond_j (t := v136.2) (fun fr' h' => ∃ v159 c160 v163 c164 v167 c168,
            fr' 6 = .ptr b1 0 ∧ fr' 9 = .ptr b25 0 ∧ fr' 11 = v64 ∧ fr' 15 = .bool v136.2 ∧ fr' 30 = lst GroupStep.cells l_2 ∧ fr' 31 = .int .i64
            (List.length l_2 : Int) ∧ fr' 32 = .int .i64
            (i80 : Int) ∧ SlN Reader.R 4 37 v159 s157.Readers c160 ∧ SlF cI 1 3 v163 s157.Committed c164 ∧ SlF cI 1 3 v167 s157.Ends c168 ∧ Sep h' h.length ([Blk1 b1 [.int .i64 0,
            .nil, .nil, .nil] 29] ++ ([Blk1 b25 [.int .i64 s157.Generation, v159, v163,
            v167] 29] ++ (c65 ++ (c160 ++ (c164 ++ (c168 ++ ([])))))))) (fun Q173 hN174 hR175 hE176 => ⟨fun hc177 => ?_, fun hc177 => ?_⟩) ?_
        · rw [iteT hc177] at hX171
          simp only [run_reg, run_ld, put_at, put_no, ev_t, ev_c, reduceIte, Nat.reduceEqDiff, List.map_cons, List.map_nil]
          refine put1_eq (v := .agg [.int .i64 v136.1.Generation, v139, v143, v147]) rfl ?_
          simp only [f98, run_st, put_at, put_no, ev_t, ev_c, reduceIte, Nat.reduceEqDiff, List.map_cons, List.map_nil]
          refine put2_stCx (us := [.int .i64 v136.1.Generation, v139, v143, v147]) rfl (cs' := [.int .i64 v136.1.Generation, v139, v143,
              v147]) (Sep.m4 hS156) hW rfl (all_c rfl (all_c (SlN.one hv141) (all_c (SlF.one hv145) (all_c (SlF.one hv149) all_n)))) (Nat.le_of_ble_eq_true rfl) rfl
              (fun h178 hS179 => ?_)
          simp only [put_no, run_ops_nil, run_nil, put_at, ev_t, ev_c, reduceIte, Nat.reduceEqDiff, List.map_cons, List.map_nil]
          have e180 := some_inj hX171
          subst e180
          exact hN174 _ _ ⟨v139, c140, v143, c144, v147, c148, by simp only [f97, put_at, put_no, ev_t, ev_c, reduceIte, Nat.reduceEqDiff, List.map_cons, List.map_nil],
              by simp only [f98, put_at, put_no, ev_t, ev_c, reduceIte, Nat.reduceEqDiff, List.map_cons, List.map_nil], by simp only [f99, put_at, put_no, ev_t, ev_c, reduceIte,
              Nat.reduceEqDiff, List.map_cons, List.map_nil], by simp only [put_at, put_no, ev_t, ev_c, reduceIte, Nat.reduceEqDiff, List.map_cons, List.map_nil],
              by simp only [f100, put_at, put_no, ev_t, ev_c, reduceIte, Nat.reduceEqDiff, List.map_cons, List.map_nil], by simp only [f103, put_at, put_no, ev_t, ev_c, reduceIte,
              Nat.reduceEqDiff, List.map_cons, List.map_nil], by simp only [f102, put_at, put_no, ev_t, ev_c, reduceIte, Nat.reduceEqDiff, List.map_cons, List.map_nil], hv141,
              hv145, hv149, (Sep.m5 (Sep.m4 (Sep.m5 (Sep.m3 (Sep.m3 (Sep.m3 (Sep.dc (Sep.m6 (Sep.dc (Sep.m6 (Sep.dc (Sep.m6 hS179))))))))))))⟩
        · rw [iteF hc177] at hX171
          simp only [run_skip, run_nil, put_at, put_no, ev_t, ev_c, reduceIte, Nat.reduceEqDiff, List.map_cons, List.map_nil]
          have e181 := some_inj hX171
          subst e181
          exact hN174 _ _ ⟨v69, c70, v73, c74, v77, c78, by simp only [f97, put_at, put_no, ev_t, ev_c, reduceIte, Nat.reduceEqDiff, List.map_cons, List.map_nil],
              by simp only [f98, put_at, put_no, ev_t, ev_c, reduceIte, Nat.reduceEqDiff, List.map_cons, List.map_nil], by simp only [f99, put_at, put_no, ev_t, ev_c, reduceIte,
              Nat.reduceEqDiff, List.map_cons, List.map_nil], by simp only [put_at, put_no, ev_t, ev_c, reduceIte, Nat.reduceEqDiff, List.map_cons, List.map_nil],
              by simp only [f100, put_at, put_no, ev_t, ev_c, reduceIte, Nat.reduceEqDiff, List.map_cons, List.map_nil], by simp only [f103, put_at, put_no, ev_t, ev_c, reduceIte,
              Nat.reduceEqDiff, List.map_cons, List.map_nil], by simp only [f102, put_at, put_no, ev_t, ev_c, reduceIte, Nat.reduceEqDiff, List.map_cons, List.map_nil], hv71,
              hv75, hv79, (Sep.m5 (Sep.m5 (Sep.m5 (Sep.m5 (Sep.m5 (Sep.m5 (Sep.dc ((Sep.dc ((Sep.dc (hS156))))))))))))⟩
        · rintro fr182 h183 ⟨v159, c160, v163, c164, v167, c168, f185, f186, f187, f188, f189, f190, f191, hv161, hv165, hv169, hS184⟩
          unfold spec_PlayReaders_j1 at hk172
          simp only [x9_4, run_reg, f187, run_mv, f188, run_buildS, evp, put_at, put_no, ev_t, ev_c, reduceIte, Nat.reduceEqDiff, List.map_cons, List.map_nil]
          refine put2_buildSF (n := 1) (f := cB) [v136.2] hS184 rfl rfl (fun v192 c193 h194 hv195 hS196 => ?_)
          simp only [run_app, put_at, put_no, ev_t, ev_c, reduceIte, Nat.reduceEqDiff, List.map_cons, List.map_nil]
          obtain ⟨l198, hx199, hF200⟩ := bind_some' hk172
          refine put2_appF (f := cB) hv66 (Sep.m3 hS196) hW (fun _ => rfl) (fun _ => rfl) (SlF.first hv195 hS196 (fun _ => rfl)) hx199 (fun v201 c202 h203 hv204 hS205 => ?_)
          simp only [run_mv, run_ops_nil, run_nil, put_at, put_no, ev_t, ev_c, reduceIte, Nat.reduceEqDiff, List.map_cons, List.map_nil]
          have e207 := some_inj hF200
          exact hN89 _ _ _ e207.symm ⟨v201, c202, v159, c160, v163, c164, v167, c168, by simp only [f185, put_at, put_no, ev_t, ev_c, reduceIte, Nat.reduceEqDiff, List.map_cons,
              List.map_nil], by simp only [f186, put_at, put_no, ev_t, ev_c, reduceIte, Nat.reduceEqDiff, List.map_cons, List.map_nil], by simp only [put_at, put_no, ev_t, ev_c,
              reduceIte, Nat.reduceEqDiff, List.map_cons, List.map_nil], by simp only [f189, put_at, put_no, ev_t, ev_c, reduceIte, Nat.reduceEqDiff, List.map_cons, List.map_nil],
              hv204, hv161, hv165, hv169, (Sep.m5 (Sep.m5 (Sep.m3 (Sep.m5 (Sep.m5 (Sep.m5 (Sep.dc (Sep.m1 hS205))))))))⟩ (by simp only [f191, put_at, put_no, ev_t, ev_c,
              reduceIte, Nat.reduceEqDiff, List.map_cons, List.map_nil]) (by simp only [f190, put_at, put_no, ev_t, ev_c, reduceIte, Nat.reduceEqDiff, List.map_cons, List.map_nil])
      · rintro ⟨s210, s215⟩ fr228 h229 rfl ⟨v212, c213, v217, c218, v221, c222, v225, c226, f231, f232, f233, f234, hv214, hv219, hv223, hv227, hS230⟩
        dsimp only [jnO] at hk85
        dsimp only at *
        unfold spec_PlayReaders_j2 at hk85
        simp only [x9_10, run_seq, run_reg, f232, run_ld, put_at, put_no, ev_t, ev_c, reduceIte, Nat.reduceEqDiff, List.map_cons, List.map_nil]
        refine put1_eq (v := .agg [.int .i64 s215.Generation, v217, v221, v225]) ((xld_bs (Sep.bk _ _ _ (Sep.m1 hS230))).trans rfl) ?_
        obtain ⟨v235, hx236, hF237⟩ := bind_some' hk85
        simp only [run_call, put_at, put_no, ev_t, ev_c, reduceIte, Nat.reduceEqDiff, List.map_cons, List.map_nil]
        refine call2 rfl hS230 (mapM1 (snap_agg (mapM1 snap_int (mapM1 (SlN.snap hv219 _ (Sep.m3 hS230) rfl Reader.RO) (mapM1 (SlF.snap hv223 (Sep.m4 hS230) rfl (fun _ => rfl)
            (fun _ => rfl)) (mapM1 (SlF.snap hv227 (Sep.m5 hS230) rfl (fun _ => rfl) (fun _ => rfl)) mapM0))))) mapM0) (spec_l14Own_x
            (fun b hb => decide_eq_true hb) s215 v235 hx236) ?_
        rintro _ h250 ⟨v238, c239, v242, c243, v246, c247, rfl, hv240, hv244, hv248, hS251⟩
        refine ⟨_, free_a (all_c rfl (all_c (SlN.free1 hv240) (all_c (SlF.free1 hv244) (all_c (SlF.free1 hv248) all_n)))), hS251,
            (pf_app (SlN.pf hv240 Reader.RO) (pf_app (SlF.pf hv244 (fun _ => rfl)) (pf_app (SlF.pf hv248 (fun _ => rfl)) pf_nil))), fun h252 hS253 => ?_⟩
        have hS254 : Sep h252 h.length (c239 ++ (c243 ++ (c247 ++ ([Blk1 b1 [.int .i64 0, .nil, .nil, .nil] 29] ++ ([Blk1 b25 [.int .i64 s215.Generation, v217, v221,
            v225] 29] ++ (c213 ++ (c218 ++ (c222 ++ (c226 ++ ([])))))))))) := by simpa only [List.append_assoc, List.nil_append] using hS253
        simp only [f233, run_mv, f231, run_st, put_at, put_no, ev_t, ev_c, reduceIte, Nat.reduceEqDiff, List.map_cons, List.map_nil]
        refine put2_stCx (us := [.int .i64 v235.Generation, v238, v242, v246]) rfl (cs' := [.int .i64 v235.Generation, v238, v242,
            v246]) (Sep.m3 hS254) hW rfl (all_c rfl (all_c (SlN.one hv240) (all_c (SlF.one hv244) (all_c (SlF.one hv248) all_n)))) (Nat.le_of_ble_eq_true rfl) rfl
            (fun h255 hS256 => ?_)
        simp only [put_no, run_mv, run_ops_nil, run_ret, put_at, ev_t, ev_c, reduceIte, Nat.reduceEqDiff, List.map_cons, List.map_nil]
        have he := some_inj hF237
        subst he
        refine end_ret_m (mapM1 (res_cell (bb := b1) (oo := 0) (v := .agg [.int .i64 v235.Generation, v238, v242, v246]) (by simp only [f231, put_at, put_no, ev_t, ev_c,
            reduceIte, Nat.reduceEqDiff, List.map_cons, List.map_nil]) ((xld_bs (Sep.bk _ _ _ hS256)).trans rfl)) (mapM1 (res_t (v := v212) (by simp only [put_at, put_no, ev_t,
            ev_c, reduceIte, Nat.reduceEqDiff, List.map_cons, List.map_nil])) (mapM1 (res_t (v := .bool true) (by simp only [put_at, put_no, ev_t, ev_c, reduceIte,
            Nat.reduceEqDiff, List.map_cons, List.map_nil])) mapM0))) ?_
        exact ⟨v238, c239, v242, c243, v246, c247, v212, c213, by first | trivial | rfl, hv240, hv244, hv248, hv214,
            (Sep.m3 (Sep.m3 (Sep.m3 (Sep.m3 (Sep.dc (Sep.m4 (Sep.dc (Sep.m4 (Sep.dc (Sep.m4 (Sep.dc (Sep.m3 (Sep.dc (hS256))))))))))))))⟩
theorem laws_szGroupStepS_x {W : Nat → Bool} {h : Heap} (hW : ∀ b,
    h.length ≤ b → W b = true) (a_0 : List GroupStep) (left_1 : Int) (r : Int) (hF : laws_szGroupStepS a_0 left_1 = some r) : Ret E W 17 [lst GroupStep.cells a_0,
    .int .i64 left_1] h (fun v h' => cut h.length h' E.sz false 9 v = some (.int .i64 r)) := by
  refine Ret.of (fn := x17) rfl (Run.of ?_)
  unfold laws_szGroupStepS at hF
  have zf0 : argFr [lst GroupStep.cells a_0, .int .i64 left_1] 0 = lst GroupStep.cells a_0 := rfl
  have zf1 : argFr [lst GroupStep.cells a_0, .int .i64 left_1] 1 = .int .i64 left_1 := rfl
  generalize argFr [lst GroupStep.cells a_0, .int .i64 left_1] = fr0 at zf0 zf1 ⊢
  have hS : Sep h h.length [] := Sep.nil h
  simp only [x17, run_seq, run_reg, run_mv, run_ops_nil, x17_2, zf1, zf0, run_len, put1_some, xlen_lst, run_bin, xsub, x17_1, xlss, run_cond, put_at, put_no, ev_t, ev_c,
      reduceIte, Nat.reduceEqDiff, List.map_cons, List.map_nil]
  refine cond_split (t := (decide ((IntKind.wrap .i64 (left_1 - (List.length a_0 : Int))) < 0))) (fun hc1 => ?_) (fun hc1 => ?_)
  · rw [iteT hc1] at hF
    simp only [run_seq, run_reg, run_mv, run_ops_nil, run_ret, put_at, put_no, ev_t, ev_c, reduceIte, Nat.reduceEqDiff, List.map_cons, List.map_nil]
    have he := some_inj hF
    subst he
    simp only [end_ret1, put_at, put_no, ev_t, ev_c, reduceIte, Nat.reduceEqDiff, List.map_cons, List.map_nil]
    exact rfl
  · rw [iteF hc1] at hF
    simp only [run_skip, run_seq, run_reg, run_mv, run_ops_nil, run_ret, put_at, put_no, ev_t, ev_c, reduceIte, Nat.reduceEqDiff, List.map_cons, List.map_nil]
    have he := some_inj hF
    subst he
    simp only [end_ret1, put_at, put_no, ev_t, ev_c, reduceIte, Nat.reduceEqDiff, List.map_cons, List.map_nil]
    exact rfl
theorem laws_toIntS_x {W : Nat → Bool} {h : Heap} (hW : ∀ b,
    h.length ≤ b → W b = true) (k : Nat) (a_0 : List Int) (r : List Int) (hF : laws_toIntS k a_0 = some r) : Ret E W 18 [lst cI a_0] h (fun v h' => ∃ rv0 rc0,
    v = rv0 ∧ SlF cI 1 3 rv0 r rc0 ∧ Sep h' h.length (rc0 ++ ([]))) := by
  refine Ret.of (fn := x18) rfl (Run.of ?_)
  unfold laws_toIntS at hF
  have zf0 : argFr [lst cI a_0] 0 = lst cI a_0 := rfl
  generalize argFr [lst cI a_0] = fr0 at zf0 ⊢
  have hS : Sep h h.length [] := Sep.nil h
  obtain ⟨l1, hx2, hF3⟩ := bind_some' hF
  simp only [x18, run_seq, run_reg, run_mv, run_ops_nil, x18_7, zf0, run_len, put1_some, xlen_lst, run_mkS, put_at, put_no, ev_t, ev_c, reduceIte, Nat.reduceEqDiff, List.map_cons,
      List.map_nil]
  refine put2_mkSF (f := cI) (z := (0 : Int)) hS hx2 rfl (fun v4 c5 h6 hv7 hS8 => ?_)
  simp only [run_mv, run_ops_nil, x18_6, run_seq, run_reg, put_at, put_no, ev_t, ev_c, reduceIte, Nat.reduceEqDiff, List.map_cons, List.map_nil]
  obtain ⟨oc20, hX22, hk23⟩ := jn_some hF3
  simp only [x18_5]
  refine loopF_j (σ := Int × (List Int)) (fun s55 => laws_toIntS_b1 a_0 s55.1 s55.2) (fun s fr' h' => ∃ c16,
      fr' 0 = lst cI a_0 ∧ fr' 3 = v4 ∧ fr' 4 = .int .i64 s.1 ∧ SlF cI 1 3 v4 s.2 c16 ∧ Sep h' h.length (c16 ++ ([]))) hX22 ⟨c5, by simp only [zf0, put_at, put_no, ev_t, ev_c,
      reduceIte, Nat.reduceEqDiff, List.map_cons, List.map_nil], by simp only [put_at, put_no, ev_t, ev_c, reduceIte, Nat.reduceEqDiff, List.map_cons, List.map_nil],
      by simp only [put_at, put_no, ev_t, ev_c, reduceIte, Nat.reduceEqDiff, List.map_cons, List.map_nil], hv7, hS8⟩ (fun _ _ _ h => h) ?_ ?_
  · rintro ⟨s14, s15⟩ fr32 h33 ⟨c16, f35, f36, f37, hv17, hS34⟩ oc21 hF24 hr25 Q26 hN27 hK28 hR29 hE30
    dsimp only at *
    unfold laws_toIntS_b1 at hF24
    simp only [x18_3, run_seq, run_reg, f37, run_mv, f35, run_len, put1_some, xlen_lst, run_bin, xlss, run_ops_nil, run_cond, put_at, put_no, ev_t, ev_c, reduceIte,
        Nat.reduceEqDiff, List.map_cons, List.map_nil]
    refine cond_split (t := (decide (s14 < (List.length a_0 : Int)))) (fun hc39 => ?_) (fun hc39 => ?_)
    · rw [iteT hc39] at hF24
      obtain ⟨x40, hx41, hF42⟩ := bind_some' hF24
      simp only [run_skip, x18_2, run_seq, run_block, x18_1, run_reg, f36, run_mv, f37, f35, run_ia, put_at, put_no, ev_t, ev_c, reduceIte, Nat.reduceEqDiff, List.map_cons,
          List.map_nil]
      refine put1_eq (v := .ref (cI x40) 0) (xia_lst hx41 rfl) ?_
      simp only [run_ld, put_at, put_no, ev_t, ev_c, reduceIte, Nat.reduceEqDiff, List.map_cons, List.map_nil]
      refine put1_eq (v := .int .i64 x40) rfl ?_
      obtain ⟨x43, hx44, hF45⟩ := bind_some' hF42
      simp only [run_ia, put_at, put_no, ev_t, ev_c, reduceIte, Nat.reduceEqDiff, List.map_cons, List.map_nil]
      obtain ⟨b46, hb47⟩ := SlF.isrow hv17 (geti_ne hx44)
      refine put1_eq (SlF.ia hv17 hb47 hx44) ?_
      simp only [run_st, put_at, put_no, ev_t, ev_c, reduceIte, Nat.reduceEqDiff, List.map_cons, List.map_nil]
      refine put2_stF (f := cI) (x' := x40) (o := 0) hv17 hS34 hW hb47 hx44 (fun _ => rfl) rfl rfl (Nat.le_of_ble_eq_true rfl) rfl (fun c50 h48 hv51 hS49 => ?_)
      have hx52 := geti_set (x' := x40) hx44
      simp only [put_no, run_ops_nil, run_blk, run_reg, f37, run_mv, run_bin, put1_some, xadd, run_nil, put_at, ev_t, ev_c, reduceIte, Nat.reduceEqDiff, List.map_cons,
          List.map_nil]
      have e53 := some_inj hF45
      exact hN27 _ _ _ e53.symm ⟨c50, by simp only [f35, put_at, put_no, ev_t, ev_c, reduceIte, Nat.reduceEqDiff, List.map_cons, List.map_nil], by simp only [f36, put_at, put_no,
          ev_t, ev_c, reduceIte, Nat.reduceEqDiff, List.map_cons, List.map_nil], by simp only [put_at, put_no, ev_t, ev_c, reduceIte, Nat.reduceEqDiff, List.map_cons,
          List.map_nil], hv51, hS49⟩
    · rw [iteF hc39] at hF24
      simp only [run_exit, out_code, out_nil, put_at, put_no, ev_t, ev_c, reduceIte, Nat.reduceEqDiff, List.map_cons, List.map_nil]
      have e54 := some_inj hF24
      exact hK28 _ _ _ e54.symm ⟨c16, by simp only [f35, put_at, put_no, ev_t, ev_c, reduceIte, Nat.reduceEqDiff, List.map_cons, List.map_nil], by simp only [f36, put_at, put_no,
          ev_t, ev_c, reduceIte, Nat.reduceEqDiff, List.map_cons, List.map_nil], by simp only [f37, put_at, put_no, ev_t, ev_c, reduceIte, Nat.reduceEqDiff, List.map_cons,
          List.map_nil], hv17, hS34⟩
  · rintro ⟨s56, s57⟩ fr60 h61 rfl ⟨c58, f63, f64, f65, hv59, hS62⟩
    dsimp only [jnO] at hk23
    dsimp only at *
    unfold laws_toIntS_j1 at hk23
    simp only [run_seq, run_reg, f64, run_mv, run_ops_nil, run_ret, put_at, put_no, ev_t, ev_c, reduceIte, Nat.reduceEqDiff, List.map_cons, List.map_nil]
    have he := some_inj hk23
    subst he
    simp only [end_ret1, put_at, put_no, ev_t, ev_c, reduceIte, Nat.reduceEqDiff, List.map_cons, List.map_nil]
    exact ⟨v4, c58, by first | trivial | rfl, hv59, hS62⟩
theorem laws_toGroupStep_x {W : Nat → Bool} {h : Heap} (hW : ∀ b,
    h.length ≤ b → W b = true) (a_0 : GroupStep) (r : GroupStep) (hF : some (laws_toGroupStep a_0) = some r) : Ret E W 33 [.agg [.int .i64 a_0.Kind, .int .i64 a_0.K,
    .int .i64 a_0.Part, .int .i64 a_0.N]] h (fun v h' => cut h.length h' E.sz false 9 v = some (.agg [.int .i64 r.Kind, .int .i64 r.K, .int .i64 r.Part, .int .i64 r.N])) := by
  refine Ret.of (fn := x33) rfl (Run.of ?_)
  unfold laws_toGroupStep at hF
  have zf0 : argFr [.agg [.int .i64 a_0.Kind, .int .i64 a_0.K, .int .i64 a_0.Part, .int .i64 a_0.N]] 0 = .agg [.int .i64 a_0.Kind, .int .i64 a_0.K, .int .i64 a_0.Part,
      .int .i64 a_0.N] := rfl
  generalize argFr [.agg [.int .i64 a_0.Kind, .int .i64 a_0.K, .int .i64 a_0.Part, .int .i64 a_0.N]] = fr0 at zf0 ⊢
  have hS : Sep h h.length [] := Sep.nil h
  simp only [x33, run_seq, run_reg, run_box, zf0, put_at, put_no, ev_t, ev_c, reduceIte, Nat.reduceEqDiff, List.map_cons, List.map_nil]
  refine put2_boxC (cs := [.int .i64 a_0.Kind, .int .i64 a_0.K, .int .i64 a_0.Part, .int .i64 a_0.N]) hS rfl rfl rfl (fun b1 h2 hS3 => ?_)
  simp only [run_new, put_at, put_no, ev_t, ev_c, reduceIte, Nat.reduceEqDiff, List.map_cons, List.map_nil]
  refine put2_newC hS3 (fun b5 h6 hS7 => ?_)
  simp only [run_ops_nil, put_at, put_no, ev_t, ev_c, reduceIte, Nat.reduceEqDiff, List.map_cons, List.map_nil]
  refine frz_stepC (Sep.m1 hS7) hW (by simp only [put_at, put_no, ev_t, ev_c, reduceIte, Nat.reduceEqDiff, List.map_cons, List.map_nil]) (fun h9 hS10 => ?_)
  simp only [run_frz_nil, x33_5, run_seq, run_reg, run_new, put_at, put_no, ev_t, ev_c, reduceIte, Nat.reduceEqDiff, List.map_cons, List.map_nil]
  refine put2_newC hS10 (fun b11 h12 hS13 => ?_)
  simp only [run_ops_nil, x33_4, run_seq, run_reg, run_fa, put1_some, Nat.reduceAdd, Nat.zero_add, Nat.add_zero, xfa_ref, run_ld, put_at, put_no, ev_t, ev_c, reduceIte,
      Nat.reduceEqDiff, List.map_cons, List.map_nil]
  refine put1_eq (v := .int .i64 a_0.Kind) rfl ?_
  simp only [run_fa, put1_some, Nat.reduceAdd, Nat.zero_add, Nat.add_zero, xfa_ptr, run_st, put_at, put_no, ev_t, ev_c, reduceIte, Nat.reduceEqDiff, List.map_cons, List.map_nil]
  refine put2_stCx (us := [.int .i64 a_0.Kind]) rfl (cs' := [.int .i64 a_0.Kind, .int .i64 0, .int .i64 0,
      .int .i64 0]) hS13 hW rfl rfl (Nat.le_of_ble_eq_true rfl) rfl (fun h15 hS16 => ?_)
  simp only [put_no, run_ops_nil, x33_3, run_seq, run_reg, run_fa, put1_some, Nat.reduceAdd, Nat.zero_add, Nat.add_zero, xfa_ref, run_ld, put_at, ev_t, ev_c, reduceIte,
      Nat.reduceEqDiff, List.map_cons, List.map_nil]
  refine put1_eq (v := .int .i64 a_0.K) rfl ?_
  simp only [run_fa, put1_some, Nat.reduceAdd, Nat.zero_add, Nat.add_zero, xfa_ptr, run_st, put_at, put_no, ev_t, ev_c, reduceIte, Nat.reduceEqDiff, List.map_cons, List.map_nil]
  refine put2_stCx (us := [.int .i64 a_0.K]) rfl (cs' := [.int .i64 a_0.Kind, .int .i64 a_0.K, .int .i64 0,
      .int .i64 0]) hS16 hW rfl rfl (Nat.le_of_ble_eq_true rfl) rfl (fun h17 hS18 => ?_)
  simp only [put_no, run_ops_nil, x33_2, run_seq, run_reg, run_fa, put1_some, Nat.reduceAdd, Nat.zero_add, Nat.add_zero, xfa_ref, run_ld, put_at, ev_t, ev_c, reduceIte,
      Nat.reduceEqDiff, List.map_cons, List.map_nil]
  refine put1_eq (v := .int .i64 a_0.Part) rfl ?_
  simp only [run_fa, put1_some, Nat.reduceAdd, Nat.zero_add, Nat.add_zero, xfa_ptr, run_st, put_at, put_no, ev_t, ev_c, reduceIte, Nat.reduceEqDiff, List.map_cons, List.map_nil]
  refine put2_stCx (us := [.int .i64 a_0.Part]) rfl (cs' := [.int .i64 a_0.Kind, .int .i64 a_0.K, .int .i64 a_0.Part,
      .int .i64 0]) hS18 hW rfl rfl (Nat.le_of_ble_eq_true rfl) rfl (fun h19 hS20 => ?_)
  simp only [put_no, run_ops_nil, x33_1, run_seq, run_reg, run_fa, put1_some, Nat.reduceAdd, Nat.zero_add, Nat.add_zero, xfa_ref, run_ld, put_at, ev_t, ev_c, reduceIte,
      Nat.reduceEqDiff, List.map_cons, List.map_nil]
  refine put1_eq (v := .int .i64 a_0.N) rfl ?_
  simp only [run_fa, put1_some, Nat.reduceAdd, Nat.zero_add, Nat.add_zero, xfa_ptr, run_st, put_at, put_no, ev_t, ev_c, reduceIte, Nat.reduceEqDiff, List.map_cons, List.map_nil]
  refine put2_stCx (us := [.int .i64 a_0.N]) rfl (cs' := [.int .i64 a_0.Kind, .int .i64 a_0.K, .int .i64 a_0.Part,
      .int .i64 a_0.N]) hS20 hW rfl rfl (Nat.le_of_ble_eq_true rfl) rfl (fun h21 hS22 => ?_)
  simp only [put_no, run_ops_nil, run_seq, run_reg, run_ld, put_at, ev_t, ev_c, reduceIte, Nat.reduceEqDiff, List.map_cons, List.map_nil]
  refine put1_eq (v := .agg [.int .i64 a_0.Kind, .int .i64 a_0.K, .int .i64 a_0.Part, .int .i64 a_0.N]) ((xld_bs (Sep.bk _ _ _ hS22)).trans rfl) ?_
  simp only [run_st, put_at, put_no, ev_t, ev_c, reduceIte, Nat.reduceEqDiff, List.map_cons, List.map_nil]
  refine put2_stCx (us := [.int .i64 a_0.Kind, .int .i64 a_0.K, .int .i64 a_0.Part, .int .i64 a_0.N]) rfl (cs' := [.int .i64 a_0.Kind, .int .i64 a_0.K, .int .i64 a_0.Part,
      .int .i64 a_0.N]) (Sep.m1 hS22) hW rfl rfl (Nat.le_of_ble_eq_true rfl) rfl (fun h23 hS24 => ?_)
  simp only [put_no, run_ops_nil, run_ret, put_at, ev_t, ev_c, reduceIte, Nat.reduceEqDiff, List.map_cons, List.map_nil]
  have he := some_inj hF
  subst he
  refine end_ret_cell (bb := b5) (oo := 0) (v := .agg [.int .i64 a_0.Kind, .int .i64 a_0.K, .int .i64 a_0.Part, .int .i64 a_0.N]) (by simp only [put_at, put_no, ev_t, ev_c,
      reduceIte, Nat.reduceEqDiff, List.map_cons, List.map_nil]) ((xld_bs (Sep.bk _ _ _ hS24)).trans rfl) ?_
  exact (cut_agg (mapM1 rfl (mapM1 rfl (mapM1 rfl (mapM1 rfl mapM0)))))
theorem laws_toGroupStepS_x {W : Nat → Bool} {h : Heap} (hW : ∀ b,
    h.length ≤ b → W b = true) (k : Nat) (a_0 : List GroupStep) (r : List GroupStep) (hF : laws_toGroupStepS k a_0 = some r) : Ret E W 19 [lst GroupStep.cells a_0] h
    (fun v h' => ∃ rv0 rc0, v = rv0 ∧ SlF GroupStep.cells 4 64 rv0 r rc0 ∧ Sep h' h.length (rc0 ++ ([]))) := by
  refine Ret.of (fn := x19) rfl (Run.of ?_)
  unfold laws_toGroupStepS at hF
  have zf0 : argFr [lst GroupStep.cells a_0] 0 = lst GroupStep.cells a_0 := rfl
  generalize argFr [lst GroupStep.cells a_0] = fr0 at zf0 ⊢
  have hS : Sep h h.length [] := Sep.nil h
  obtain ⟨l1, hx2, hF3⟩ := bind_some' hF
  simp only [x19, run_seq, run_reg, run_mv, run_ops_nil, x19_7, zf0, run_len, put1_some, xlen_lst, run_mkS, put_at, put_no, ev_t, ev_c, reduceIte, Nat.reduceEqDiff, List.map_cons,
      List.map_nil]
  refine put2_mkSF (f := GroupStep.cells) (z := (GroupStep.mk (0 : Int) (0 : Int) (0 : Int) (0 : Int))) hS hx2 rfl (fun v4 c5 h6 hv7 hS8 => ?_)
  simp only [run_mv, run_ops_nil, x19_6, run_seq, run_reg, put_at, put_no, ev_t, ev_c, reduceIte, Nat.reduceEqDiff, List.map_cons, List.map_nil]
  obtain ⟨oc20, hX22, hk23⟩ := jn_some hF3
  simp only [x19_5]
  refine loopF_j (σ := Int × (List GroupStep)) (fun s55 => laws_toGroupStepS_b1 a_0 s55.1 s55.2) (fun s fr' h' => ∃ c16,
      fr' 0 = lst GroupStep.cells a_0 ∧ fr' 3 = v4 ∧ fr' 4 = .int .i64 s.1 ∧ SlF GroupStep.cells 4 64 v4 s.2 c16 ∧ Sep h' h.length (c16 ++ ([]))) hX22 ⟨c5, by simp only [zf0,
      put_at, put_no, ev_t, ev_c, reduceIte, Nat.reduceEqDiff, List.map_cons, List.map_nil], by simp only [put_at, put_no, ev_t, ev_c, reduceIte, Nat.reduceEqDiff, List.map_cons,
      List.map_nil], by simp only [put_at, put_no, ev_t, ev_c, reduceIte, Nat.reduceEqDiff, List.map_cons, List.map_nil], hv7, hS8⟩ (fun _ _ _ h => h) ?_ ?_
  · rintro ⟨s14, s15⟩ fr32 h33 ⟨c16, f35, f36, f37, hv17, hS34⟩ oc21 hF24 hr25 Q26 hN27 hK28 hR29 hE30
    dsimp only at *
    unfold laws_toGroupStepS_b1 at hF24
    simp only [x19_3, run_seq, run_reg, f37, run_mv, f35, run_len, put1_some, xlen_lst, run_bin, xlss, run_ops_nil, run_cond, put_at, put_no, ev_t, ev_c, reduceIte,
        Nat.reduceEqDiff, List.map_cons, List.map_nil]
    refine cond_split (t := (decide (s14 < (List.length a_0 : Int)))) (fun hc39 => ?_) (fun hc39 => ?_)
    · rw [iteT hc39] at hF24
      obtain ⟨x40, hx41, hF42⟩ := bind_some' hF24
      simp only [run_skip, x19_2, run_seq, run_block, x19_1, run_reg, f36, run_mv, f37, f35, run_ia, put_at, put_no, ev_t, ev_c, reduceIte, Nat.reduceEqDiff, List.map_cons,
          List.map_nil]
      refine put1_eq (v := .ref (GroupStep.cells x40) 0) (xia_lst hx41 rfl) ?_
      simp only [run_ld, put_at, put_no, ev_t, ev_c, reduceIte, Nat.reduceEqDiff, List.map_cons, List.map_nil]
      refine put1_eq (v := .agg [.int .i64 x40.Kind, .int .i64 x40.K, .int .i64 x40.Part, .int .i64 x40.N]) rfl ?_
      simp only [run_call, put_at, put_no, ev_t, ev_c, reduceIte, Nat.reduceEqDiff, List.map_cons, List.map_nil]
      refine call1 rfl (mapM1 (snap_agg (mapM1 snap_int (mapM1 snap_int (mapM1 snap_int (mapM1 snap_int mapM0))))) mapM0) (laws_toGroupStep_x
          (fun b hb => decide_eq_true hb) x40 _ rfl) ?_
      obtain ⟨x43, hx44, hF45⟩ := bind_some' hF42
      simp only [run_ia, put_at, put_no, ev_t, ev_c, reduceIte, Nat.reduceEqDiff, List.map_cons, List.map_nil]
      obtain ⟨b46, hb47⟩ := SlF.isrow hv17 (geti_ne hx44)
      refine put1_eq (SlF.ia hv17 hb47 hx44) ?_
      simp only [run_st, put_at, put_no, ev_t, ev_c, reduceIte, Nat.reduceEqDiff, List.map_cons, List.map_nil]
      refine put2_stF (f := GroupStep.cells) (x' := (laws_toGroupStep x40)) (o := 0) hv17 hS34 hW hb47 hx44 (fun _ => rfl) rfl rfl (Nat.le_of_ble_eq_true rfl) rfl
          (fun c50 h48 hv51 hS49 => ?_)
      have hx52 := geti_set (x' := (laws_toGroupStep x40)) hx44
      simp only [put_no, run_ops_nil, run_blk, run_reg, f37, run_mv, run_bin, put1_some, xadd, run_nil, put_at, ev_t, ev_c, reduceIte, Nat.reduceEqDiff, List.map_cons,
          List.map_nil]
      have e53 := some_inj hF45
      exact hN27 _ _ _ e53.symm ⟨c50, by simp only [f35, put_at, put_no, ev_t, ev_c, reduceIte, Nat.reduceEqDiff, List.map_cons, List.map_nil], by simp only [f36, put_at, put_no,
          ev_t, ev_c, reduceIte, Nat.reduceEqDiff, List.map_cons, List.map_nil], by simp only [put_at, put_no, ev_t, ev_c, reduceIte, Nat.reduceEqDiff, List.map_cons,
          List.map_nil], hv51, hS49⟩
    · rw [iteF hc39] at hF24
      simp only [run_exit, out_code, out_nil, put_at, put_no, ev_t, ev_c, reduceIte, Nat.reduceEqDiff, List.map_cons, List.map_nil]
      have e54 := some_inj hF24
      exact hK28 _ _ _ e54.symm ⟨c16, by simp only [f35, put_at, put_no, ev_t, ev_c, reduceIte, Nat.reduceEqDiff, List.map_cons, List.map_nil], by simp only [f36, put_at, put_no,
          ev_t, ev_c, reduceIte, Nat.reduceEqDiff, List.map_cons, List.map_nil], by simp only [f37, put_at, put_no, ev_t, ev_c, reduceIte, Nat.reduceEqDiff, List.map_cons,
          List.map_nil], hv17, hS34⟩
  · rintro ⟨s56, s57⟩ fr60 h61 rfl ⟨c58, f63, f64, f65, hv59, hS62⟩
    dsimp only [jnO] at hk23
    dsimp only at *
    unfold laws_toGroupStepS_j1 at hk23
    simp only [run_seq, run_reg, f64, run_mv, run_ops_nil, run_ret, put_at, put_no, ev_t, ev_c, reduceIte, Nat.reduceEqDiff, List.map_cons, List.map_nil]
    have he := some_inj hk23
    subst he
    simp only [end_ret1, put_at, put_no, ev_t, ev_c, reduceIte, Nat.reduceEqDiff, List.map_cons, List.map_nil]
    exact ⟨v4, c58, by first | trivial | rfl, hv59, hS62⟩
theorem laws_eqIntS_x {W : Nat → Bool} {h : Heap} (hW : ∀ b,
    h.length ≤ b → W b = true) (k : Nat) (a_0 : List Int) (b_1 : List Int) (r : Bool) (hF : laws_eqIntS k a_0 b_1 = some r) : Ret E W 22 [lst cI a_0,
    lst cI b_1] h (fun v h' => cut h.length h' E.sz false 9 v = some (.bool r)) := by
  refine Ret.of (fn := x22) rfl (Run.of ?_)
  unfold laws_eqIntS at hF
  have zf0 : argFr [lst cI a_0, lst cI b_1] 0 = lst cI a_0 := rfl
  have zf1 : argFr [lst cI a_0, lst cI b_1] 1 = lst cI b_1 := rfl
  generalize argFr [lst cI a_0, lst cI b_1] = fr0 at zf0 zf1 ⊢
  have hS : Sep h h.length [] := Sep.nil h
  simp only [x22, run_seq, run_reg, run_mv, run_ops_nil, x22_7, zf0, run_len, put1_some, xlen_lst, zf1, run_bin, xneq, run_cond, put_at, put_no, ev_t, ev_c, reduceIte,
      Nat.reduceEqDiff, List.map_cons, List.map_nil]
  refine cond_split (t := (decide ((List.length a_0 : Int) ≠ (List.length b_1 : Int)))) (fun hc1 => ?_) (fun hc1 => ?_)
  · rw [iteT hc1] at hF
    simp only [run_seq, run_reg, run_mv, run_ops_nil, run_ret, put_at, put_no, ev_t, ev_c, reduceIte, Nat.reduceEqDiff, List.map_cons, List.map_nil]
    have he := some_inj hF
    subst he
    simp only [end_ret1, put_at, put_no, ev_t, ev_c, reduceIte, Nat.reduceEqDiff, List.map_cons, List.map_nil]
    exact rfl
  · rw [iteF hc1] at hF
    simp only [run_skip, x22_6, run_seq, run_reg, run_mv, run_ops_nil, put_at, put_no, ev_t, ev_c, reduceIte, Nat.reduceEqDiff, List.map_cons, List.map_nil]
    obtain ⟨oc6, hX8, hk9⟩ := jn_some hF
    simp only [x22_5]
    refine loopF_j (σ := Int) (fun s38 => laws_eqIntS_b1 a_0 b_1 s38) (fun s fr' h' => fr' 0 = lst cI a_0 ∧ fr' 1 = lst cI b_1 ∧ fr' 5 = .int .i64 s ∧ Sep h' h.length
        ([])) hX8 ⟨by simp only [zf0, put_at, put_no, ev_t, ev_c, reduceIte, Nat.reduceEqDiff, List.map_cons, List.map_nil], by simp only [zf1, put_at, put_no, ev_t, ev_c,
        reduceIte, Nat.reduceEqDiff, List.map_cons, List.map_nil], by simp only [put_at, put_no, ev_t, ev_c, reduceIte, Nat.reduceEqDiff, List.map_cons, List.map_nil],
        hS⟩ (fun _ _ _ h => h) ?_ ?_
    · rintro s3 fr18 h19 ⟨f21, f22, f23, hS20⟩ oc7 hF10 hr11 Q12 hN13 hK14 hR15 hE16
      unfold laws_eqIntS_b1 at hF10
      simp only [x22_3, run_seq, run_reg, f23, run_mv, f21, run_len, put1_some, xlen_lst, run_bin, xlss, run_ops_nil, run_cond, put_at, put_no, ev_t, ev_c, reduceIte,
          Nat.reduceEqDiff, List.map_cons, List.map_nil]
      refine cond_split (t := (decide (s3 < (List.length a_0 : Int)))) (fun hc25 => ?_) (fun hc25 => ?_)
      · rw [iteT hc25] at hF10
        obtain ⟨x26, hx27, hF28⟩ := bind_some' hF10
        simp only [run_skip, x22_2, run_seq, run_block, x22_1, run_draw, f21, d4_mv, put1d_some, f23, d4_ia, put_at, put_no, ev_t, ev_c, reduceIte, Nat.reduceEqDiff,
            List.map_cons, List.map_nil]
        refine put1d_eq (v := .ref (cI x26) 0) (xia_lst hx27 rfl) ?_
        simp only [d4_ld, put_at, put_no, ev_t, ev_c, reduceIte, Nat.reduceEqDiff, List.map_cons, List.map_nil]
        refine put1d_eq (v := .int .i64 x26) rfl ?_
        obtain ⟨x29, hx30, hF31⟩ := bind_some' hF28
        simp only [f22, d4_mv, put1d_some, f23, d4_ia, put_at, put_no, ev_t, ev_c, reduceIte, Nat.reduceEqDiff, List.map_cons, List.map_nil]
        refine put1d_eq (v := .ref (cI x29) 0) (xia_lst hx30 rfl) ?_
        simp only [d4_ld, put_at, put_no, ev_t, ev_c, reduceIte, Nat.reduceEqDiff, List.map_cons, List.map_nil]
        refine put1d_eq (v := .int .i64 x29) rfl ?_
        simp only [d4_bin, put1d_some, xneq, run_draw_nil, run_cond, put_at, put_no, ev_t, ev_c, reduceIte, Nat.reduceEqDiff, List.map_cons, List.map_nil]
        refine cond_split (t := (decide (x26 ≠ x29))) (fun hc32 => ?_) (fun hc32 => ?_)
        · rw [iteT hc32] at hF31
          simp only [run_seq, run_reg, run_mv, run_ops_nil, run_ret, put_at, put_no, ev_t, ev_c, reduceIte, Nat.reduceEqDiff, List.map_cons, List.map_nil]
          have e33 := some_inj hF31
          subst e33
          have ho34 := hr11 _ rfl
          have hk35 := hk9
          rw [ho34] at hk35
          dsimp only [jnO] at hk35
          apply hR15
          have he := some_inj hk35
          subst he
          simp only [end_ret1, put_at, put_no, ev_t, ev_c, reduceIte, Nat.reduceEqDiff, List.map_cons, List.map_nil]
          exact rfl
        · rw [iteF hc32] at hF31
          simp only [run_skip, run_blk, run_reg, f23, run_mv, run_bin, put1_some, xadd, run_ops_nil, run_nil, put_at, put_no, ev_t, ev_c, reduceIte, Nat.reduceEqDiff,
              List.map_cons, List.map_nil]
          have e36 := some_inj hF31
          exact hN13 _ _ _ e36.symm ⟨by simp only [f21, put_at, put_no, ev_t, ev_c, reduceIte, Nat.reduceEqDiff, List.map_cons, List.map_nil], by simp only [f22, put_at, put_no,
              ev_t, ev_c, reduceIte, Nat.reduceEqDiff, List.map_cons, List.map_nil], by simp only [put_at, put_no, ev_t, ev_c, reduceIte, Nat.reduceEqDiff, List.map_cons,
              List.map_nil], hS20⟩
      · rw [iteF hc25] at hF10
        simp only [run_exit, out_code, out_nil, put_at, put_no, ev_t, ev_c, reduceIte, Nat.reduceEqDiff, List.map_cons, List.map_nil]
        have e37 := some_inj hF10
        exact hK14 _ _ _ e37.symm ⟨by simp only [f21, put_at, put_no, ev_t, ev_c, reduceIte, Nat.reduceEqDiff, List.map_cons, List.map_nil], by simp only [f22, put_at, put_no,
            ev_t, ev_c, reduceIte, Nat.reduceEqDiff, List.map_cons, List.map_nil], by simp only [f23, put_at, put_no, ev_t, ev_c, reduceIte, Nat.reduceEqDiff, List.map_cons,
            List.map_nil], hS20⟩
    · rintro s39 fr40 h41 rfl ⟨f43, f44, f45, hS42⟩
      dsimp only [jnO] at hk9
      unfold laws_eqIntS_j1 at hk9
      simp only [run_seq, run_reg, run_mv, run_ops_nil, run_ret, put_at, put_no, ev_t, ev_c, reduceIte, Nat.reduceEqDiff, List.map_cons, List.map_nil]
      have he := some_inj hk9
      subst he
      simp only [end_ret1, put_at, put_no, ev_t, ev_c, reduceIte, Nat.reduceEqDiff, List.map_cons, List.map_nil]
      exact rfl
end Go.Proofs.Ytdhibknhejhfaaa.X
namespace Go.Proofs.Ytdhibknhejhfaaa.X
open Go
theorem laws_eqReader_x {W : Nat → Bool} {h : Heap} (hW : ∀ b,
    h.length ≤ b → W b = true) (k : Nat) (a_0 : Reader) (b_1 : Reader) (r : Bool) (hF : laws_eqReader k a_0 b_1 = some r) : Ret E W 84 [.agg [.bool a_0.In,
    .int .i64 a_0.Generation, lst cI a_0.Share, lst cI a_0.Read], .agg [.bool b_1.In, .int .i64 b_1.Generation, lst cI b_1.Share,
    lst cI b_1.Read]] h (fun v h' => cut h.length h' E.sz false 9 v = some (.bool r)) := by
  refine Ret.of (fn := x84) rfl (Run.of ?_)
  unfold laws_eqReader at hF
  have zf0 : argFr [.agg [.bool a_0.In, .int .i64 a_0.Generation, lst cI a_0.Share, lst cI a_0.Read], .agg [.bool b_1.In, .int .i64 b_1.Generation, lst cI b_1.Share,
      lst cI b_1.Read]] 0 = .agg [.bool a_0.In, .int .i64 a_0.Generation, lst cI a_0.Share, lst cI a_0.Read] := rfl
  have zf1 : argFr [.agg [.bool a_0.In, .int .i64 a_0.Generation, lst cI a_0.Share, lst cI a_0.Read], .agg [.bool b_1.In, .int .i64 b_1.Generation, lst cI b_1.Share,
      lst cI b_1.Read]] 1 = .agg [.bool b_1.In, .int .i64 b_1.Generation, lst cI b_1.Share, lst cI b_1.Read] := rfl
  generalize argFr [.agg [.bool a_0.In, .int .i64 a_0.Generation, lst cI a_0.Share, lst cI a_0.Read], .agg [.bool b_1.In, .int .i64 b_1.Generation, lst cI b_1.Share,
      lst cI b_1.Read]] = fr0 at zf0 zf1 ⊢
  have hS : Sep h h.length [] := Sep.nil h
  simp only [x84, run_seq, run_reg, run_box, zf0, put_at, put_no, ev_t, ev_c, reduceIte, Nat.reduceEqDiff, List.map_cons, List.map_nil]
  refine put2_boxC (cs := [.bool a_0.In, .int .i64 a_0.Generation, lst cI a_0.Share, lst cI a_0.Read]) hS rfl rfl rfl (fun b1 h2 hS3 => ?_)
  simp only [run_box, zf1, put_at, put_no, ev_t, ev_c, reduceIte, Nat.reduceEqDiff, List.map_cons, List.map_nil]
  refine put2_boxC (cs := [.bool b_1.In, .int .i64 b_1.Generation, lst cI b_1.Share, lst cI b_1.Read]) hS3 rfl rfl rfl (fun b5 h6 hS7 => ?_)
  simp only [run_mv, run_ops_nil, put_at, put_no, ev_t, ev_c, reduceIte, Nat.reduceEqDiff, List.map_cons, List.map_nil]
  refine frz_stepC (Sep.m1 hS7) hW (by simp only [put_at, put_no, ev_t, ev_c, reduceIte, Nat.reduceEqDiff, List.map_cons, List.map_nil]) (fun h9 hS10 => ?_)
  refine frz_stepC hS10 hW (by simp only [put_at, put_no, ev_t, ev_c, reduceIte, Nat.reduceEqDiff, List.map_cons, List.map_nil]) (fun h11 hS12 => ?_)
  simp only [run_frz_nil, x84_4, run_seq, run_reg, run_fa, put1_some, Nat.reduceAdd, Nat.zero_add, Nat.add_zero, xfa_ref, run_ld, put_at, put_no, ev_t, ev_c, reduceIte,
      Nat.reduceEqDiff, List.map_cons, List.map_nil]
  refine put1_eq (v := .bool a_0.In) rfl ?_
  simp only [run_fa, put1_some, Nat.reduceAdd, Nat.zero_add, Nat.add_zero, xfa_ref, run_ld, put_at, put_no, ev_t, ev_c, reduceIte, Nat.reduceEqDiff, List.map_cons, List.map_nil]
  refine put1_eq (v := .bool b_1.In) rfl ?_
  simp only [run_eqb, put1_some, xeqb_t, run_ops_nil, run_cond, put_at, put_no, ev_t, ev_c, reduceIte, Nat.reduceEqDiff, List.map_cons, List.map_nil]
  refine cond_split (t := (!(a_0.In == b_1.In))) (fun hc13 => ?_) (fun hc13 => ?_)
  · rw [iteT hc13] at hF
    simp only [run_seq, run_reg, run_mv, run_ops_nil, run_ret, put_at, put_no, ev_t, ev_c, reduceIte, Nat.reduceEqDiff, List.map_cons, List.map_nil]
    have he := some_inj hF
    subst he
    simp only [end_ret1, put_at, put_no, ev_t, ev_c, reduceIte, Nat.reduceEqDiff, List.map_cons, List.map_nil]
    exact rfl
  · rw [iteF hc13] at hF
    simp only [run_skip, x84_3, run_seq, run_reg, run_fa, put1_some, Nat.reduceAdd, Nat.zero_add, Nat.add_zero, xfa_ref, run_ld, put_at, put_no, ev_t, ev_c, reduceIte,
        Nat.reduceEqDiff, List.map_cons, List.map_nil]
    refine put1_eq (v := .int .i64 a_0.Generation) rfl ?_
    simp only [run_fa, put1_some, Nat.reduceAdd, Nat.zero_add, Nat.add_zero, xfa_ref, run_ld, put_at, put_no, ev_t, ev_c, reduceIte, Nat.reduceEqDiff, List.map_cons, List.map_nil]
    refine put1_eq (v := .int .i64 b_1.Generation) rfl ?_
    simp only [run_bin, put1_some, xneq, run_ops_nil, run_cond, put_at, put_no, ev_t, ev_c, reduceIte, Nat.reduceEqDiff, List.map_cons, List.map_nil]
    refine cond_split (t := (decide (a_0.Generation ≠ b_1.Generation))) (fun hc14 => ?_) (fun hc14 => ?_)
    · rw [iteT hc14] at hF
      simp only [run_seq, run_reg, run_mv, run_ops_nil, run_ret, put_at, put_no, ev_t, ev_c, reduceIte, Nat.reduceEqDiff, List.map_cons, List.map_nil]
      have he := some_inj hF
      subst he
      simp only [end_ret1, put_at, put_no, ev_t, ev_c, reduceIte, Nat.reduceEqDiff, List.map_cons, List.map_nil]
      exact rfl
    · rw [iteF hc14] at hF
      simp only [run_skip, x84_2, run_seq, run_reg, run_fa, put1_some, Nat.reduceAdd, Nat.zero_add, Nat.add_zero, xfa_ref, run_ld, put_at, put_no, ev_t, ev_c, reduceIte,
          Nat.reduceEqDiff, List.map_cons, List.map_nil]
      refine put1_eq (v := lst cI a_0.Share) rfl ?_
      simp only [run_fa, put1_some, Nat.reduceAdd, Nat.zero_add, Nat.add_zero, xfa_ref, run_ld, put_at, put_no, ev_t, ev_c, reduceIte, Nat.reduceEqDiff, List.map_cons,
          List.map_nil]
      refine put1_eq (v := lst cI b_1.Share) rfl ?_
      obtain ⟨v15, hx16, hF17⟩ := bind_some' hF
      simp only [run_call, put_at, put_no, ev_t, ev_c, reduceIte, Nat.reduceEqDiff, List.map_cons, List.map_nil]
      refine call1 rfl (mapM1 snap_lst (mapM1 snap_lst mapM0)) (laws_eqIntS_x (fun b hb => decide_eq_true hb) k a_0.Share b_1.Share v15 hx16) ?_
      simp only [run_un, put1_some, xnot, run_ops_nil, run_cond, put_at, put_no, ev_t, ev_c, reduceIte, Nat.reduceEqDiff, List.map_cons, List.map_nil]
      refine cond_split (t := (!v15)) (fun hc18 => ?_) (fun hc18 => ?_)
      · rw [iteT hc18] at hF17
        simp only [run_seq, run_reg, run_mv, run_ops_nil, run_ret, put_at, put_no, ev_t, ev_c, reduceIte, Nat.reduceEqDiff, List.map_cons, List.map_nil]
        have he := some_inj hF17
        subst he
        simp only [end_ret1, put_at, put_no, ev_t, ev_c, reduceIte, Nat.reduceEqDiff, List.map_cons, List.map_nil]
        exact rfl
      · rw [iteF hc18] at hF17
        simp only [run_skip, x84_1, run_seq, run_reg, run_fa, put1_some, Nat.reduceAdd, Nat.zero_add, Nat.add_zero, xfa_ref, run_ld, put_at, put_no, ev_t, ev_c, reduceIte,
            Nat.reduceEqDiff, List.map_cons, List.map_nil]
        refine put1_eq (v := lst cI a_0.Read) rfl ?_
        simp only [run_fa, put1_some, Nat.reduceAdd, Nat.zero_add, Nat.add_zero, xfa_ref, run_ld, put_at, put_no, ev_t, ev_c, reduceIte, Nat.reduceEqDiff, List.map_cons,
            List.map_nil]
        refine put1_eq (v := lst cI b_1.Read) rfl ?_
        obtain ⟨v19, hx20, hF21⟩ := bind_some' hF17
        simp only [run_call, put_at, put_no, ev_t, ev_c, reduceIte, Nat.reduceEqDiff, List.map_cons, List.map_nil]
        refine call1 rfl (mapM1 snap_lst (mapM1 snap_lst mapM0)) (laws_eqIntS_x (fun b hb => decide_eq_true hb) k a_0.Read b_1.Read v19 hx20) ?_
        simp only [run_un, put1_some, xnot, run_ops_nil, run_cond, put_at, put_no, ev_t, ev_c, reduceIte, Nat.reduceEqDiff, List.map_cons, List.map_nil]
        refine cond_split (t := (!v19)) (fun hc22 => ?_) (fun hc22 => ?_)
        · rw [iteT hc22] at hF21
          simp only [run_seq, run_reg, run_mv, run_ops_nil, run_ret, put_at, put_no, ev_t, ev_c, reduceIte, Nat.reduceEqDiff, List.map_cons, List.map_nil]
          have he := some_inj hF21
          subst he
          simp only [end_ret1, put_at, put_no, ev_t, ev_c, reduceIte, Nat.reduceEqDiff, List.map_cons, List.map_nil]
          exact rfl
        · rw [iteF hc22] at hF21
          simp only [run_skip, run_seq, run_reg, run_mv, run_ops_nil, run_ret, put_at, put_no, ev_t, ev_c, reduceIte, Nat.reduceEqDiff, List.map_cons, List.map_nil]
          have he := some_inj hF21
          subst he
          simp only [end_ret1, put_at, put_no, ev_t, ev_c, reduceIte, Nat.reduceEqDiff, List.map_cons, List.map_nil]
          exact rfl
theorem laws_eqReaderS_x {W : Nat → Bool} {h : Heap} (hW : ∀ b,
    h.length ≤ b → W b = true) (k : Nat) (a_0 : List Reader) (b_1 : List Reader) (r : Bool) (hF : laws_eqReaderS k a_0 b_1 = some r) : Ret E W 59 [lst Reader.cells a_0,
    lst Reader.cells b_1] h (fun v h' => cut h.length h' E.sz false 9 v = some (.bool r)) := by
  refine Ret.of (fn := x59) rfl (Run.of ?_)
  unfold laws_eqReaderS at hF
  have zf0 : argFr [lst Reader.cells a_0, lst Reader.cells b_1] 0 = lst Reader.cells a_0 := rfl
  have zf1 : argFr [lst Reader.cells a_0, lst Reader.cells b_1] 1 = lst Reader.cells b_1 := rfl
  generalize argFr [lst Reader.cells a_0, lst Reader.cells b_1] = fr0 at zf0 zf1 ⊢
  have hS : Sep h h.length [] := Sep.nil h
  simp only [x59, run_seq, run_reg, run_mv, run_ops_nil, x59_7, zf0, run_len, put1_some, xlen_lst, zf1, run_bin, xneq, run_cond, put_at, put_no, ev_t, ev_c, reduceIte,
      Nat.reduceEqDiff, List.map_cons, List.map_nil]
  refine cond_split (t := (decide ((List.length a_0 : Int) ≠ (List.length b_1 : Int)))) (fun hc1 => ?_) (fun hc1 => ?_)
  · rw [iteT hc1] at hF
    simp only [run_seq, run_reg, run_mv, run_ops_nil, run_ret, put_at, put_no, ev_t, ev_c, reduceIte, Nat.reduceEqDiff, List.map_cons, List.map_nil]
    have he := some_inj hF
    subst he
    simp only [end_ret1, put_at, put_no, ev_t, ev_c, reduceIte, Nat.reduceEqDiff, List.map_cons, List.map_nil]
    exact rfl
  · rw [iteF hc1] at hF
    simp only [run_skip, x59_6, run_seq, run_reg, run_mv, run_ops_nil, put_at, put_no, ev_t, ev_c, reduceIte, Nat.reduceEqDiff, List.map_cons, List.map_nil]
    obtain ⟨oc6, hX8, hk9⟩ := jn_some hF
    simp only [x59_5]
    refine loopF_j (σ := Int) (fun s41 => laws_eqReaderS_b1 k a_0 b_1 s41)
        (fun s fr' h' => fr' 0 = lst Reader.cells a_0 ∧ fr' 1 = lst Reader.cells b_1 ∧ fr' 5 = .int .i64 s ∧ Sep h' h.length ([])) hX8 ⟨by simp only [zf0, put_at, put_no, ev_t,
        ev_c, reduceIte, Nat.reduceEqDiff, List.map_cons, List.map_nil], by simp only [zf1, put_at, put_no, ev_t, ev_c, reduceIte, Nat.reduceEqDiff, List.map_cons, List.map_nil],
        by simp only [put_at, put_no, ev_t, ev_c, reduceIte, Nat.reduceEqDiff, List.map_cons, List.map_nil], hS⟩ (fun _ _ _ h => h) ?_ ?_
    · rintro s3 fr18 h19 ⟨f21, f22, f23, hS20⟩ oc7 hF10 hr11 Q12 hN13 hK14 hR15 hE16
      unfold laws_eqReaderS_b1 at hF10
      simp only [x59_3, run_seq, run_reg, f23, run_mv, f21, run_len, put1_some, xlen_lst, run_bin, xlss, run_ops_nil, run_cond, put_at, put_no, ev_t, ev_c, reduceIte,
          Nat.reduceEqDiff, List.map_cons, List.map_nil]
      refine cond_split (t := (decide (s3 < (List.length a_0 : Int)))) (fun hc25 => ?_) (fun hc25 => ?_)
      · rw [iteT hc25] at hF10
        obtain ⟨x26, hx27, hF28⟩ := bind_some' hF10
        simp only [run_skip, x59_2, run_seq, run_block, x59_1, run_draw, f21, d4_mv, put1d_some, f23, d4_ia, put_at, put_no, ev_t, ev_c, reduceIte, Nat.reduceEqDiff,
            List.map_cons, List.map_nil]
        refine put1d_eq (v := .ref (Reader.cells x26) 0) (xia_lst hx27 rfl) ?_
        simp only [d4_ld, put_at, put_no, ev_t, ev_c, reduceIte, Nat.reduceEqDiff, List.map_cons, List.map_nil]
        refine put1d_eq (v := .agg [.bool x26.In, .int .i64 x26.Generation, lst cI x26.Share, lst cI x26.Read]) rfl ?_
        obtain ⟨x29, hx30, hF31⟩ := bind_some' hF28
        simp only [f22, d4_mv, put1d_some, f23, d4_ia, put_at, put_no, ev_t, ev_c, reduceIte, Nat.reduceEqDiff, List.map_cons, List.map_nil]
        refine put1d_eq (v := .ref (Reader.cells x29) 0) (xia_lst hx30 rfl) ?_
        simp only [d4_ld, put_at, put_no, ev_t, ev_c, reduceIte, Nat.reduceEqDiff, List.map_cons, List.map_nil]
        refine put1d_eq (v := .agg [.bool x29.In, .int .i64 x29.Generation, lst cI x29.Share, lst cI x29.Read]) rfl ?_
        obtain ⟨v32, hx33, hF34⟩ := bind_some' hF31
        simp only [run_d3_call, put_at, put_no, ev_t, ev_c, reduceIte, Nat.reduceEqDiff, List.map_cons, List.map_nil]
        refine call1d rfl (mapM1 (snap_agg (mapM1 snap_bool (mapM1 snap_int (mapM1 snap_lst (mapM1 snap_lst mapM0))))) (mapM1 (snap_agg (mapM1 snap_bool (mapM1 snap_int
            (mapM1 snap_lst (mapM1 snap_lst mapM0))))) mapM0)) (laws_eqReader_x (fun b hb => decide_eq_true hb) k x26 x29 v32 hx33) ?_
        simp only [d4_un, put1d_some, xnot, run_draw_nil, run_cond, put_at, put_no, ev_t, ev_c, reduceIte, Nat.reduceEqDiff, List.map_cons, List.map_nil]
        refine cond_split (t := (!v32)) (fun hc35 => ?_) (fun hc35 => ?_)
        · rw [iteT hc35] at hF34
          simp only [run_seq, run_reg, run_mv, run_ops_nil, run_ret, put_at, put_no, ev_t, ev_c, reduceIte, Nat.reduceEqDiff, List.map_cons, List.map_nil]
          have e36 := some_inj hF34
          subst e36
          have ho37 := hr11 _ rfl
          have hk38 := hk9
          rw [ho37] at hk38
          dsimp only [jnO] at hk38
          apply hR15
          have he := some_inj hk38
          subst he
          simp only [end_ret1, put_at, put_no, ev_t, ev_c, reduceIte, Nat.reduceEqDiff, List.map_cons, List.map_nil]
          exact rfl
        · rw [iteF hc35] at hF34
          simp only [run_skip, run_blk, run_reg, f23, run_mv, run_bin, put1_some, xadd, run_ops_nil, run_nil, put_at, put_no, ev_t, ev_c, reduceIte, Nat.reduceEqDiff,
              List.map_cons, List.map_nil]
          have e39 := some_inj hF34
          exact hN13 _ _ _ e39.symm ⟨by simp only [f21, put_at, put_no, ev_t, ev_c, reduceIte, Nat.reduceEqDiff, List.map_cons, List.map_nil], by simp only [f22, put_at, put_no,
              ev_t, ev_c, reduceIte, Nat.reduceEqDiff, List.map_cons, List.map_nil], by simp only [put_at, put_no, ev_t, ev_c, reduceIte, Nat.reduceEqDiff, List.map_cons,
              List.map_nil], hS20⟩
      · rw [iteF hc25] at hF10
        simp only [run_exit, out_code, out_nil, put_at, put_no, ev_t, ev_c, reduceIte, Nat.reduceEqDiff, List.map_cons, List.map_nil]
        have e40 := some_inj hF10
        exact hK14 _ _ _ e40.symm ⟨by simp only [f21, put_at, put_no, ev_t, ev_c, reduceIte, Nat.reduceEqDiff, List.map_cons, List.map_nil], by simp only [f22, put_at, put_no,
            ev_t, ev_c, reduceIte, Nat.reduceEqDiff, List.map_cons, List.map_nil], by simp only [f23, put_at, put_no, ev_t, ev_c, reduceIte, Nat.reduceEqDiff, List.map_cons,
            List.map_nil], hS20⟩
    · rintro s42 fr43 h44 rfl ⟨f46, f47, f48, hS45⟩
      dsimp only [jnO] at hk9
      unfold laws_eqReaderS_j1 at hk9
      simp only [run_seq, run_reg, run_mv, run_ops_nil, run_ret, put_at, put_no, ev_t, ev_c, reduceIte, Nat.reduceEqDiff, List.map_cons, List.map_nil]
      have he := some_inj hk9
      subst he
      simp only [end_ret1, put_at, put_no, ev_t, ev_c, reduceIte, Nat.reduceEqDiff, List.map_cons, List.map_nil]
      exact rfl
theorem laws_eqReaders_x {W : Nat → Bool} {h : Heap} (hW : ∀ b,
    h.length ≤ b → W b = true) (k : Nat) (a_0 : Readers_) (b_1 : Readers_) (r : Bool) (hF : laws_eqReaders k a_0 b_1 = some r) : Ret E W 20 [.agg [.int .i64 a_0.Generation,
    lst Reader.cells a_0.Readers, lst cI a_0.Committed, lst cI a_0.Ends], .agg [.int .i64 b_1.Generation, lst Reader.cells b_1.Readers, lst cI b_1.Committed,
    lst cI b_1.Ends]] h (fun v h' => cut h.length h' E.sz false 9 v = some (.bool r)) := by
  refine Ret.of (fn := x20) rfl (Run.of ?_)
  unfold laws_eqReaders at hF
  have zf0 : argFr [.agg [.int .i64 a_0.Generation, lst Reader.cells a_0.Readers, lst cI a_0.Committed, lst cI a_0.Ends], .agg [.int .i64 b_1.Generation,
      lst Reader.cells b_1.Readers, lst cI b_1.Committed, lst cI b_1.Ends]] 0 = .agg [.int .i64 a_0.Generation, lst Reader.cells a_0.Readers, lst cI a_0.Committed,
      lst cI a_0.Ends] := rfl
  have zf1 : argFr [.agg [.int .i64 a_0.Generation, lst Reader.cells a_0.Readers, lst cI a_0.Committed, lst cI a_0.Ends], .agg [.int .i64 b_1.Generation,
      lst Reader.cells b_1.Readers, lst cI b_1.Committed, lst cI b_1.Ends]] 1 = .agg [.int .i64 b_1.Generation, lst Reader.cells b_1.Readers, lst cI b_1.Committed,
      lst cI b_1.Ends] := rfl
  generalize argFr [.agg [.int .i64 a_0.Generation, lst Reader.cells a_0.Readers, lst cI a_0.Committed, lst cI a_0.Ends], .agg [.int .i64 b_1.Generation,
      lst Reader.cells b_1.Readers, lst cI b_1.Committed, lst cI b_1.Ends]] = fr0 at zf0 zf1 ⊢
  have hS : Sep h h.length [] := Sep.nil h
  simp only [x20, run_seq, run_reg, run_box, zf0, put_at, put_no, ev_t, ev_c, reduceIte, Nat.reduceEqDiff, List.map_cons, List.map_nil]
  refine put2_boxC (cs := [.int .i64 a_0.Generation, lst Reader.cells a_0.Readers, lst cI a_0.Committed, lst cI a_0.Ends]) hS rfl rfl rfl (fun b1 h2 hS3 => ?_)
  simp only [run_box, zf1, put_at, put_no, ev_t, ev_c, reduceIte, Nat.reduceEqDiff, List.map_cons, List.map_nil]
  refine put2_boxC (cs := [.int .i64 b_1.Generation, lst Reader.cells b_1.Readers, lst cI b_1.Committed, lst cI b_1.Ends]) hS3 rfl rfl rfl (fun b5 h6 hS7 => ?_)
  simp only [run_mv, run_ops_nil, put_at, put_no, ev_t, ev_c, reduceIte, Nat.reduceEqDiff, List.map_cons, List.map_nil]
  refine frz_stepC (Sep.m1 hS7) hW (by simp only [put_at, put_no, ev_t, ev_c, reduceIte, Nat.reduceEqDiff, List.map_cons, List.map_nil]) (fun h9 hS10 => ?_)
  refine frz_stepC hS10 hW (by simp only [put_at, put_no, ev_t, ev_c, reduceIte, Nat.reduceEqDiff, List.map_cons, List.map_nil]) (fun h11 hS12 => ?_)
  simp only [run_frz_nil, x20_4, run_seq, run_reg, run_fa, put1_some, Nat.reduceAdd, Nat.zero_add, Nat.add_zero, xfa_ref, run_ld, put_at, put_no, ev_t, ev_c, reduceIte,
      Nat.reduceEqDiff, List.map_cons, List.map_nil]
  refine put1_eq (v := .int .i64 a_0.Generation) rfl ?_
  simp only [run_fa, put1_some, Nat.reduceAdd, Nat.zero_add, Nat.add_zero, xfa_ref, run_ld, put_at, put_no, ev_t, ev_c, reduceIte, Nat.reduceEqDiff, List.map_cons, List.map_nil]
  refine put1_eq (v := .int .i64 b_1.Generation) rfl ?_
  simp only [run_bin, put1_some, xneq, run_ops_nil, run_cond, put_at, put_no, ev_t, ev_c, reduceIte, Nat.reduceEqDiff, List.map_cons, List.map_nil]
  refine cond_split (t := (decide (a_0.Generation ≠ b_1.Generation))) (fun hc13 => ?_) (fun hc13 => ?_)
  · rw [iteT hc13] at hF
    simp only [run_seq, run_reg, run_mv, run_ops_nil, run_ret, put_at, put_no, ev_t, ev_c, reduceIte, Nat.reduceEqDiff, List.map_cons, List.map_nil]
    have he := some_inj hF
    subst he
    simp only [end_ret1, put_at, put_no, ev_t, ev_c, reduceIte, Nat.reduceEqDiff, List.map_cons, List.map_nil]
    exact rfl
  · rw [iteF hc13] at hF
    simp only [run_skip, x20_3, run_seq, run_reg, run_fa, put1_some, Nat.reduceAdd, Nat.zero_add, Nat.add_zero, xfa_ref, run_ld, put_at, put_no, ev_t, ev_c, reduceIte,
        Nat.reduceEqDiff, List.map_cons, List.map_nil]
    refine put1_eq (v := lst Reader.cells a_0.Readers) rfl ?_
    simp only [run_fa, put1_some, Nat.reduceAdd, Nat.zero_add, Nat.add_zero, xfa_ref, run_ld, put_at, put_no, ev_t, ev_c, reduceIte, Nat.reduceEqDiff, List.map_cons, List.map_nil]
    refine put1_eq (v := lst Reader.cells b_1.Readers) rfl ?_
    obtain ⟨v14, hx15, hF16⟩ := bind_some' hF
    simp only [run_call, put_at, put_no, ev_t, ev_c, reduceIte, Nat.reduceEqDiff, List.map_cons, List.map_nil]
    refine call1 rfl (mapM1 snap_lst (mapM1 snap_lst mapM0)) (laws_eqReaderS_x (fun b hb => decide_eq_true hb) k a_0.Readers b_1.Readers v14 hx15) ?_
    simp only [run_un, put1_some, xnot, run_ops_nil, run_cond, put_at, put_no, ev_t, ev_c, reduceIte, Nat.reduceEqDiff, List.map_cons, List.map_nil]
    refine cond_split (t := (!v14)) (fun hc17 => ?_) (fun hc17 => ?_)
    · rw [iteT hc17] at hF16
      simp only [run_seq, run_reg, run_mv, run_ops_nil, run_ret, put_at, put_no, ev_t, ev_c, reduceIte, Nat.reduceEqDiff, List.map_cons, List.map_nil]
      have he := some_inj hF16
      subst he
      simp only [end_ret1, put_at, put_no, ev_t, ev_c, reduceIte, Nat.reduceEqDiff, List.map_cons, List.map_nil]
      exact rfl
    · rw [iteF hc17] at hF16
      simp only [run_skip, x20_2, run_seq, run_reg, run_fa, put1_some, Nat.reduceAdd, Nat.zero_add, Nat.add_zero, xfa_ref, run_ld, put_at, put_no, ev_t, ev_c, reduceIte,
          Nat.reduceEqDiff, List.map_cons, List.map_nil]
      refine put1_eq (v := lst cI a_0.Committed) rfl ?_
      simp only [run_fa, put1_some, Nat.reduceAdd, Nat.zero_add, Nat.add_zero, xfa_ref, run_ld, put_at, put_no, ev_t, ev_c, reduceIte, Nat.reduceEqDiff, List.map_cons,
          List.map_nil]
      refine put1_eq (v := lst cI b_1.Committed) rfl ?_
      obtain ⟨v18, hx19, hF20⟩ := bind_some' hF16
      simp only [run_call, put_at, put_no, ev_t, ev_c, reduceIte, Nat.reduceEqDiff, List.map_cons, List.map_nil]
      refine call1 rfl (mapM1 snap_lst (mapM1 snap_lst mapM0)) (laws_eqIntS_x (fun b hb => decide_eq_true hb) k a_0.Committed b_1.Committed v18 hx19) ?_
      simp only [run_un, put1_some, xnot, run_ops_nil, run_cond, put_at, put_no, ev_t, ev_c, reduceIte, Nat.reduceEqDiff, List.map_cons, List.map_nil]
      refine cond_split (t := (!v18)) (fun hc21 => ?_) (fun hc21 => ?_)
      · rw [iteT hc21] at hF20
        simp only [run_seq, run_reg, run_mv, run_ops_nil, run_ret, put_at, put_no, ev_t, ev_c, reduceIte, Nat.reduceEqDiff, List.map_cons, List.map_nil]
        have he := some_inj hF20
        subst he
        simp only [end_ret1, put_at, put_no, ev_t, ev_c, reduceIte, Nat.reduceEqDiff, List.map_cons, List.map_nil]
        exact rfl
      · rw [iteF hc21] at hF20
        simp only [run_skip, x20_1, run_seq, run_reg, run_fa, put1_some, Nat.reduceAdd, Nat.zero_add, Nat.add_zero, xfa_ref, run_ld, put_at, put_no, ev_t, ev_c, reduceIte,
            Nat.reduceEqDiff, List.map_cons, List.map_nil]
        refine put1_eq (v := lst cI a_0.Ends) rfl ?_
        simp only [run_fa, put1_some, Nat.reduceAdd, Nat.zero_add, Nat.add_zero, xfa_ref, run_ld, put_at, put_no, ev_t, ev_c, reduceIte, Nat.reduceEqDiff, List.map_cons,
            List.map_nil]
        refine put1_eq (v := lst cI b_1.Ends) rfl ?_
        obtain ⟨v22, hx23, hF24⟩ := bind_some' hF20
        simp only [run_call, put_at, put_no, ev_t, ev_c, reduceIte, Nat.reduceEqDiff, List.map_cons, List.map_nil]
        refine call1 rfl (mapM1 snap_lst (mapM1 snap_lst mapM0)) (laws_eqIntS_x (fun b hb => decide_eq_true hb) k a_0.Ends b_1.Ends v22 hx23) ?_
        simp only [run_un, put1_some, xnot, run_ops_nil, run_cond, put_at, put_no, ev_t, ev_c, reduceIte, Nat.reduceEqDiff, List.map_cons, List.map_nil]
        refine cond_split (t := (!v22)) (fun hc25 => ?_) (fun hc25 => ?_)
        · rw [iteT hc25] at hF24
          simp only [run_seq, run_reg, run_mv, run_ops_nil, run_ret, put_at, put_no, ev_t, ev_c, reduceIte, Nat.reduceEqDiff, List.map_cons, List.map_nil]
          have he := some_inj hF24
          subst he
          simp only [end_ret1, put_at, put_no, ev_t, ev_c, reduceIte, Nat.reduceEqDiff, List.map_cons, List.map_nil]
          exact rfl
        · rw [iteF hc25] at hF24
          simp only [run_skip, run_seq, run_reg, run_mv, run_ops_nil, run_ret, put_at, put_no, ev_t, ev_c, reduceIte, Nat.reduceEqDiff, List.map_cons, List.map_nil]
          have he := some_inj hF24
          subst he
          simp only [end_ret1, put_at, put_no, ev_t, ev_c, reduceIte, Nat.reduceEqDiff, List.map_cons, List.map_nil]
          exact rfl
theorem laws_eqBoolS_x {W : Nat → Bool} {h : Heap} (hW : ∀ b,
    h.length ≤ b → W b = true) (k : Nat) (a_0 : List Bool) (b_1 : List Bool) (r : Bool) (hF : laws_eqBoolS k a_0 b_1 = some r) : Ret E W 21 [lst cB a_0,
    lst cB b_1] h (fun v h' => cut h.length h' E.sz false 9 v = some (.bool r)) := by
  refine Ret.of (fn := x21) rfl (Run.of ?_)
  unfold laws_eqBoolS at hF
  have zf0 : argFr [lst cB a_0, lst cB b_1] 0 = lst cB a_0 := rfl
  have zf1 : argFr [lst cB a_0, lst cB b_1] 1 = lst cB b_1 := rfl
  generalize argFr [lst cB a_0, lst cB b_1] = fr0 at zf0 zf1 ⊢
  have hS : Sep h h.length [] := Sep.nil h
  simp only [x21, run_seq, run_reg, run_mv, run_ops_nil, x21_7, zf0, run_len, put1_some, xlen_lst, zf1, run_bin, xneq, run_cond, put_at, put_no, ev_t, ev_c, reduceIte,
      Nat.reduceEqDiff, List.map_cons, List.map_nil]
  refine cond_split (t := (decide ((List.length a_0 : Int) ≠ (List.length b_1 : Int)))) (fun hc1 => ?_) (fun hc1 => ?_)
  · rw [iteT hc1] at hF
    simp only [run_seq, run_reg, run_mv, run_ops_nil, run_ret, put_at, put_no, ev_t, ev_c, reduceIte, Nat.reduceEqDiff, List.map_cons, List.map_nil]
    have he := some_inj hF
    subst he
    simp only [end_ret1, put_at, put_no, ev_t, ev_c, reduceIte, Nat.reduceEqDiff, List.map_cons, List.map_nil]
    exact rfl
  · rw [iteF hc1] at hF
    simp only [run_skip, x21_6, run_seq, run_reg, run_mv, run_ops_nil, put_at, put_no, ev_t, ev_c, reduceIte, Nat.reduceEqDiff, List.map_cons, List.map_nil]
    obtain ⟨oc6, hX8, hk9⟩ := jn_some hF
    simp only [x21_5]
    refine loopF_j (σ := Int) (fun s38 => laws_eqBoolS_b1 a_0 b_1 s38) (fun s fr' h' => fr' 0 = lst cB a_0 ∧ fr' 1 = lst cB b_1 ∧ fr' 5 = .int .i64 s ∧ Sep h' h.length
        ([])) hX8 ⟨by simp only [zf0, put_at, put_no, ev_t, ev_c, reduceIte, Nat.reduceEqDiff, List.map_cons, List.map_nil], by simp only [zf1, put_at, put_no, ev_t, ev_c,
        reduceIte, Nat.reduceEqDiff, List.map_cons, List.map_nil], by simp only [put_at, put_no, ev_t, ev_c, reduceIte, Nat.reduceEqDiff, List.map_cons, List.map_nil],
        hS⟩ (fun _ _ _ h => h) ?_ ?_
    · rintro s3 fr18 h19 ⟨f21, f22, f23, hS20⟩ oc7 hF10 hr11 Q12 hN13 hK14 hR15 hE16
      unfold laws_eqBoolS_b1 at hF10
      simp only [x21_3, run_seq, run_reg, f23, run_mv, f21, run_len, put1_some, xlen_lst, run_bin, xlss, run_ops_nil, run_cond, put_at, put_no, ev_t, ev_c, reduceIte,
          Nat.reduceEqDiff, List.map_cons, List.map_nil]
      refine cond_split (t := (decide (s3 < (List.length a_0 : Int)))) (fun hc25 => ?_) (fun hc25 => ?_)
      · rw [iteT hc25] at hF10
        obtain ⟨x26, hx27, hF28⟩ := bind_some' hF10
        simp only [run_skip, x21_2, run_seq, run_block, x21_1, run_draw, f21, d4_mv, put1d_some, f23, d4_ia, put_at, put_no, ev_t, ev_c, reduceIte, Nat.reduceEqDiff,
            List.map_cons, List.map_nil]
        refine put1d_eq (v := .ref (cB x26) 0) (xia_lst hx27 rfl) ?_
        simp only [d4_ld, put_at, put_no, ev_t, ev_c, reduceIte, Nat.reduceEqDiff, List.map_cons, List.map_nil]
        refine put1d_eq (v := .bool x26) rfl ?_
        obtain ⟨x29, hx30, hF31⟩ := bind_some' hF28
        simp only [f22, d4_mv, put1d_some, f23, d4_ia, put_at, put_no, ev_t, ev_c, reduceIte, Nat.reduceEqDiff, List.map_cons, List.map_nil]
        refine put1d_eq (v := .ref (cB x29) 0) (xia_lst hx30 rfl) ?_
        simp only [d4_ld, put_at, put_no, ev_t, ev_c, reduceIte, Nat.reduceEqDiff, List.map_cons, List.map_nil]
        refine put1d_eq (v := .bool x29) rfl ?_
        simp only [d4_eqb, put1d_some, xeqb_t, run_draw_nil, run_cond, put_at, put_no, ev_t, ev_c, reduceIte, Nat.reduceEqDiff, List.map_cons, List.map_nil]
        refine cond_split (t := (!(x26 == x29))) (fun hc32 => ?_) (fun hc32 => ?_)
        · rw [iteT hc32] at hF31
          simp only [run_seq, run_reg, run_mv, run_ops_nil, run_ret, put_at, put_no, ev_t, ev_c, reduceIte, Nat.reduceEqDiff, List.map_cons, List.map_nil]
          have e33 := some_inj hF31
          subst e33
          have ho34 := hr11 _ rfl
          have hk35 := hk9
          rw [ho34] at hk35
          dsimp only [jnO] at hk35
          apply hR15
          have he := some_inj hk35
          subst he
          simp only [end_ret1, put_at, put_no, ev_t, ev_c, reduceIte, Nat.reduceEqDiff, List.map_cons, List.map_nil]
          exact rfl
        · rw [iteF hc32] at hF31
          simp only [run_skip, run_blk, run_reg, f23, run_mv, run_bin, put1_some, xadd, run_ops_nil, run_nil, put_at, put_no, ev_t, ev_c, reduceIte, Nat.reduceEqDiff,
              List.map_cons, List.map_nil]
          have e36 := some_inj hF31
          exact hN13 _ _ _ e36.symm ⟨by simp only [f21, put_at, put_no, ev_t, ev_c, reduceIte, Nat.reduceEqDiff, List.map_cons, List.map_nil], by simp only [f22, put_at, put_no,
              ev_t, ev_c, reduceIte, Nat.reduceEqDiff, List.map_cons, List.map_nil], by simp only [put_at, put_no, ev_t, ev_c, reduceIte, Nat.reduceEqDiff, List.map_cons,
              List.map_nil], hS20⟩
      · rw [iteF hc25] at hF10
        simp only [run_exit, out_code, out_nil, put_at, put_no, ev_t, ev_c, reduceIte, Nat.reduceEqDiff, List.map_cons, List.map_nil]
        have e37 := some_inj hF10
        exact hK14 _ _ _ e37.symm ⟨by simp only [f21, put_at, put_no, ev_t, ev_c, reduceIte, Nat.reduceEqDiff, List.map_cons, List.map_nil], by simp only [f22, put_at, put_no,
            ev_t, ev_c, reduceIte, Nat.reduceEqDiff, List.map_cons, List.map_nil], by simp only [f23, put_at, put_no, ev_t, ev_c, reduceIte, Nat.reduceEqDiff, List.map_cons,
            List.map_nil], hS20⟩
    · rintro s39 fr40 h41 rfl ⟨f43, f44, f45, hS42⟩
      dsimp only [jnO] at hk9
      unfold laws_eqBoolS_j1 at hk9
      simp only [run_seq, run_reg, run_mv, run_ops_nil, run_ret, put_at, put_no, ev_t, ev_c, reduceIte, Nat.reduceEqDiff, List.map_cons, List.map_nil]
      have he := some_inj hk9
      subst he
      simp only [end_ret1, put_at, put_no, ev_t, ev_c, reduceIte, Nat.reduceEqDiff, List.map_cons, List.map_nil]
      exact rfl
theorem laws_eqGroupStep_x {W : Nat → Bool} {h : Heap} (hW : ∀ b,
    h.length ≤ b → W b = true) (a_0 : GroupStep) (b_1 : GroupStep) (r : Bool) (hF : laws_eqGroupStep a_0 b_1 = some r) : Ret E W 60 [.agg [.int .i64 a_0.Kind, .int .i64 a_0.K,
    .int .i64 a_0.Part, .int .i64 a_0.N], .agg [.int .i64 b_1.Kind, .int .i64 b_1.K, .int .i64 b_1.Part,
    .int .i64 b_1.N]] h (fun v h' => cut h.length h' E.sz false 9 v = some (.bool r)) := by
  refine Ret.of (fn := x60) rfl (Run.of ?_)
  unfold laws_eqGroupStep at hF
  have zf0 : argFr [.agg [.int .i64 a_0.Kind, .int .i64 a_0.K, .int .i64 a_0.Part, .int .i64 a_0.N], .agg [.int .i64 b_1.Kind, .int .i64 b_1.K, .int .i64 b_1.Part,
      .int .i64 b_1.N]] 0 = .agg [.int .i64 a_0.Kind, .int .i64 a_0.K, .int .i64 a_0.Part, .int .i64 a_0.N] := rfl
  have zf1 : argFr [.agg [.int .i64 a_0.Kind, .int .i64 a_0.K, .int .i64 a_0.Part, .int .i64 a_0.N], .agg [.int .i64 b_1.Kind, .int .i64 b_1.K, .int .i64 b_1.Part,
      .int .i64 b_1.N]] 1 = .agg [.int .i64 b_1.Kind, .int .i64 b_1.K, .int .i64 b_1.Part, .int .i64 b_1.N] := rfl
  generalize argFr [.agg [.int .i64 a_0.Kind, .int .i64 a_0.K, .int .i64 a_0.Part, .int .i64 a_0.N], .agg [.int .i64 b_1.Kind, .int .i64 b_1.K, .int .i64 b_1.Part,
      .int .i64 b_1.N]] = fr0 at zf0 zf1 ⊢
  have hS : Sep h h.length [] := Sep.nil h
  simp only [x60, run_seq, run_reg, run_box, zf0, put_at, put_no, ev_t, ev_c, reduceIte, Nat.reduceEqDiff, List.map_cons, List.map_nil]
  refine put2_boxC (cs := [.int .i64 a_0.Kind, .int .i64 a_0.K, .int .i64 a_0.Part, .int .i64 a_0.N]) hS rfl rfl rfl (fun b1 h2 hS3 => ?_)
  simp only [run_box, zf1, put_at, put_no, ev_t, ev_c, reduceIte, Nat.reduceEqDiff, List.map_cons, List.map_nil]
  refine put2_boxC (cs := [.int .i64 b_1.Kind, .int .i64 b_1.K, .int .i64 b_1.Part, .int .i64 b_1.N]) hS3 rfl rfl rfl (fun b5 h6 hS7 => ?_)
  simp only [run_mv, run_ops_nil, put_at, put_no, ev_t, ev_c, reduceIte, Nat.reduceEqDiff, List.map_cons, List.map_nil]
  refine frz_stepC (Sep.m1 hS7) hW (by simp only [put_at, put_no, ev_t, ev_c, reduceIte, Nat.reduceEqDiff, List.map_cons, List.map_nil]) (fun h9 hS10 => ?_)
  refine frz_stepC hS10 hW (by simp only [put_at, put_no, ev_t, ev_c, reduceIte, Nat.reduceEqDiff, List.map_cons, List.map_nil]) (fun h11 hS12 => ?_)
  simp only [run_frz_nil, x60_4, run_seq, run_reg, run_fa, put1_some, Nat.reduceAdd, Nat.zero_add, Nat.add_zero, xfa_ref, run_ld, put_at, put_no, ev_t, ev_c, reduceIte,
      Nat.reduceEqDiff, List.map_cons, List.map_nil]
  refine put1_eq (v := .int .i64 a_0.Kind) rfl ?_
  simp only [run_fa, put1_some, Nat.reduceAdd, Nat.zero_add, Nat.add_zero, xfa_ref, run_ld, put_at, put_no, ev_t, ev_c, reduceIte, Nat.reduceEqDiff, List.map_cons, List.map_nil]
  refine put1_eq (v := .int .i64 b_1.Kind) rfl ?_
  simp only [run_bin, put1_some, xneq, run_ops_nil, run_cond, put_at, put_no, ev_t, ev_c, reduceIte, Nat.reduceEqDiff, List.map_cons, List.map_nil]
  refine cond_split (t := (decide (a_0.Kind ≠ b_1.Kind))) (fun hc13 => ?_) (fun hc13 => ?_)
  · rw [iteT hc13] at hF
    simp only [run_seq, run_reg, run_mv, run_ops_nil, run_ret, put_at, put_no, ev_t, ev_c, reduceIte, Nat.reduceEqDiff, List.map_cons, List.map_nil]
    have he := some_inj hF
    subst he
    simp only [end_ret1, put_at, put_no, ev_t, ev_c, reduceIte, Nat.reduceEqDiff, List.map_cons, List.map_nil]
    exact rfl
  · rw [iteF hc13] at hF
    simp only [run_skip, x60_3, run_seq, run_reg, run_fa, put1_some, Nat.reduceAdd, Nat.zero_add, Nat.add_zero, xfa_ref, run_ld, put_at, put_no, ev_t, ev_c, reduceIte,
        Nat.reduceEqDiff, List.map_cons, List.map_nil]
    refine put1_eq (v := .int .i64 a_0.K) rfl ?_
    simp only [run_fa, put1_some, Nat.reduceAdd, Nat.zero_add, Nat.add_zero, xfa_ref, run_ld, put_at, put_no, ev_t, ev_c, reduceIte, Nat.reduceEqDiff, List.map_cons, List.map_nil]
    refine put1_eq (v := .int .i64 b_1.K) rfl ?_
    simp only [run_bin, put1_some, xneq, run_ops_nil, run_cond, put_at, put_no, ev_t, ev_c, reduceIte, Nat.reduceEqDiff, List.map_cons, List.map_nil]
    refine cond_split (t := (decide (a_0.K ≠ b_1.K))) (fun hc14 => ?_) (fun hc14 => ?_)
    · rw [iteT hc14] at hF
      simp only [run_seq, run_reg, run_mv, run_ops_nil, run_ret, put_at, put_no, ev_t, ev_c, reduceIte, Nat.reduceEqDiff, List.map_cons, List.map_nil]
      have he := some_inj hF
      subst he
      simp only [end_ret1, put_at, put_no, ev_t, ev_c, reduceIte, Nat.reduceEqDiff, List.map_cons, List.map_nil]
      exact rfl
    · rw [iteF hc14] at hF
      simp only [run_skip, x60_2, run_seq, run_reg, run_fa, put1_some, Nat.reduceAdd, Nat.zero_add, Nat.add_zero, xfa_ref, run_ld, put_at, put_no, ev_t, ev_c, reduceIte,
          Nat.reduceEqDiff, List.map_cons, List.map_nil]
      refine put1_eq (v := .int .i64 a_0.Part) rfl ?_
      simp only [run_fa, put1_some, Nat.reduceAdd, Nat.zero_add, Nat.add_zero, xfa_ref, run_ld, put_at, put_no, ev_t, ev_c, reduceIte, Nat.reduceEqDiff, List.map_cons,
          List.map_nil]
      refine put1_eq (v := .int .i64 b_1.Part) rfl ?_
      simp only [run_bin, put1_some, xneq, run_ops_nil, run_cond, put_at, put_no, ev_t, ev_c, reduceIte, Nat.reduceEqDiff, List.map_cons, List.map_nil]
      refine cond_split (t := (decide (a_0.Part ≠ b_1.Part))) (fun hc15 => ?_) (fun hc15 => ?_)
      · rw [iteT hc15] at hF
        simp only [run_seq, run_reg, run_mv, run_ops_nil, run_ret, put_at, put_no, ev_t, ev_c, reduceIte, Nat.reduceEqDiff, List.map_cons, List.map_nil]
        have he := some_inj hF
        subst he
        simp only [end_ret1, put_at, put_no, ev_t, ev_c, reduceIte, Nat.reduceEqDiff, List.map_cons, List.map_nil]
        exact rfl
      · rw [iteF hc15] at hF
        simp only [run_skip, x60_1, run_seq, run_reg, run_fa, put1_some, Nat.reduceAdd, Nat.zero_add, Nat.add_zero, xfa_ref, run_ld, put_at, put_no, ev_t, ev_c, reduceIte,
            Nat.reduceEqDiff, List.map_cons, List.map_nil]
        refine put1_eq (v := .int .i64 a_0.N) rfl ?_
        simp only [run_fa, put1_some, Nat.reduceAdd, Nat.zero_add, Nat.add_zero, xfa_ref, run_ld, put_at, put_no, ev_t, ev_c, reduceIte, Nat.reduceEqDiff, List.map_cons,
            List.map_nil]
        refine put1_eq (v := .int .i64 b_1.N) rfl ?_
        simp only [run_bin, put1_some, xneq, run_ops_nil, run_cond, put_at, put_no, ev_t, ev_c, reduceIte, Nat.reduceEqDiff, List.map_cons, List.map_nil]
        refine cond_split (t := (decide (a_0.N ≠ b_1.N))) (fun hc16 => ?_) (fun hc16 => ?_)
        · rw [iteT hc16] at hF
          simp only [run_seq, run_reg, run_mv, run_ops_nil, run_ret, put_at, put_no, ev_t, ev_c, reduceIte, Nat.reduceEqDiff, List.map_cons, List.map_nil]
          have he := some_inj hF
          subst he
          simp only [end_ret1, put_at, put_no, ev_t, ev_c, reduceIte, Nat.reduceEqDiff, List.map_cons, List.map_nil]
          exact rfl
        · rw [iteF hc16] at hF
          simp only [run_skip, run_seq, run_reg, run_mv, run_ops_nil, run_ret, put_at, put_no, ev_t, ev_c, reduceIte, Nat.reduceEqDiff, List.map_cons, List.map_nil]
          have he := some_inj hF
          subst he
          simp only [end_ret1, put_at, put_no, ev_t, ev_c, reduceIte, Nat.reduceEqDiff, List.map_cons, List.map_nil]
          exact rfl
theorem laws_eqGroupStepS_x {W : Nat → Bool} {h : Heap} (hW : ∀ b,
    h.length ≤ b → W b = true) (k : Nat) (a_0 : List GroupStep) (b_1 : List GroupStep) (r : Bool)
    (hF : laws_eqGroupStepS k a_0 b_1 = some r) : Ret E W 23 [lst GroupStep.cells a_0,
    lst GroupStep.cells b_1] h (fun v h' => cut h.length h' E.sz false 9 v = some (.bool r)) := by
  refine Ret.of (fn := x23) rfl (Run.of ?_)
  unfold laws_eqGroupStepS at hF
  have zf0 : argFr [lst GroupStep.cells a_0, lst GroupStep.cells b_1] 0 = lst GroupStep.cells a_0 := rfl
  have zf1 : argFr [lst GroupStep.cells a_0, lst GroupStep.cells b_1] 1 = lst GroupStep.cells b_1 := rfl
  generalize argFr [lst GroupStep.cells a_0, lst GroupStep.cells b_1] = fr0 at zf0 zf1 ⊢
  have hS : Sep h h.length [] := Sep.nil h
  simp only [x23, run_seq, run_reg, run_mv, run_ops_nil, x23_7, zf0, run_len, put1_some, xlen_lst, zf1, run_bin, xneq, run_cond, put_at, put_no, ev_t, ev_c, reduceIte,
      Nat.reduceEqDiff, List.map_cons, List.map_nil]
  refine cond_split (t := (decide ((List.length a_0 : Int) ≠ (List.length b_1 : Int)))) (fun hc1 => ?_) (fun hc1 => ?_)
  · rw [iteT hc1] at hF
    simp only [run_seq, run_reg, run_mv, run_ops_nil, run_ret, put_at, put_no, ev_t, ev_c, reduceIte, Nat.reduceEqDiff, List.map_cons, List.map_nil]
    have he := some_inj hF
    subst he
    simp only [end_ret1, put_at, put_no, ev_t, ev_c, reduceIte, Nat.reduceEqDiff, List.map_cons, List.map_nil]
    exact rfl
  · rw [iteF hc1] at hF
    simp only [run_skip, x23_6, run_seq, run_reg, run_mv, run_ops_nil, put_at, put_no, ev_t, ev_c, reduceIte, Nat.reduceEqDiff, List.map_cons, List.map_nil]
    obtain ⟨oc6, hX8, hk9⟩ := jn_some hF
    simp only [x23_5]
    refine loopF_j (σ := Int) (fun s41 => laws_eqGroupStepS_b1 a_0 b_1 s41)
        (fun s fr' h' => fr' 0 = lst GroupStep.cells a_0 ∧ fr' 1 = lst GroupStep.cells b_1 ∧ fr' 5 = .int .i64 s ∧ Sep h' h.length ([])) hX8 ⟨by simp only [zf0, put_at, put_no,
        ev_t, ev_c, reduceIte, Nat.reduceEqDiff, List.map_cons, List.map_nil], by simp only [zf1, put_at, put_no, ev_t, ev_c, reduceIte, Nat.reduceEqDiff, List.map_cons,
        List.map_nil], by simp only [put_at, put_no, ev_t, ev_c, reduceIte, Nat.reduceEqDiff, List.map_cons, List.map_nil], hS⟩ (fun _ _ _ h => h) ?_ ?_
    · rintro s3 fr18 h19 ⟨f21, f22, f23, hS20⟩ oc7 hF10 hr11 Q12 hN13 hK14 hR15 hE16
      unfold laws_eqGroupStepS_b1 at hF10
      simp only [x23_3, run_seq, run_reg, f23, run_mv, f21, run_len, put1_some, xlen_lst, run_bin, xlss, run_ops_nil, run_cond, put_at, put_no, ev_t, ev_c, reduceIte,
          Nat.reduceEqDiff, List.map_cons, List.map_nil]
      refine cond_split (t := (decide (s3 < (List.length a_0 : Int)))) (fun hc25 => ?_) (fun hc25 => ?_)
      · rw [iteT hc25] at hF10
        obtain ⟨x26, hx27, hF28⟩ := bind_some' hF10
        simp only [run_skip, x23_2, run_seq, run_block, x23_1, run_draw, f21, d4_mv, put1d_some, f23, d4_ia, put_at, put_no, ev_t, ev_c, reduceIte, Nat.reduceEqDiff,
            List.map_cons, List.map_nil]
        refine put1d_eq (v := .ref (GroupStep.cells x26) 0) (xia_lst hx27 rfl) ?_
        simp only [d4_ld, put_at, put_no, ev_t, ev_c, reduceIte, Nat.reduceEqDiff, List.map_cons, List.map_nil]
        refine put1d_eq (v := .agg [.int .i64 x26.Kind, .int .i64 x26.K, .int .i64 x26.Part, .int .i64 x26.N]) rfl ?_
        obtain ⟨x29, hx30, hF31⟩ := bind_some' hF28
        simp only [f22, d4_mv, put1d_some, f23, d4_ia, put_at, put_no, ev_t, ev_c, reduceIte, Nat.reduceEqDiff, List.map_cons, List.map_nil]
        refine put1d_eq (v := .ref (GroupStep.cells x29) 0) (xia_lst hx30 rfl) ?_
        simp only [d4_ld, put_at, put_no, ev_t, ev_c, reduceIte, Nat.reduceEqDiff, List.map_cons, List.map_nil]
        refine put1d_eq (v := .agg [.int .i64 x29.Kind, .int .i64 x29.K, .int .i64 x29.Part, .int .i64 x29.N]) rfl ?_
        obtain ⟨v32, hx33, hF34⟩ := bind_some' hF31
        simp only [run_d3_call, put_at, put_no, ev_t, ev_c, reduceIte, Nat.reduceEqDiff, List.map_cons, List.map_nil]
        refine call1d rfl (mapM1 (snap_agg (mapM1 snap_int (mapM1 snap_int (mapM1 snap_int (mapM1 snap_int mapM0))))) (mapM1 (snap_agg (mapM1 snap_int (mapM1 snap_int
            (mapM1 snap_int (mapM1 snap_int mapM0))))) mapM0)) (laws_eqGroupStep_x (fun b hb => decide_eq_true hb) x26 x29 v32 hx33) ?_
        simp only [d4_un, put1d_some, xnot, run_draw_nil, run_cond, put_at, put_no, ev_t, ev_c, reduceIte, Nat.reduceEqDiff, List.map_cons, List.map_nil]
        refine cond_split (t := (!v32)) (fun hc35 => ?_) (fun hc35 => ?_)
        · rw [iteT hc35] at hF34
          simp only [run_seq, run_reg, run_mv, run_ops_nil, run_ret, put_at, put_no, ev_t, ev_c, reduceIte, Nat.reduceEqDiff, List.map_cons, List.map_nil]
          have e36 := some_inj hF34
          subst e36
          have ho37 := hr11 _ rfl
          have hk38 := hk9
          rw [ho37] at hk38
          dsimp only [jnO] at hk38
          apply hR15
          have he := some_inj hk38
          subst he
          simp only [end_ret1, put_at, put_no, ev_t, ev_c, reduceIte, Nat.reduceEqDiff, List.map_cons, List.map_nil]
          exact rfl
        · rw [iteF hc35] at hF34
          simp only [run_skip, run_blk, run_reg, f23, run_mv, run_bin, put1_some, xadd, run_ops_nil, run_nil, put_at, put_no, ev_t, ev_c, reduceIte, Nat.reduceEqDiff,
              List.map_cons, List.map_nil]
          have e39 := some_inj hF34
          exact hN13 _ _ _ e39.symm ⟨by simp only [f21, put_at, put_no, ev_t, ev_c, reduceIte, Nat.reduceEqDiff, List.map_cons, List.map_nil], by simp only [f22, put_at, put_no,
              ev_t, ev_c, reduceIte, Nat.reduceEqDiff, List.map_cons, List.map_nil], by simp only [put_at, put_no, ev_t, ev_c, reduceIte, Nat.reduceEqDiff, List.map_cons,
              List.map_nil], hS20⟩
      · rw [iteF hc25] at hF10
        simp only [run_exit, out_code, out_nil, put_at, put_no, ev_t, ev_c, reduceIte, Nat.reduceEqDiff, List.map_cons, List.map_nil]
        have e40 := some_inj hF10
        exact hK14 _ _ _ e40.symm ⟨by simp only [f21, put_at, put_no, ev_t, ev_c, reduceIte, Nat.reduceEqDiff, List.map_cons, List.map_nil], by simp only [f22, put_at, put_no,
            ev_t, ev_c, reduceIte, Nat.reduceEqDiff, List.map_cons, List.map_nil], by simp only [f23, put_at, put_no, ev_t, ev_c, reduceIte, Nat.reduceEqDiff, List.map_cons,
            List.map_nil], hS20⟩
    · rintro s42 fr43 h44 rfl ⟨f46, f47, f48, hS45⟩
      dsimp only [jnO] at hk9
      unfold laws_eqGroupStepS_j1 at hk9
      simp only [run_seq, run_reg, run_mv, run_ops_nil, run_ret, put_at, put_no, ev_t, ev_c, reduceIte, Nat.reduceEqDiff, List.map_cons, List.map_nil]
      have he := some_inj hk9
      subst he
      simp only [end_ret1, put_at, put_no, ev_t, ev_c, reduceIte, Nat.reduceEqDiff, List.map_cons, List.map_nil]
      exact rfl
theorem laws_markIntS_x {W : Nat → Bool} {h : Heap} {lo : Nat} {S0 : List Obj} (hW : ∀ b,
    lo ≤ b → W b = true) (k : Nat) (pv0 : XV) (pc0 : List Obj) (a_0 : List Int) (ph0 : SlF cI 1 3 pv0 a_0 pc0) (k_1 : Int) (r : Int × (List Int))
    (hF : laws_markIntS k a_0 k_1 = some r) (hS : Sep h lo (pc0 ++ (S0))) : Ret E W 24 [pv0, .int .i64 k_1] h (fun v h' => ∃ ic0,
    v = .int .i64 r.1 ∧ SlF cI 1 3 pv0 r.2 ic0 ∧ Sep h' lo (ic0 ++ (S0))) := by
  refine Ret.of (fn := x24) rfl (Run.of ?_)
  unfold laws_markIntS at hF
  have zf0 : argFr [pv0, .int .i64 k_1] 0 = pv0 := rfl
  have zf1 : argFr [pv0, .int .i64 k_1] 1 = .int .i64 k_1 := rfl
  generalize argFr [pv0, .int .i64 k_1] = fr0 at zf0 zf1 ⊢
  simp only [x24, run_seq, run_reg, run_mv, run_ops_nil, x24_6, put_at, put_no, ev_t, ev_c, reduceIte, Nat.reduceEqDiff, List.map_cons, List.map_nil]
  obtain ⟨oc13, hX15, hk16⟩ := jn_some hF
  simp only [x24_5]
  refine loopF_j (σ := Int × Int × (List Int)) (fun s45 => laws_markIntS_b1 s45.1 s45.2.1 s45.2.2) (fun s fr' h' => ∃ c9,
      fr' 0 = pv0 ∧ fr' 1 = .int .i64 s.1 ∧ fr' 5 = .int .i64 s.2.1 ∧ SlF cI 1 3 pv0 s.2.2 c9 ∧ Sep h' lo (c9 ++ (S0))) hX15 ⟨pc0, by simp only [zf0, put_at, put_no, ev_t, ev_c,
      reduceIte, Nat.reduceEqDiff, List.map_cons, List.map_nil], by simp only [zf1, put_at, put_no, ev_t, ev_c, reduceIte, Nat.reduceEqDiff, List.map_cons, List.map_nil],
      by simp only [put_at, put_no, ev_t, ev_c, reduceIte, Nat.reduceEqDiff, List.map_cons, List.map_nil], ph0, hS⟩ (fun _ _ _ h => h) ?_ ?_
  · rintro ⟨s6, s7, s8⟩ fr25 h26 ⟨c9, f28, f29, f30, hv10, hS27⟩ oc14 hF17 hr18 Q19 hN20 hK21 hR22 hE23
    dsimp only at *
    unfold laws_markIntS_b1 at hF17
    simp only [x24_3, run_seq, run_reg, f30, run_mv, f28, run_len, put1_some, SlF.plen hv10, run_bin, xlss, run_ops_nil, run_cond, put_at, put_no, ev_t, ev_c, reduceIte,
        Nat.reduceEqDiff, List.map_cons, List.map_nil]
    refine cond_split (t := (decide (s7 < (List.length s8 : Int)))) (fun hc32 => ?_) (fun hc32 => ?_)
    · rw [iteT hc32] at hF17
      obtain ⟨x33, hx34, hF35⟩ := bind_some' hF17
      simp only [run_skip, x24_2, run_seq, run_block, x24_1, run_reg, f28, run_mv, f30, f29, run_ia, put_at, put_no, ev_t, ev_c, reduceIte, Nat.reduceEqDiff, List.map_cons,
          List.map_nil]
      obtain ⟨b36, hb37⟩ := SlF.isrow hv10 (geti_ne hx34)
      refine put1_eq (SlF.ia hv10 hb37 hx34) ?_
      simp only [run_st, put_at, put_no, ev_t, ev_c, reduceIte, Nat.reduceEqDiff, List.map_cons, List.map_nil]
      refine put2_stF (f := cI) (x' := s6) (o := 0) hv10 hS27 hW hb37 hx34 (fun _ => rfl) rfl rfl (Nat.le_of_ble_eq_true rfl) rfl (fun c40 h38 hv41 hS39 => ?_)
      have hx42 := geti_set (x' := s6) hx34
      simp only [put_no, run_ops_nil, run_reg, f29, run_mv, run_bin, put1_some, xadd, run_blk, f30, run_nil, put_at, ev_t, ev_c, reduceIte, Nat.reduceEqDiff, List.map_cons,
          List.map_nil]
      have e43 := some_inj hF35
      exact hN20 _ _ _ e43.symm ⟨c40, by simp only [f28, put_at, put_no, ev_t, ev_c, reduceIte, Nat.reduceEqDiff, List.map_cons, List.map_nil], by simp only [put_at, put_no, ev_t,
          ev_c, reduceIte, Nat.reduceEqDiff, List.map_cons, List.map_nil], by simp only [put_at, put_no, ev_t, ev_c, reduceIte, Nat.reduceEqDiff, List.map_cons, List.map_nil],
          hv41, hS39⟩
    · rw [iteF hc32] at hF17
      simp only [run_exit, out_code, out_nil, put_at, put_no, ev_t, ev_c, reduceIte, Nat.reduceEqDiff, List.map_cons, List.map_nil]
      have e44 := some_inj hF17
      exact hK21 _ _ _ e44.symm ⟨c9, by simp only [f28, put_at, put_no, ev_t, ev_c, reduceIte, Nat.reduceEqDiff, List.map_cons, List.map_nil], by simp only [f29, put_at, put_no,
          ev_t, ev_c, reduceIte, Nat.reduceEqDiff, List.map_cons, List.map_nil], by simp only [f30, put_at, put_no, ev_t, ev_c, reduceIte, Nat.reduceEqDiff, List.map_cons,
          List.map_nil], hv10, hS27⟩
  · rintro ⟨s46, s47, s48⟩ fr51 h52 rfl ⟨c49, f54, f55, f56, hv50, hS53⟩
    dsimp only [jnO] at hk16
    dsimp only at *
    unfold laws_markIntS_j1 at hk16
    simp only [run_seq, run_reg, f55, run_mv, run_ops_nil, run_ret, put_at, put_no, ev_t, ev_c, reduceIte, Nat.reduceEqDiff, List.map_cons, List.map_nil]
    have he := some_inj hk16
    subst he
    simp only [end_ret1, put_at, put_no, ev_t, ev_c, reduceIte, Nat.reduceEqDiff, List.map_cons, List.map_nil]
    exact ⟨c49, by first | trivial | rfl, hv50, hS53⟩
theorem laws_markGroupStepS_x {W : Nat → Bool} {h : Heap} {lo : Nat} {S0 : List Obj} (hW : ∀ b,
    lo ≤ b → W b = true) (k : Nat) (pv0 : XV) (pc0 : List Obj) (a_0 : List GroupStep) (ph0 : SlF GroupStep.cells 4 64 pv0 a_0 pc0) (k_1 : Int) (r : Int × (List GroupStep))
    (hF : laws_markGroupStepS k a_0 k_1 = some r) (hS : Sep h lo (pc0 ++ (S0))) : Ret E W 25 [pv0, .int .i64 k_1] h (fun v h' => ∃ ic0,
    v = .int .i64 r.1 ∧ SlF GroupStep.cells 4 64 pv0 r.2 ic0 ∧ Sep h' lo (ic0 ++ (S0))) := by
  refine Ret.of (fn := x25) rfl (Run.of ?_)
  unfold laws_markGroupStepS at hF
  have zf0 : argFr [pv0, .int .i64 k_1] 0 = pv0 := rfl
  have zf1 : argFr [pv0, .int .i64 k_1] 1 = .int .i64 k_1 := rfl
  generalize argFr [pv0, .int .i64 k_1] = fr0 at zf0 zf1 ⊢
  simp only [x25, run_seq, run_reg, run_mv, run_ops_nil, x25_12, put_at, put_no, ev_t, ev_c, reduceIte, Nat.reduceEqDiff, List.map_cons, List.map_nil]
  obtain ⟨oc13, hX15, hk16⟩ := jn_some hF
  simp only [x25_11]
  refine loopF_j (σ := Int × Int × (List GroupStep)) (fun s60 => laws_markGroupStepS_b1 s60.1 s60.2.1 s60.2.2) (fun s fr' h' => ∃ c9,
      fr' 0 = pv0 ∧ fr' 1 = .int .i64 s.1 ∧ fr' 5 = .int .i64 s.2.1 ∧ SlF GroupStep.cells 4 64 pv0 s.2.2 c9 ∧ Sep h' lo (c9 ++ (S0))) hX15 ⟨pc0, by simp only [zf0, put_at, put_no,
      ev_t, ev_c, reduceIte, Nat.reduceEqDiff, List.map_cons, List.map_nil], by simp only [zf1, put_at, put_no, ev_t, ev_c, reduceIte, Nat.reduceEqDiff, List.map_cons,
      List.map_nil], by simp only [put_at, put_no, ev_t, ev_c, reduceIte, Nat.reduceEqDiff, List.map_cons, List.map_nil], ph0, hS⟩ (fun _ _ _ h => h) ?_ ?_
  · rintro ⟨s6, s7, s8⟩ fr25 h26 ⟨c9, f28, f29, f30, hv10, hS27⟩ oc14 hF17 hr18 Q19 hN20 hK21 hR22 hE23
    dsimp only at *
    unfold laws_markGroupStepS_b1 at hF17
    simp only [x25_9, run_seq, run_reg, f30, run_mv, f28, run_len, put1_some, SlF.plen hv10, run_bin, xlss, run_ops_nil, run_cond, put_at, put_no, ev_t, ev_c, reduceIte,
        Nat.reduceEqDiff, List.map_cons, List.map_nil]
    refine cond_split (t := (decide (s7 < (List.length s8 : Int)))) (fun hc32 => ?_) (fun hc32 => ?_)
    · rw [iteT hc32] at hF17
      obtain ⟨x33, hx34, hF35⟩ := bind_some' hF17
      simp only [run_skip, x25_8, run_seq, run_block, x25_7, run_reg, f28, run_mv, f30, f29, run_ia, put_at, put_no, ev_t, ev_c, reduceIte, Nat.reduceEqDiff, List.map_cons,
          List.map_nil]
      obtain ⟨b36, hb37⟩ := SlF.isrow hv10 (geti_ne hx34)
      refine put1_eq (SlF.ia hv10 hb37 hx34) ?_
      simp only [run_fa, put1_some, Nat.reduceAdd, Nat.zero_add, Nat.add_zero, xfa_ptr, run_st, put_at, put_no, ev_t, ev_c, reduceIte, Nat.reduceEqDiff, List.map_cons,
          List.map_nil]
      refine put2_stF (f := GroupStep.cells) (x' := (GroupStep.mk s6 x33.K x33.Part x33.N)) (o := 0) hv10 hS27 hW hb37 hx34 (fun _ => rfl) rfl rfl (Nat.le_of_ble_eq_true rfl) rfl
          (fun c40 h38 hv41 hS39 => ?_)
      have hx42 := geti_set (x' := (GroupStep.mk s6 x33.K x33.Part x33.N)) hx34
      simp only [put_no, run_ops_nil, x25_6, run_seq, run_reg, f29, run_mv, run_bin, put1_some, xadd, x25_5, f28, f30, run_ia, put_at, ev_t, ev_c, reduceIte, Nat.reduceEqDiff,
          List.map_cons, List.map_nil]
      refine put1_eq (SlF.ia hv41 hb37 hx42) ?_
      simp only [run_fa, put1_some, Nat.reduceAdd, Nat.zero_add, Nat.add_zero, xfa_ptr, run_st, put_at, put_no, ev_t, ev_c, reduceIte, Nat.reduceEqDiff, List.map_cons,
          List.map_nil]
      refine put2_stF (f := GroupStep.cells) (x' := (GroupStep.mk s6 (IntKind.wrap .i64 (s6 + 1)) x33.Part x33.N)) (o := 1) hv41 hS39 hW hb37 hx42 (fun _ => rfl) rfl rfl
          (Nat.le_of_ble_eq_true rfl) rfl (fun c45 h43 hv46 hS44 => ?_)
      rw [List.set_set] at hv46
      have hx47 := geti_set (x' := (GroupStep.mk s6 (IntKind.wrap .i64 (s6 + 1)) x33.Part x33.N)) hx34
      simp only [put_no, run_ops_nil, x25_4, run_seq, run_reg, run_mv, run_bin, put1_some, xadd, x25_3, f28, f30, run_ia, put_at, ev_t, ev_c, reduceIte, Nat.reduceEqDiff,
          List.map_cons, List.map_nil]
      refine put1_eq (SlF.ia hv46 hb37 hx47) ?_
      simp only [run_fa, put1_some, Nat.reduceAdd, Nat.zero_add, Nat.add_zero, xfa_ptr, run_st, put_at, put_no, ev_t, ev_c, reduceIte, Nat.reduceEqDiff, List.map_cons,
          List.map_nil]
      refine put2_stF (f := GroupStep.cells) (x' := (GroupStep.mk s6 (IntKind.wrap .i64 (s6 + 1)) (IntKind.wrap .i64 ((IntKind.wrap .i64 (s6 + 1)) + 1)) x33.N))
          (o := 2) hv46 hS44 hW hb37 hx47 (fun _ => rfl) rfl rfl (Nat.le_of_ble_eq_true rfl) rfl (fun c50 h48 hv51 hS49 => ?_)
      rw [List.set_set] at hv51
      have hx52 := geti_set (x' := (GroupStep.mk s6 (IntKind.wrap .i64 (s6 + 1)) (IntKind.wrap .i64 ((IntKind.wrap .i64 (s6 + 1)) + 1)) x33.N)) hx34
      simp only [put_no, run_ops_nil, x25_2, run_seq, run_reg, run_mv, run_bin, put1_some, xadd, x25_1, f28, f30, run_ia, put_at, ev_t, ev_c, reduceIte, Nat.reduceEqDiff,
          List.map_cons, List.map_nil]
      refine put1_eq (SlF.ia hv51 hb37 hx52) ?_
      simp only [run_fa, put1_some, Nat.reduceAdd, Nat.zero_add, Nat.add_zero, xfa_ptr, run_st, put_at, put_no, ev_t, ev_c, reduceIte, Nat.reduceEqDiff, List.map_cons,
          List.map_nil]
      refine put2_stF (f := GroupStep.cells) (x' := (GroupStep.mk s6 (IntKind.wrap .i64 (s6 + 1)) (IntKind.wrap .i64 ((IntKind.wrap .i64 (s6 + 1)) + 1)) (IntKind.wrap .i64
          ((IntKind.wrap .i64 ((IntKind.wrap .i64 (s6 + 1)) + 1)) + 1)))) (o := 3) hv51 hS49 hW hb37 hx52 (fun _ => rfl) rfl rfl (Nat.le_of_ble_eq_true rfl) rfl
          (fun c55 h53 hv56 hS54 => ?_)
      rw [List.set_set] at hv56
      have hx57 := geti_set (x' := (GroupStep.mk s6 (IntKind.wrap .i64 (s6 + 1)) (IntKind.wrap .i64 ((IntKind.wrap .i64 (s6 + 1)) + 1)) (IntKind.wrap .i64 ((IntKind.wrap .i64
          ((IntKind.wrap .i64 (s6 + 1)) + 1)) + 1)))) hx34
      simp only [put_no, run_ops_nil, run_reg, run_mv, run_bin, put1_some, xadd, run_blk, f30, run_nil, put_at, ev_t, ev_c, reduceIte, Nat.reduceEqDiff, List.map_cons,
          List.map_nil]
      have e58 := some_inj hF35
      exact hN20 _ _ _ e58.symm ⟨c55, by simp only [f28, put_at, put_no, ev_t, ev_c, reduceIte, Nat.reduceEqDiff, List.map_cons, List.map_nil], by simp only [put_at, put_no, ev_t,
          ev_c, reduceIte, Nat.reduceEqDiff, List.map_cons, List.map_nil], by simp only [put_at, put_no, ev_t, ev_c, reduceIte, Nat.reduceEqDiff, List.map_cons, List.map_nil],
          hv56, hS54⟩
    · rw [iteF hc32] at hF17
      simp only [run_exit, out_code, out_nil, put_at, put_no, ev_t, ev_c, reduceIte, Nat.reduceEqDiff, List.map_cons, List.map_nil]
      have e59 := some_inj hF17
      exact hK21 _ _ _ e59.symm ⟨c9, by simp only [f28, put_at, put_no, ev_t, ev_c, reduceIte, Nat.reduceEqDiff, List.map_cons, List.map_nil], by simp only [f29, put_at, put_no,
          ev_t, ev_c, reduceIte, Nat.reduceEqDiff, List.map_cons, List.map_nil], by simp only [f30, put_at, put_no, ev_t, ev_c, reduceIte, Nat.reduceEqDiff, List.map_cons,
          List.map_nil], hv10, hS27⟩
  · rintro ⟨s61, s62, s63⟩ fr66 h67 rfl ⟨c64, f69, f70, f71, hv65, hS68⟩
    dsimp only [jnO] at hk16
    dsimp only at *
    unfold laws_markGroupStepS_j1 at hk16
    simp only [run_seq, run_reg, f70, run_mv, run_ops_nil, run_ret, put_at, put_no, ev_t, ev_c, reduceIte, Nat.reduceEqDiff, List.map_cons, List.map_nil]
    have he := some_inj hk16
    subst he
    simp only [end_ret1, put_at, put_no, ev_t, ev_c, reduceIte, Nat.reduceEqDiff, List.map_cons, List.map_nil]
    exact ⟨c64, by first | trivial | rfl, hv65, hS68⟩
end Go.Proofs.Ytdhibknhejhfaaa.X
