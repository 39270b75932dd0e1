/- The functions' code comes to what the plain functions say (2). -/
import Derived.Test.YtdhibknhejhfaaaXCH1
set_option linter.unusedVariables false
set_option linter.unusedSimpArgs false
set_option maxRecDepth 100000
namespace Go.Proofs.Ytdhibknhejhfaaa.X
open Go
open Nat (reduceEqDiff)
theorem impl_PlayReaders_x {W : Nat → Bool} {h : Heap} (hW : ∀ b,
    (geL h.length) b → W b = true) (readers_0 : Int) (ends_1 : List Int) (l_2 : List GroupStep) (r : Readers_ × (List Bool) × Bool)
    (hF : impl_PlayReaders readers_0 ends_1 l_2 = some r) : Ret E W 8 [.int .i64 readers_0, lst cI ends_1,
    lst GroupStep.cells l_2] h (fun v h' => ∃ rv0_1 rc0_1 rv0_2 rc0_2 rv0_3 rc0_3 rv1 rc1, v = .tup [.agg [.int .i64 r.1.Generation, rv0_1, rv0_2, rv0_3], rv1,
    .bool r.2.2] ∧ SlN Reader.R 4 37 rv0_1 r.1.Readers rc0_1 ∧ SlF cI 1 3 rv0_2 r.1.Committed rc0_2 ∧ SlF cI 1 3 rv0_3 r.1.Ends rc0_3 ∧ SlF cB 1 4 rv1 r.2.1 rc1 ∧ Sep h'
    (geL h.length) (rc0_1 ++ (rc0_2 ++ (rc0_3 ++ (rc1 ++ ([])))))) := by
  refine Ret.of (fn := x8) rfl (Run.of ?_)
  unfold impl_PlayReaders at hF
  have zf0 : argFr [.int .i64 readers_0, lst cI ends_1, lst GroupStep.cells l_2] 0 = .int .i64 readers_0 := rfl
  have zf1 : argFr [.int .i64 readers_0, lst cI ends_1, lst GroupStep.cells l_2] 1 = lst cI ends_1 := rfl
  have zf2 : argFr [.int .i64 readers_0, lst cI ends_1, lst GroupStep.cells l_2] 2 = lst GroupStep.cells l_2 := rfl
  generalize argFr [.int .i64 readers_0, lst cI ends_1, lst GroupStep.cells l_2] = fr0 at zf0 zf1 zf2 ⊢
  have hS : Sep h (geL h.length) [] := Sep.nil h
  simp only [x8, run_seq, run_reg, run_new, B0, reduceIte, reduceEqDiff]
  refine put2_newC hS (fun b1 h2 hS3 => ?_)
  obtain ⟨v5, hx6, hF7⟩ := bind_some' hF
  simp only [run_mv, run_ops_nil, x8_11, run_seq, run_reg, zf0, zf1, run_call, B0, reduceIte, reduceEqDiff]
  refine call2 rfl hS3 (mapM1 snap_int (mapM1 snap_lst mapM0)) (impl_newReaders_x (fun b hb => decide_eq_true hb) readers_0 ends_1 v5 hx6) ?_
  rintro _ h20 ⟨v8, c9, v12, c13, v16, c17, rfl, hv10, hv14, hv18, hS21⟩
  refine ⟨_, free_t (all_c (free2_a (all_c rfl (all_c (SlN.free1 hv10) (all_c (SlF.free1 hv14) (all_c (SlF.free1 hv18) all_n))))) (all_c rfl all_n)), hS21,
      (pf_app (SlN.pf hv10 Reader.RO) (pf_app (SlF.pf hv14 (fun _ => rfl)) (pf_app (SlF.pf hv18 (fun _ => rfl)) pf_nil))), fun h22 hS23 => ?_⟩
  have hS24 : Sep h22 (geL h.length) (c9 ++ (c13 ++ (c17 ++ ([Blk1 b1 [.int .i64 0, .nil, .nil, .nil] 29] ++ ([]))))) := by simpa only [List.append_assoc,
      List.nil_append] using hS23
  simp only [run_mv, run_ext, put1_some, xext_0, xext_1, run_new, B0, reduceIte, reduceEqDiff]
  refine put2_newC hS24 (fun b25 h26 hS27 => ?_)
  simp only [run_st, B0, reduceIte, reduceEqDiff]
  refine put2_stCx (us := [.int .i64 v5.1.Generation, v8, v12, v16]) rfl (cs' := [.int .i64 v5.1.Generation, v8, v12,
      v16]) hS27 hW rfl (all_c rfl (all_c (SlN.one hv10) (all_c (SlF.one hv14) (all_c (SlF.one hv18) all_n)))) (Nat.le_of_ble_eq_true rfl) rfl (fun h29 hS30 => ?_)
  simp only [run_mv, run_ops_nil, x8_10, run_seq, run_reg, run_un, put1_some, xnot, B0, reduceIte, reduceEqDiff]
  refine ops_j 4 (fun fr' h' => Sep h' (geL h.length) ([Blk1 b1 [.int .i64 0, .nil, .nil, .nil] 29] ++ ([Blk1 b25 [.int .i64 v5.1.Generation, v8, v12,
      v16] 29] ++ (c9 ++ (c13 ++ (c17 ++ ([])))))) ∧ fr' 26 = .bool ((!v5.2) || (decide ((80 : Int) <
      (List.length l_2 : Int)))) ∧ fr' 2 = lst GroupStep.cells l_2 ∧ fr' 6 = .ptr b1 0 ∧ fr' 9 = .ptr b25 0) (fun Q31 hN32 => ?_) ?_
  · simp only [List.take_succ_cons, List.take_zero]
    simp only [run_guard (g := 22), B0, reduceIte, reduceEqDiff]
    refine guard_split (t := (!v5.2)) (fun hg33 => ?_) (fun hg33 => ?_)
    · simp only [hg33, run_guard (g := 22), guard_off', run_pick, put1_some, xpick_t, run_ops_nil, run_nil, B0, reduceIte, reduceEqDiff]
      exact hN32 _ _ ⟨(Sep.m4 (Sep.m3 (Sep.m3 (Sep.m3 (Sep.m3 hS30))))), by rw [orT hg33]; simp only [B0, reduceIte, reduceEqDiff], zf2, rfl, rfl⟩
    · simp only [hg33, run_guard (g := 22), guard_false, zf2, run_mv, run_len, put1_some, xlen_lst, run_bin, xgtr, run_pick, xpick_f, run_ops_nil, run_nil, B0, reduceIte,
        reduceEqDiff]
      exact hN32 _ _ ⟨(Sep.m4 (Sep.m3 (Sep.m3 (Sep.m3 (Sep.m3 hS30))))), by rw [orF hg33]; simp only [B0, reduceIte, reduceEqDiff], zf2, rfl, rfl⟩
  rintro fr34 h39 ⟨hS40, f35, f36, f37, f38⟩
  simp only [List.drop_succ_cons, List.drop_zero]
  simp only [run_ops_nil, x8_2, f35, run_cond, B0, reduceIte, reduceEqDiff]
  refine cond_split (t := ((!v5.2) || (decide ((80 : Int) < (List.length l_2 : Int))))) (fun hc41 => ?_) (fun hc41 => ?_)
  · rw [iteT hc41] at hF7
    simp only [x8_1, run_seq, run_reg, run_build, evp, B0, reduceIte, reduceEqDiff]
    refine put1_eq (v := .agg [.int .i64 0, .nil, .nil, .nil]) rfl ?_
    simp only [f37, run_st, B0, reduceIte, reduceEqDiff]
    refine put2_stCx (us := [.int .i64 0, .nil, .nil, .nil]) rfl (cs' := [.int .i64 0, .nil, .nil, .nil]) hS40 hW rfl rfl (Nat.le_of_ble_eq_true rfl) rfl (fun h42 hS43 => ?_)
    simp only [run_mv, run_ops_nil, run_ret, B0, reduceIte, reduceEqDiff]
    have he := some_inj hF7
    subst he
    refine end_ret_m (mapM1 (res_cell (bb := b1) (oo := 0) (v := .agg [.int .i64 0, .nil, .nil,
        .nil]) (f37) ((xld_bs (Sep.bk _ _ _ hS43)).trans rfl)) (mapM1 (res_t (v := .nil) (rfl)) (mapM1 (res_t (v := .bool false) (rfl)) mapM0))) ?_
    exact ⟨.nil, [], .nil, [], .nil, [], .nil, [], by first | trivial | rfl, SlN.nil, SlF.nil, SlF.nil, SlF.nil,
        ((Sep.dc ((Sep.dc ((Sep.dc ((Sep.dc ((Sep.dc (hS43)))))))))) : Sep _ (geL h.length) ([]))⟩
  rw [iteF hc41] at hF7
  simp only [run_skip, x8_9, run_seq, run_reg, run_buildS, evp, B0, reduceIte, reduceEqDiff]
  refine put2_buildSF (n := 1) (f := cB) ([] : List Bool) hS40 rfl rfl (fun v44 c45 h46 hv47 hS48 => ?_)
  simp only [run_mv, run_ops_nil, x8_8, run_seq, run_reg, f36, run_len, put1_some, xlen_lst, B0, reduceIte, reduceEqDiff]
  obtain ⟨oc82, hX84, hk85⟩ := jn_some hF7
  simp only [x8_6]
  refine rangeL_j (σ := (List Bool) × Readers_ × (List Reader) × (List Int) × (List Int)) l_2
      (fun i80 x81 s139 => impl_PlayReaders_b1 i80 x81 s139.1 s139.2.1 s139.2.2.1 s139.2.2.2.1 s139.2.2.2.2) (fun s fr' h' => ∃ v67 c68 c72 c75 c78,
      fr' 6 = .ptr b1 0 ∧ fr' 9 = .ptr b25 0 ∧ fr' 11 = v67 ∧ fr' 29 = lst GroupStep.cells l_2 ∧ SlF cB 1 4 v67 s.1 c68 ∧ SlN Reader.R 4 37 v8 s.2.2.1 c72 ∧ SlF cI 1 3 v12 s.2.2.2.1 c75 ∧ SlF cI 1 3 v16 s.2.2.2.2 c78 ∧ Sep h'
      (geL h.length) ([Blk1 b1 [.int .i64 0, .nil, .nil, .nil] 29] ++ ([Blk1 b25 [.int .i64 s.2.1.Generation, v8, v12,
      v16] 29] ++ (c68 ++ (c72 ++ (c75 ++ (c78 ++ ([])))))))) hX84 ⟨v44, c45, c9, c13, c17, f37, f38, rfl, rfl, hv47, hv10, hv14, hv18,
      (Sep.m5 (Sep.m5 (Sep.m3 (Sep.m5 (Sep.m5 (Sep.m5 hS48))))))⟩ (by simp only [B0, reduceIte, reduceEqDiff]) (by simp only [B0, reduceIte,
      reduceEqDiff]) (fun _ _ _ h => h) rfl rfl (fun _ _ _ _ h => h) (fun _ _ _ _ h => h) (fun _ _ _ _ h => h) (by decide) ?_ ?_
  · rintro i80 x81 ⟨s65, s70, s71, s74, s77⟩ fr94 h95 hx101 ⟨v67, c68, c72, c75, c78, f97, f98, f99, f100, hv69, hv73, hv76, hv79,
      hS96⟩ f102 f103 oc83 hF86 hr87 Q88 hN89 hB93 hK90 hR91 hE92
    dsimp only at *
    unfold impl_PlayReaders_b1 at hF86
    simp only [x8_4, run_seq, run_reg, f100, f102, run_ia, B0, reduceIte, reduceEqDiff]
    refine put1_eq (v := .ref (GroupStep.cells x81) 0) (xia_lstN hx101 rfl) ?_
    simp only [run_ld, B0, reduceIte, reduceEqDiff]
    refine put1_eq (v := .agg [.int .i64 x81.Kind, .int .i64 x81.K, .int .i64 x81.Part, .int .i64 x81.N]) rfl ?_
    simp only [run_new, B0, reduceIte, reduceEqDiff]
    refine put2_newC hS96 (fun b104 h105 hS106 => ?_)
    simp only [run_st, B0, reduceIte, reduceEqDiff]
    refine put2_stCx (us := [.int .i64 x81.Kind, .int .i64 x81.K, .int .i64 x81.Part, .int .i64 x81.N]) rfl (cs' := [.int .i64 x81.Kind, .int .i64 x81.K, .int .i64 x81.Part,
        .int .i64 x81.N]) hS106 hW rfl rfl (Nat.le_of_ble_eq_true rfl) rfl (fun h108 hS109 => ?_)
    simp only [run_ops_nil, B0, reduceIte, reduceEqDiff]
    refine frz_stepC hS109 hW (by simp only [B0, reduceIte, reduceEqDiff]) (fun h110 hS111 => ?_)
    simp only [run_frz_nil, x8_3, run_reg, f99, run_mv, run_ld, B0, reduceIte, reduceEqDiff]
    refine put1_eq (v := .agg [.int .i64 x81.Kind, .int .i64 x81.K, .int .i64 x81.Part, .int .i64 x81.N]) rfl ?_
    obtain ⟨v112, hx113, hF114⟩ := bind_some' hF86
    simp only [f98, run_call, B0, reduceIte, reduceEqDiff]
    refine call0 rfl (impl_Readers_step_x hW b25 (Readers_.mk s70.Generation s71 s74 s77) v8 c72 hv73 v12 c75 hv76 v16 c78 hv79 x81 v112 hx113 (Sep.m4 (Sep.m5 (Sep.m5
        (Sep.m5 hS111))))) ?_
    rintro _ h121 ⟨c115, c117, c119, rfl, hv116, hv118, hv120, hS122⟩
    simp only [run_buildS, evp, B0, reduceIte, reduceEqDiff]
    refine put2_buildSF (n := 1) (f := cB) [v112.1] hS122 rfl rfl (fun v123 c124 h125 hv126 hS127 => ?_)
    simp only [run_app, B0, reduceIte, reduceEqDiff]
    obtain ⟨l129, hx130, hF131⟩ := bind_some' hF114
    refine put2_appF (f := cB) hv69 (Sep.m6 hS127) hW (fun _ => rfl) (fun _ => rfl) (SlF.first hv126 hS127 (fun _ => rfl)) hx130 (fun v132 c133 h134 hv135 hS136 => ?_)
    simp only [run_mv, run_ops_nil, run_nil, B0, reduceIte, reduceEqDiff]
    have e138 := some_inj hF131
    exact hN89 _ _ _ e138.symm ⟨v132, c133, c115, c117, c119, f97, f98, rfl, f100, hv135, hv116, hv118, hv120,
        (Sep.m5 (Sep.m4 (Sep.m3 (Sep.m4 (Sep.m4 (Sep.m4 (Sep.dc (Sep.m1 hS136))))))))⟩ (f102) (f103)
  rintro ⟨s140, s145, s146, s149, s152⟩ fr155 h156 rfl ⟨v142, c143, c147, c150, c153, f158, f159, f160, f161, hv144, hv148, hv151, hv154, hS157⟩
  dsimp only [jnO] at hk85
  dsimp only at *
  unfold impl_PlayReaders_j1 at hk85
  simp only [x8_7, run_seq, run_reg, f159, run_ld, B0, reduceIte, reduceEqDiff]
  refine put1_eq (v := .agg [.int .i64 s145.Generation, v8, v12, v16]) ((xld_bs (Sep.bk _ _ _ (Sep.m1 hS157))).trans rfl) ?_
  simp only [f160, run_mv, f158, run_st, B0, reduceIte, reduceEqDiff]
  refine put2_stCx (us := [.int .i64 s145.Generation, v8, v12, v16]) rfl (cs' := [.int .i64 s145.Generation, v8, v12,
      v16]) hS157 hW rfl (all_c rfl (all_c (SlN.one hv148) (all_c (SlF.one hv151) (all_c (SlF.one hv154) all_n)))) (Nat.le_of_ble_eq_true rfl) rfl (fun h162 hS163 => ?_)
  simp only [run_mv, run_ops_nil, run_ret, B0, reduceIte, reduceEqDiff]
  have he := some_inj hk85
  subst he
  refine end_ret_m (mapM1 (res_cell (bb := b1) (oo := 0) (v := .agg [.int .i64 s145.Generation, v8, v12,
      v16]) (f158) ((xld_bs (Sep.bk _ _ _ hS163)).trans rfl)) (mapM1 (res_t (v := v142) (rfl)) (mapM1 (res_t (v := .bool true) (rfl)) mapM0))) ?_
  exact ⟨v8, c147, v12, c150, v16, c153, v142, c143, by first | trivial | rfl, hv148, hv151, hv154, hv144, (Sep.m3 (Sep.m3 (Sep.m3 (Sep.dc ((Sep.dc (hS163)))))))⟩
theorem spec_l1In_x {W : Nat → Bool} {h : Heap} (hW : ∀ b,
    (geL h.length) b → W b = true) (n_0 : Int) (lo_1 : Int) (hi_2 : Int) (r : Bool) (hF : some (spec_l1In n_0 lo_1 hi_2) = some r) : Ret E W 69 [.int .i64 n_0, .int .i64 lo_1,
    .int .i64 hi_2] h (fun v h' => cut h.length h' E.sz false 9 v = some (.bool r)) := by
  refine Ret.of (fn := x69) rfl (Run.of ?_)
  unfold spec_l1In at hF
  have zf0 : argFr [.int .i64 n_0, .int .i64 lo_1, .int .i64 hi_2] 0 = .int .i64 n_0 := rfl
  have zf1 : argFr [.int .i64 n_0, .int .i64 lo_1, .int .i64 hi_2] 1 = .int .i64 lo_1 := rfl
  have zf2 : argFr [.int .i64 n_0, .int .i64 lo_1, .int .i64 hi_2] 2 = .int .i64 hi_2 := rfl
  generalize argFr [.int .i64 n_0, .int .i64 lo_1, .int .i64 hi_2] = fr0 at zf0 zf1 zf2 ⊢
  have hS : Sep h (geL h.length) [] := Sep.nil h
  simp only [x69, run_seq, run_reg, run_mv, run_ops_nil, x69_1, zf0, zf1, run_bin, put1_some, xgeq, B0, reduceIte, reduceEqDiff]
  refine ops_j 4 (fun fr' h' => Sep h' (geL h.length) ([]) ∧ fr' 14 = .bool ((decide (lo_1 ≤ n_0)) && (decide (n_0 ≤ hi_2)))) (fun Q1 hN2 => ?_) ?_
  · simp only [List.take_succ_cons, List.take_zero]
    simp only [run_guard (g := 10), B0, reduceIte, reduceEqDiff]
    refine guard_split (t := (decide (lo_1 ≤ n_0))) (fun hg3 => ?_) (fun hg3 => ?_)
    · simp only [hg3, run_guard (g := 10), guard_true, zf0, run_mv, zf2, run_bin, put1_some, xleq, run_pick, xpick_t, run_ops_nil, run_nil, B0, reduceIte, reduceEqDiff]
      exact hN2 _ _ ⟨hS, by rw [andT hg3]; simp only [B0, reduceIte, reduceEqDiff]⟩
    · simp only [hg3, run_guard (g := 10), guard_off, run_pick, put1_some, xpick_f, run_ops_nil, run_nil, B0, reduceIte, reduceEqDiff]
      exact hN2 _ _ ⟨hS, by rw [andF hg3]; simp only [B0, reduceIte, reduceEqDiff]⟩
  rintro fr4 h6 ⟨hS7, f5⟩
  simp only [List.drop_succ_cons, List.drop_zero]
  simp only [f5, run_mv, run_ops_nil, run_ret, B0, reduceIte, reduceEqDiff]
  have he := some_inj hF
  subst he
  simp only [end_ret1, B0, reduceIte, reduceEqDiff]
  exact rfl
theorem spec_NewReaders_x {W : Nat → Bool} {h : Heap} (hW : ∀ b,
    (geL h.length) b → W b = true) (k : Nat) (readers_0 : Int) (ends_1 : List Int) (r : Readers_ × Bool)
    (hF : spec_NewReaders k readers_0 ends_1 = some r) : Ret E W 47 [.int .i64 readers_0, lst cI ends_1] h (fun v h' => ∃ rv0_1 rc0_1 rv0_2 rc0_2 rv0_3 rc0_3,
    v = .tup [.agg [.int .i64 r.1.Generation, rv0_1, rv0_2, rv0_3],
    .bool r.2] ∧ SlN Reader.R 4 37 rv0_1 r.1.Readers rc0_1 ∧ SlF cI 1 3 rv0_2 r.1.Committed rc0_2 ∧ SlF cI 1 3 rv0_3 r.1.Ends rc0_3 ∧ Sep h' (geL h.length) (rc0_1 ++ (rc0_2 ++
    (rc0_3 ++ ([]))))) := by
  refine Ret.of (fn := x47) rfl (Run.of ?_)
  unfold spec_NewReaders at hF
  have zf0 : argFr [.int .i64 readers_0, lst cI ends_1] 0 = .int .i64 readers_0 := rfl
  have zf1 : argFr [.int .i64 readers_0, lst cI ends_1] 1 = lst cI ends_1 := rfl
  generalize argFr [.int .i64 readers_0, lst cI ends_1] = fr0 at zf0 zf1 ⊢
  have hS : Sep h (geL h.length) [] := Sep.nil h
  simp only [x47, run_seq, run_reg, run_new, B0, reduceIte, reduceEqDiff]
  refine put2_newC hS (fun b1 h2 hS3 => ?_)
  simp only [run_mv, run_ops_nil, x47_15, run_seq, run_reg, zf0, run_call, B0, reduceIte, reduceEqDiff]
  refine call1 rfl (mapM1 snap_int (mapM1 snap_int (mapM1 snap_int mapM0))) (spec_l1In_x (fun b hb => decide_eq_true hb) readers_0 1 5 _ rfl) ?_
  simp only [run_un, put1_some, xnot, run_mv, B0, reduceIte, reduceEqDiff]
  refine ops_j 5 (fun fr' h' => Sep h' (geL h.length) ([Blk1 b1 [.int .i64 0, .nil, .nil,
      .nil] 29] ++ ([])) ∧ fr' 18 = .bool ((!(spec_l1In readers_0 1 5)) || (!(spec_l1In
      (List.length ends_1 : Int) 1 6))) ∧ fr' 0 = .int .i64 readers_0 ∧ fr' 1 = lst cI ends_1 ∧ fr' 4 = .ptr b1 0) (fun Q5 hN6 => ?_) ?_
  · simp only [List.take_succ_cons, List.take_zero]
    simp only [run_guard (g := 13), B0, reduceIte, reduceEqDiff]
    refine guard_split (t := (!(spec_l1In readers_0 1 5))) (fun hg7 => ?_) (fun hg7 => ?_)
    · simp only [hg7, run_guard (g := 13), guard_off', run_pick, put1_some, xpick_t, run_ops_nil, run_nil, B0, reduceIte, reduceEqDiff]
      exact hN6 _ _ ⟨hS3, by rw [orT hg7]; simp only [B0, reduceIte, reduceEqDiff], zf0, zf1, rfl⟩
    · simp only [hg7, run_guard (g := 13), guard_false, zf1, run_mv, run_len, put1_some, xlen_lst, run_call, B0, reduceIte, reduceEqDiff]
      refine call1 rfl (mapM1 snap_int (mapM1 snap_int (mapM1 snap_int mapM0))) (spec_l1In_x (fun b hb => decide_eq_true hb) (List.length ends_1 : Int) 1 6 _ rfl) ?_
      simp only [hg7, run_guard (g := 13), guard_false, run_un, put1_some, xnot, run_pick, xpick_f, run_ops_nil, run_nil, B0, reduceIte, reduceEqDiff]
      exact hN6 _ _ ⟨hS3, by rw [orF hg7]; simp only [B0, reduceIte, reduceEqDiff], zf0, zf1, rfl⟩
  rintro fr8 h13 ⟨hS14, f9, f10, f11, f12⟩
  simp only [List.drop_succ_cons, List.drop_zero]
  simp only [run_ops_nil, x47_1, f9, run_cond, B0, reduceIte, reduceEqDiff]
  refine cond_split (t := ((!(spec_l1In readers_0 1 5)) || (!(spec_l1In (List.length ends_1 : Int) 1 6)))) (fun hc15 => ?_) (fun hc15 => ?_)
  · rw [iteT hc15] at hF
    simp only [run_seq, run_reg, run_build, evp, B0, reduceIte, reduceEqDiff]
    refine put1_eq (v := .agg [.int .i64 0, .nil, .nil, .nil]) rfl ?_
    simp only [f12, run_st, B0, reduceIte, reduceEqDiff]
    refine put2_stCx (us := [.int .i64 0, .nil, .nil, .nil]) rfl (cs' := [.int .i64 0, .nil, .nil, .nil]) hS14 hW rfl rfl (Nat.le_of_ble_eq_true rfl) rfl (fun h16 hS17 => ?_)
    simp only [run_mv, run_ops_nil, run_ret, B0, reduceIte, reduceEqDiff]
    have he := some_inj hF
    subst he
    refine end_ret_m (mapM1 (res_cell (bb := b1) (oo := 0) (v := .agg [.int .i64 0, .nil, .nil,
        .nil]) (f12) ((xld_bs (Sep.bk _ _ _ hS17)).trans rfl)) (mapM1 (res_t (v := .bool false) (rfl)) mapM0)) ?_
    exact ⟨.nil, [], .nil, [], .nil, [], by first | trivial | rfl, SlN.nil, SlF.nil, SlF.nil, ((Sep.dc (hS17)) : Sep _ (geL h.length) ([]))⟩
  rw [iteF hc15] at hF
  simp only [run_skip, x47_14, run_seq, run_reg, f11, run_mv, run_len, put1_some, xlen_lst, run_ops_nil, B0, reduceIte, reduceEqDiff]
  obtain ⟨oc20, hX22, hk23⟩ := jn_some hF
  simp only [x47_6]
  refine rangeL_j (σ := Unit) ends_1 (fun i18 x19 _ => spec_NewReaders_b1 i18 x19 )
      (fun s fr' h' => fr' 0 = .int .i64 readers_0 ∧ fr' 1 = lst cI ends_1 ∧ fr' 4 = .ptr b1 0 ∧ fr' 20 = lst cI ends_1 ∧ Sep h' (geL h.length) ([Blk1 b1 [.int .i64 0, .nil, .nil,
      .nil] 29] ++ ([]))) hX22 ⟨f10, f11, f12, rfl, hS14⟩ (by simp only [B0, reduceIte, reduceEqDiff]) (by simp only [B0, reduceIte,
      reduceEqDiff]) (fun _ _ _ h => h) rfl rfl (fun _ _ _ _ h => h) (fun _ _ _ _ h => h) (fun _ _ _ _ h => h) (by decide) ?_ ?_
  · rintro i18 x19 _ fr32 h33 hx39 ⟨f35, f36, f37, f38, hS34⟩ f40 f41 oc21 hF24 hr25 Q26 hN27 hB31 hK28 hR29 hE30
    unfold spec_NewReaders_b1 at hF24
    simp only [x47_4, run_seq, run_reg, f38, f40, run_ia, B0, reduceIte, reduceEqDiff]
    refine put1_eq (v := .ref (cI x19) 0) (xia_lstN hx39 rfl) ?_
    simp only [run_ld, B0, reduceIte, reduceEqDiff]
    refine put1_eq (v := .int .i64 x19) rfl ?_
    simp only [run_mv, run_ops_nil, x47_3, run_seq, run_reg, run_call, B0, reduceIte, reduceEqDiff]
    refine call1 rfl (mapM1 snap_int (mapM1 snap_int (mapM1 snap_int mapM0))) (spec_l1In_x (fun b hb => decide_eq_true hb) x19 0 100 _ rfl) ?_
    simp only [run_un, put1_some, xnot, run_ops_nil, x47_2, run_cond, B0, reduceIte, reduceEqDiff]
    refine cond_split (t := (!(spec_l1In x19 0 100))) (fun hc42 => ?_) (fun hc42 => ?_)
    · rw [iteT hc42] at hF24
      simp only [run_seq, run_reg, run_build, evp, B0, reduceIte, reduceEqDiff]
      refine put1_eq (v := .agg [.int .i64 0, .nil, .nil, .nil]) rfl ?_
      simp only [f37, run_st, B0, reduceIte, reduceEqDiff]
      refine put2_stCx (us := [.int .i64 0, .nil, .nil, .nil]) rfl (cs' := [.int .i64 0, .nil, .nil, .nil]) hS34 hW rfl rfl (Nat.le_of_ble_eq_true rfl) rfl (fun h43 hS44 => ?_)
      simp only [run_mv, run_ops_nil, run_ret, B0, reduceIte, reduceEqDiff]
      have e45 := some_inj hF24
      subst e45
      have ho46 := hr25 _ rfl
      have hk47 := hk23
      rw [ho46] at hk47
      dsimp only [jnO] at hk47
      apply hR29
      have he := some_inj hk47
      subst he
      refine end_ret_m (mapM1 (res_cell (bb := b1) (oo := 0) (v := .agg [.int .i64 0, .nil, .nil,
          .nil]) (f37) ((xld_bs (Sep.bk _ _ _ hS44)).trans rfl)) (mapM1 (res_t (v := .bool false) (rfl)) mapM0)) ?_
      exact ⟨.nil, [], .nil, [], .nil, [], by first | trivial | rfl, SlN.nil, SlF.nil, SlF.nil, ((Sep.dc (hS44)) : Sep _ (geL h.length) ([]))⟩
    rw [iteF hc42] at hF24
    simp only [run_skip, run_nil, B0, reduceIte, reduceEqDiff]
    have e48 := some_inj hF24
    exact hN27 _ _ _ e48.symm ⟨f35, f36, f37, f38, hS34⟩ (f40) (f41)
  rintro _ fr50 h51 rfl ⟨f53, f54, f55, f56, hS52⟩
  dsimp only [jnO] at hk23
  unfold spec_NewReaders_j2 at hk23
  obtain ⟨l57, hx58, hF59⟩ := bind_some' hk23
  simp only [x47_13, run_seq, run_draw, f54, d1_mv, put1d_some, d1_len, xlen_lst, d1_mkS, B0, reduceIte, reduceEqDiff]
  refine put2d_mkSF (f := cI) (z := (0 : Int)) hS52 hx58 rfl (fun v60 c61 h62 hv63 hS64 => ?_)
  simp only [d4_buildS, evp, B0, reduceIte, reduceEqDiff]
  refine put2d_buildSF (n := 1) (f := cI) ([] : List Int) hS64 rfl rfl (fun v66 c67 h68 hv69 hS70 => ?_)
  simp only [d1_new, B0, reduceIte, reduceEqDiff]
  refine put2d_newC hS70 (fun b72 h73 hS74 => ?_)
  simp only [f54, d4_mv, put1d_some, d3_app, B0, reduceIte, reduceEqDiff]
  obtain ⟨l76, hx77, hF78⟩ := bind_some' hF59
  refine put2d_appF (f := cI) hv69 (Sep.m1 hS74) hW (fun _ => rfl) (fun _ => rfl) (firstOf_lst (fun _ => rfl)) hx77 (fun v79 c80 h81 hv82 hS83 => ?_)
  simp only [d4_build, evp, B0, reduceIte, reduceEqDiff]
  refine put1d_eq (v := .agg [.int .i64 0, .nil, v60, v79]) (pbuild_some (fill1 (us := [v60]) (vs := [.int .i64 0, .nil, v60,
      .nil]) (cells_one (SlF.one hv63)) rfl (Nat.le_of_ble_eq_true rfl) (all_c (SlF.one hv63) all_n) rfl (fill1 (us := [v79]) (vs := [.int .i64 0, .nil, v60,
      v79]) (cells_one (SlF.one hv82)) rfl (Nat.le_of_ble_eq_true rfl) (all_c (SlF.one hv82) all_n) rfl fill0))) ?_
  simp only [d3_st, B0, reduceIte, reduceEqDiff]
  refine put2d_stCx (us := [.int .i64 0, .nil, v60, v79]) rfl (cs' := [.int .i64 0, .nil, v60,
      v79]) (Sep.m1 hS83) hW rfl (all_c rfl (all_c rfl (all_c (SlF.one hv63) (all_c (SlF.one hv82) all_n)))) (Nat.le_of_ble_eq_true rfl) rfl (fun h85 hS86 => ?_)
  simp only [run_draw_nil, x47_12, run_seq, run_reg, run_mv, run_ops_nil, B0, reduceIte, reduceEqDiff]
  obtain ⟨oc101, hX103, hk104⟩ := jn_some hF78
  simp only [x47_11]
  refine loopF_j (σ := Int × Readers_) (fun s151 => spec_NewReaders_b2 readers_0 ends_1 l57 l76 s151.1 s151.2) (fun s fr' h' => ∃ v96 c97,
      fr' 0 = .int .i64 readers_0 ∧ fr' 1 = lst cI ends_1 ∧ fr' 4 = .ptr b1 0 ∧ fr' 8 = .ptr b72 0 ∧ fr' 9 = .int .i64 s.1 ∧ SlN Reader.R 4 37 v96 s.2.Readers c97 ∧ Sep h'
      (geL h.length) ([Blk1 b1 [.int .i64 0, .nil, .nil, .nil] 29] ++ ([Blk1 b72 [.int .i64 s.2.Generation, v96, v60, v79] 29] ++ (c97 ++ (c61 ++ (c80 ++ ([]))))))) hX103 ⟨.nil,
      [], f53, f54, f55, rfl, rfl, SlN.nil, ((Sep.m3 (Sep.m2 (Sep.m2 (Sep.m1 hS86)))) : Sep _ (geL h.length) ([Blk1 b1 [.int .i64 0, .nil, .nil,
      .nil] 29] ++ ([Blk1 b72 [.int .i64 0, .nil, v60, v79] 29] ++ (c61 ++ (c80 ++ ([]))))))⟩ (fun _ _ _ h => h) ?_ ?_
  · rintro ⟨s93, s94⟩ fr113 h114 ⟨v96, c97, f116, f117, f118, f119, f120, hv98, hS115⟩ oc102 hF105 hr106 Q107 hN108 hK109 hR110 hE111
    dsimp only at *
    unfold spec_NewReaders_b2 at hF105
    simp only [x47_9, run_seq, run_reg, f120, run_mv, f116, run_bin, put1_some, xlss, run_ops_nil, run_cond, B0, reduceIte, reduceEqDiff]
    refine cond_split (t := (decide (s93 < readers_0))) (fun hc122 => ?_) (fun hc122 => ?_)
    · rw [iteT hc122] at hF105
      simp only [run_skip, x47_8, run_seq, run_block, x47_7, run_draw, f119, d4_fa, put1d_some, Nat.reduceAdd, Nat.zero_add, Nat.add_zero, xfa_ptr, d4_ld, B0, reduceIte,
          reduceEqDiff]
      refine put1d_eq (v := v96) ((xld_b (Sep.bk _ _ _ (Sep.m1 hS115))).trans rfl) ?_
      obtain ⟨l123, hx124, hF125⟩ := bind_some' hF105
      simp only [f117, d4_mv, put1d_some, d4_len, xlen_lst, d4_mkS, B0, reduceIte, reduceEqDiff]
      refine put2d_mkSF (f := cI) (z := (0 : Int)) hS115 hx124 rfl (fun v126 c127 h128 hv129 hS130 => ?_)
      simp only [d4_build, evp, B0, reduceIte, reduceEqDiff]
      refine put1d_eq (v := .agg [.bool false, .int .i64 0, .nil, v126]) (pbuild_some (fill1 (us := [v126]) (vs := [.bool false, .int .i64 0, .nil,
          v126]) (cells_one (SlF.one hv129)) rfl (Nat.le_of_ble_eq_true rfl) (all_c (SlF.one hv129) all_n) rfl fill0)) ?_
      simp only [d4_buildS, evp, B0, reduceIte, reduceEqDiff]
      refine put2d_buildSN (R := Reader.R) (n := 4) (cs := [.bool false, .int .i64 0, .nil,
          v126]) (os := [] ++ (c127)) (Sep.bi2 (c1 := []) (c2 := c127) (S := ([Blk1 b1 [.int .i64 0, .nil, .nil, .nil] 29] ++ ([Blk1 b72 [.int .i64 s94.Generation, v96, v60,
          v79] 29] ++ (c97 ++ (c61 ++ (c80 ++ ([]))))))) (hS130 : Sep _ (geL h.length) (c127 ++ ([Blk1 b1 [.int .i64 0, .nil, .nil,
          .nil] 29] ++ ([Blk1 b72 [.int .i64 s94.Generation, v96, v60, v79] 29] ++ (c97 ++ (c61 ++ (c80 ++ ([]))))))))) (fill1 (us := [.bool false, .int .i64 0, .nil,
          v126]) (vs := [.bool false, .int .i64 0, .nil,
          v126]) rfl rfl (Nat.le_of_ble_eq_true rfl) (all_c rfl (all_c rfl (all_c rfl (all_c (SlF.one hv129) all_n)))) rfl fill0) (Reader.RI (x :=
          (Reader.mk false 0 [] l123)) SlF.nil hv129) rfl (fun v132 c133 h134 hv135 hS136 => ?_)
      simp only [d3_app, B0, reduceIte, reduceEqDiff]
      obtain ⟨l138, hx139, hF140⟩ := bind_some' hF125
      refine put2d_appN (R := Reader.R) (c := c97) hv98 hv135 (Sep.m3 hS136) hW Reader.RO.len Reader.RO.one hx139 (fun v141 c142 h143 hv144 hS145 => ?_)
      simp only [f119, d4_fa, put1d_some, Nat.reduceAdd, Nat.zero_add, Nat.add_zero, xfa_ptr, d3_st, B0, reduceIte, reduceEqDiff]
      refine put2d_stCx (us := [v141]) (cells_one (SlN.one hv144)) (cs' := [.int .i64 s94.Generation, v141, v60,
          v79]) (Sep.m2 hS145) hW rfl (all_c (SlN.one hv144) all_n) (Nat.le_of_ble_eq_true rfl) rfl (fun h147 hS148 => ?_)
      simp only [run_draw_nil, run_blk, run_reg, f120, run_mv, run_bin, put1_some, xadd, run_ops_nil, run_nil, B0, reduceIte, reduceEqDiff]
      have e149 := some_inj hF140
      exact hN108 _ _ _ e149.symm ⟨v141, c142, f116, f117, f118, f119, rfl, hv144, (Sep.m4 (Sep.m3 (Sep.m3 (Sep.m4 (Sep.m4 hS148)))))⟩
    rw [iteF hc122] at hF105
    simp only [run_exit, out_code, out_nil, B0, reduceIte, reduceEqDiff]
    have e150 := some_inj hF105
    exact hK109 _ _ _ e150.symm ⟨v96, c97, f116, f117, f118, f119, f120, hv98, (Sep.m4 (Sep.m4 (Sep.m4 (Sep.m4 (Sep.m4 hS115)))))⟩
  rintro ⟨s152, s153⟩ fr158 h159 rfl ⟨v155, c156, f161, f162, f163, f164, f165, hv157, hS160⟩
  dsimp only [jnO] at hk104
  dsimp only at *
  unfold spec_NewReaders_j1 at hk104
  simp only [run_seq, run_reg, f164, run_ld, B0, reduceIte, reduceEqDiff]
  refine put1_eq (v := .agg [.int .i64 s153.Generation, v155, v60, v79]) ((xld_bs (Sep.bk _ _ _ (Sep.m1 hS160))).trans rfl) ?_
  simp only [f163, run_st, B0, reduceIte, reduceEqDiff]
  refine put2_stCx (us := [.int .i64 s153.Generation, v155, v60, v79]) rfl (cs' := [.int .i64 s153.Generation, v155, v60,
      v79]) hS160 hW rfl (all_c rfl (all_c (SlN.one hv157) (all_c (SlF.one hv63) (all_c (SlF.one hv82) all_n)))) (Nat.le_of_ble_eq_true rfl) rfl (fun h166 hS167 => ?_)
  simp only [run_mv, run_ops_nil, run_ret, B0, reduceIte, reduceEqDiff]
  have he := some_inj hk104
  subst he
  refine end_ret_m (mapM1 (res_cell (bb := b1) (oo := 0) (v := .agg [.int .i64 s153.Generation, v155, v60,
      v79]) (f163) ((xld_bs (Sep.bk _ _ _ hS167)).trans rfl)) (mapM1 (res_t (v := .bool true) (rfl)) mapM0)) ?_
  exact ⟨v155, c156, v60, c61, v79, c80, by first | trivial | rfl, hv157, hv63, hv82, (Sep.m2 (Sep.m2 (Sep.m2 (Sep.dc ((Sep.dc (hS167)))))))⟩
theorem spec_l14Share_x {W : Nat → Bool} {h : Heap} (hW : ∀ b,
    (geL h.length) b → W b = true) (r_0 : Readers_) (k_1 : Int) (r : List Int) (hF : spec_l14Share r_0 k_1 = some r) : Ret E W 73 [.agg [.int .i64 r_0.Generation,
    lst Reader.cells r_0.Readers, lst cI r_0.Committed, lst cI r_0.Ends], .int .i64 k_1] h (fun v h' => ∃ rv0 rc0,
    v = rv0 ∧ SlF cI 1 3 rv0 r rc0 ∧ Sep h' (geL h.length) (rc0 ++ ([]))) := by
  refine Ret.of (fn := x73) rfl (Run.of ?_)
  unfold spec_l14Share at hF
  have zf0 : argFr [.agg [.int .i64 r_0.Generation, lst Reader.cells r_0.Readers, lst cI r_0.Committed, lst cI r_0.Ends], .int .i64 k_1] 0 = .agg [.int .i64 r_0.Generation,
      lst Reader.cells r_0.Readers, lst cI r_0.Committed, lst cI r_0.Ends] := rfl
  have zf1 : argFr [.agg [.int .i64 r_0.Generation, lst Reader.cells r_0.Readers, lst cI r_0.Committed, lst cI r_0.Ends], .int .i64 k_1] 1 = .int .i64 k_1 := rfl
  generalize argFr [.agg [.int .i64 r_0.Generation, lst Reader.cells r_0.Readers, lst cI r_0.Committed, lst cI r_0.Ends], .int .i64 k_1] = fr0 at zf0 zf1 ⊢
  have hS : Sep h (geL h.length) [] := Sep.nil h
  simp only [x73, run_seq, run_reg, run_box, zf0, B0, reduceIte, reduceEqDiff]
  refine put2_boxC (cs := [.int .i64 r_0.Generation, lst Reader.cells r_0.Readers, lst cI r_0.Committed, lst cI r_0.Ends]) hS rfl rfl rfl (fun b1 h2 hS3 => ?_)
  simp only [run_mv, run_ops_nil, B0, reduceIte, reduceEqDiff]
  refine frz_stepC hS3 hW (by simp only [B0, reduceIte, reduceEqDiff]) (fun h5 hS6 => ?_)
  simp only [run_frz_nil, x73_18, run_seq, run_reg, run_mv, run_ops_nil, x73_17, x73_16, run_fa, put1_some, Nat.reduceAdd, Nat.zero_add, Nat.add_zero, xfa_ref, run_ld, B0,
      reduceIte, reduceEqDiff]
  refine put1_eq (v := lst Reader.cells r_0.Readers) rfl ?_
  simp only [run_len, put1_some, xlen_lst, run_mv, run_ops_nil, B0, reduceIte, reduceEqDiff]
  obtain ⟨oc14, hX16, hk17⟩ := jn_some hF
  simp only [x73_7]
  refine rangeL_j (σ := Int × Int) r_0.Readers (fun i12 x13 s71 => spec_l14Share_b1 k_1 i12 x13 s71.1 s71.2)
      (fun s fr' h' => fr' 1 = .int .i64 k_1 ∧ fr' 2 = .ref [.int .i64 r_0.Generation, lst Reader.cells r_0.Readers, lst cI r_0.Committed,
      lst cI r_0.Ends] 0 ∧ fr' 5 = .int .i64 s.1 ∧ fr' 6 = .int .i64 s.2 ∧ fr' 12 = lst Reader.cells r_0.Readers ∧ Sep h' (geL h.length) ([])) hX16 ⟨zf1, rfl, rfl, rfl, rfl,
      hS6⟩ (by simp only [B0, reduceIte, reduceEqDiff]) (by simp only [B0, reduceIte,
      reduceEqDiff]) (fun _ _ _ h => h) rfl rfl (fun _ _ _ _ h => h) (fun _ _ _ _ h => h) (fun _ _ _ _ h => h) (by decide) ?_ ?_
  · rintro i12 x13 ⟨s10, s11⟩ fr26 h27 hx34 ⟨f29, f30, f31, f32, f33, hS28⟩ f35 f36 oc15 hF18 hr19 Q20 hN21 hB25 hK22 hR23 hE24
    dsimp only at *
    unfold spec_l14Share_b1 at hF18
    simp only [x73_5, run_seq, run_reg, f35, run_mv, f33, run_ia, B0, reduceIte, reduceEqDiff]
    refine put1_eq (v := .ref (Reader.cells x13) 0) (xia_lstN hx34 rfl) ?_
    simp only [run_ld, B0, reduceIte, reduceEqDiff]
    refine put1_eq (v := .agg [.bool x13.In, .int .i64 x13.Generation, lst cI x13.Share, lst cI x13.Read]) rfl ?_
    simp only [run_new, B0, reduceIte, reduceEqDiff]
    refine put2_newC hS28 (fun b37 h38 hS39 => ?_)
    simp only [run_mv, run_st, B0, reduceIte, reduceEqDiff]
    refine put2_stCx (us := [.bool x13.In, .int .i64 x13.Generation, lst cI x13.Share, lst cI x13.Read]) rfl (cs' := [.bool x13.In, .int .i64 x13.Generation, lst cI x13.Share,
        lst cI x13.Read]) hS39 hW rfl rfl (Nat.le_of_ble_eq_true rfl) rfl (fun h41 hS42 => ?_)
    simp only [run_ops_nil, B0, reduceIte, reduceEqDiff]
    refine frz_stepC hS42 hW (by simp only [B0, reduceIte, reduceEqDiff]) (fun h43 hS44 => ?_)
    simp only [run_frz_nil, x73_4, run_seq, run_reg, run_mv, f29, run_bin, put1_some, xeql, run_ops_nil, x73_1, run_cond, B0, reduceIte, reduceEqDiff]
    obtain ⟨s45, hX47, hk48⟩ := bind_some' hF18
    refine cond_j (t := (decide ((i12 : Int) = k_1))) (fun fr' h' => fr' 1 = .int .i64 k_1 ∧ fr' 2 = .ref [.int .i64 r_0.Generation, lst Reader.cells r_0.Readers,
        lst cI r_0.Committed, lst cI r_0.Ends] 0 ∧ fr' 5 = .int .i64 s10 ∧ fr' 6 = .int .i64 s45 ∧ fr' 8 = .ref [.bool x13.In, .int .i64 x13.Generation, lst cI x13.Share,
        lst cI x13.Read] 0 ∧ fr' 12 = lst Reader.cells r_0.Readers ∧ fr' 13 = .int .i64 (List.length r_0.Readers : Int) ∧ fr' 14 = .int .i64 (i12 : Int) ∧ Sep h' (geL h.length)
        ([])) (fun Q49 hN50 hR51 hE52 => ⟨fun hc53 => ?_, fun hc53 => ?_⟩) ?_
    · rw [iteT hc53] at hX47
      simp only [run_reg, f31, run_mv, run_ops_nil, run_nil, B0, reduceIte, reduceEqDiff]
      have e54 := some_inj hX47
      subst e54
      exact hN50 _ _ ⟨f29, f30, f31, rfl, rfl, f33, f36, f35, hS44⟩
    · rw [iteF hc53] at hX47
      simp only [run_skip, run_nil, B0, reduceIte, reduceEqDiff]
      have e55 := some_inj hX47
      subst e55
      exact hN50 _ _ ⟨f29, f30, f31, f32, rfl, f33, f36, f35, hS44⟩
    rintro fr56 h57 ⟨f59, f60, f61, f62, f63, f64, f65, f66, hS58⟩
    unfold spec_l14Share_j1 at hk48
    simp only [x73_3, run_seq, run_reg, f63, run_fa, put1_some, Nat.reduceAdd, Nat.zero_add, Nat.add_zero, xfa_ref, run_ld, B0, reduceIte, reduceEqDiff]
    refine put1_eq (v := .bool x13.In) rfl ?_
    simp only [run_ops_nil, x73_2, run_cond, B0, reduceIte, reduceEqDiff]
    refine cond_split (t := x13.In) (fun hc67 => ?_) (fun hc67 => ?_)
    · rw [iteT hc67] at hk48
      simp only [run_reg, f61, run_mv, run_bin, put1_some, xadd, run_ops_nil, run_nil, B0, reduceIte, reduceEqDiff]
      have e68 := some_inj hk48
      exact hN21 _ _ _ e68.symm ⟨f59, f60, rfl, f62, f64, hS58⟩ (f66) (f65)
    rw [iteF hc67] at hk48
    simp only [run_skip, run_nil, B0, reduceIte, reduceEqDiff]
    have e69 := some_inj hk48
    exact hN21 _ _ _ e69.symm ⟨f59, f60, f61, f62, f64, hS58⟩ (f66) (f65)
  rintro ⟨s72, s73⟩ fr74 h75 rfl ⟨f77, f78, f79, f80, f81, hS76⟩
  dsimp only [jnO] at hk17
  dsimp only at *
  unfold spec_l14Share_j3 at hk17
  simp only [x73_15, run_seq, run_reg, run_mv, run_ops_nil, x73_14, f78, run_fa, put1_some, Nat.reduceAdd, Nat.zero_add, Nat.add_zero, xfa_ref, run_ld, B0, reduceIte, reduceEqDiff]
  refine put1_eq (v := lst cI r_0.Ends) rfl ?_
  simp only [run_len, put1_some, xlen_lst, run_mv, run_ops_nil, B0, reduceIte, reduceEqDiff]
  obtain ⟨oc94, hX96, hk97⟩ := jn_some hk17
  simp only [x73_13]
  refine rangeN_j (σ := (List Int)) (fun i92 s153 => spec_l14Share_b2 s72 s73 i92 s153) (fun s fr' h' => ∃ v89 c90,
      fr' 5 = .int .i64 s72 ∧ fr' 6 = .int .i64 s73 ∧ fr' 9 = v89 ∧ SlF cI 1 3 v89 s c90 ∧ Sep h' (geL h.length) (c90 ++ ([]))) hX96 ⟨.nil, [], f79, f80, rfl, SlF.nil,
      (hS76 : Sep _ (geL h.length) ([]))⟩ (by simp only [B0, reduceIte, reduceEqDiff]) (by simp only [B0, reduceIte,
      reduceEqDiff]) (fun _ _ _ h => h) rfl rfl (fun _ _ _ _ h => h) (fun _ _ _ _ h => h) (fun _ _ _ _ h => h) (by decide) ?_ ?_
  · rintro i92 s87 fr106 h107 hx112 ⟨v89, c90, f109, f110, f111, hv91, hS108⟩ f113 f114 oc95 hF98 hr99 Q100 hN101 hB105 hK102 hR103 hE104
    unfold spec_l14Share_b2 at hF98
    simp only [x73_11, run_seq, run_reg, f113, run_mv, run_ops_nil, x73_10, f109, run_bin, put1_some, xgtr, B0, reduceIte, reduceEqDiff]
    obtain ⟨v118, hx119, hF120⟩ := bind_some' hF98
    refine ops_j 6 (fun fr' h' => Sep h' (geL h.length) (c90 ++ ([])) ∧ fr' 42 = .bool v118 ∧ fr' 5 = .int .i64 s72 ∧ fr' 6 = .int .i64 s73 ∧ fr' 9 = v89 ∧ fr' 10 = .int .i64
        (i92 : Int) ∧ fr' 30 = .int .i64 (List.length r_0.Ends : Int) ∧ fr' 31 = .int .i64 (i92 : Int)) (fun Q115 hN116 => ?_) ?_
    · simp only [List.take_succ_cons, List.take_zero]
      simp only [run_guard (g := 36), B0, reduceIte, reduceEqDiff]
      refine guard_split (t := (decide ((0 : Int) < s72))) (fun hg117 => ?_) (fun hg117 => ?_)
      · rw [iteT hg117] at hx119
        obtain ⟨hp121, hF122⟩ := ck_some hx119
        simp only [hg117, run_guard (g := 36), guard_true, run_mv, f109, run_bin, put1_some, xrem_nz (n := s72) hp121, f110, xeql, run_pick, xpick_t, run_ops_nil, run_nil, B0,
            reduceIte, reduceEqDiff]
        have e123 := some_inj hF122
        exact hN116 _ _ ⟨hS108, by rw [← e123]; simp only [B0, reduceIte, reduceEqDiff], f109, f110, f111, rfl, f114, f113⟩
      · rw [iteF hg117] at hx119
        simp only [hg117, run_guard (g := 36), guard_off, run_pick, put1_some, xpick_f, run_ops_nil, run_nil, B0, reduceIte, reduceEqDiff]
        have e124 := some_inj hx119
        exact hN116 _ _ ⟨hS108, by rw [← e124]; simp only [B0, reduceIte, reduceEqDiff], f109, f110, f111, rfl, f114, f113⟩
    rintro fr125 h133 ⟨hS134, f126, f127, f128, f129, f130, f131, f132⟩
    simp only [List.drop_succ_cons, List.drop_zero]
    simp only [run_ops_nil, x73_9, f126, run_cond, B0, reduceIte, reduceEqDiff]
    refine cond_split (t := v118) (fun hc135 => ?_) (fun hc135 => ?_)
    · rw [iteT hc135] at hF120
      simp only [x73_8, run_reg, f129, run_mv, f130, run_buildS, evp, B0, reduceIte, reduceEqDiff]
      refine put2_buildSF (n := 1) (f := cI) [(i92 : Int)] hS134 rfl rfl (fun v136 c137 h138 hv139 hS140 => ?_)
      simp only [run_app, B0, reduceIte, reduceEqDiff]
      obtain ⟨l142, hx143, hF144⟩ := bind_some' hF120
      refine put2_appF (f := cI) hv91 (Sep.m1 hS140) hW (fun _ => rfl) (fun _ => rfl) (SlF.first hv139 hS140 (fun _ => rfl)) hx143 (fun v145 c146 h147 hv148 hS149 => ?_)
      simp only [run_mv, run_ops_nil, run_nil, B0, reduceIte, reduceEqDiff]
      have e151 := some_inj hF144
      exact hN101 _ _ _ e151.symm ⟨v145, c146, f127, f128, rfl, hv148, (Sep.dc (Sep.m1 hS149))⟩ (f132) (f131)
    rw [iteF hc135] at hF120
    simp only [run_skip, run_nil, B0, reduceIte, reduceEqDiff]
    have e152 := some_inj hF120
    exact hN101 _ _ _ e152.symm ⟨v89, c90, f127, f128, f129, hv91, hS134⟩ (f132) (f131)
  rintro s154 fr159 h160 rfl ⟨v156, c157, f162, f163, f164, hv158, hS161⟩
  dsimp only [jnO] at hk97
  unfold spec_l14Share_j2 at hk97
  simp only [run_seq, run_reg, f164, run_mv, run_ops_nil, run_ret, B0, reduceIte, reduceEqDiff]
  have he := some_inj hk97
  subst he
  simp only [end_ret1, B0, reduceIte, reduceEqDiff]
  exact ⟨v156, c157, by first | trivial | rfl, hv158, hS161⟩
theorem spec_l1Has_x {W : Nat → Bool} {h : Heap} (hW : ∀ b,
    (geL h.length) b → W b = true) (l_0 : List Int) (n_1 : Int) (r : Bool) (hF : spec_l1Has l_0 n_1 = some r) : Ret E W 74 [lst cI l_0,
    .int .i64 n_1] h (fun v h' => cut h.length h' E.sz false 9 v = some (.bool r)) := by
  refine Ret.of (fn := x74) rfl (Run.of ?_)
  unfold spec_l1Has at hF
  have zf0 : argFr [lst cI l_0, .int .i64 n_1] 0 = lst cI l_0 := rfl
  have zf1 : argFr [lst cI l_0, .int .i64 n_1] 1 = .int .i64 n_1 := rfl
  generalize argFr [lst cI l_0, .int .i64 n_1] = fr0 at zf0 zf1 ⊢
  have hS : Sep h (geL h.length) [] := Sep.nil h
  simp only [x74, run_seq, run_reg, run_mv, run_ops_nil, x74_5, zf0, run_len, put1_some, xlen_lst, B0, reduceIte, reduceEqDiff]
  obtain ⟨oc3, hX5, hk6⟩ := jn_some hF
  simp only [x74_4]
  refine rangeL_j (σ := Unit) l_0 (fun i1 x2 _ => spec_l1Has_b1 n_1 i1 x2 ) (fun s fr' h' => fr' 1 = .int .i64 n_1 ∧ fr' 7 = lst cI l_0 ∧ Sep h' (geL h.length) ([])) hX5 ⟨zf1,
      rfl, hS⟩ (by simp only [B0, reduceIte, reduceEqDiff]) (by simp only [B0, reduceIte,
      reduceEqDiff]) (fun _ _ _ h => h) rfl rfl (fun _ _ _ _ h => h) (fun _ _ _ _ h => h) (fun _ _ _ _ h => h) (by decide) ?_ ?_
  · rintro i1 x2 _ fr15 h16 hx20 ⟨f18, f19, hS17⟩ f21 f22 oc4 hF7 hr8 Q9 hN10 hB14 hK11 hR12 hE13
    unfold spec_l1Has_b1 at hF7
    simp only [x74_2, run_seq, run_reg, f19, f21, run_ia, B0, reduceIte, reduceEqDiff]
    refine put1_eq (v := .ref (cI x2) 0) (xia_lstN hx20 rfl) ?_
    simp only [run_ld, B0, reduceIte, reduceEqDiff]
    refine put1_eq (v := .int .i64 x2) rfl ?_
    simp only [run_mv, run_ops_nil, x74_1, run_seq, run_reg, f18, run_bin, put1_some, xeql, run_cond, B0, reduceIte, reduceEqDiff]
    refine cond_split (t := (decide (x2 = n_1))) (fun hc23 => ?_) (fun hc23 => ?_)
    · rw [iteT hc23] at hF7
      simp only [run_seq, run_reg, run_mv, run_ops_nil, run_ret, B0, reduceIte, reduceEqDiff]
      have e24 := some_inj hF7
      subst e24
      have ho25 := hr8 _ rfl
      have hk26 := hk6
      rw [ho25] at hk26
      dsimp only [jnO] at hk26
      apply hR12
      have he := some_inj hk26
      subst he
      simp only [end_ret1, B0, reduceIte, reduceEqDiff]
      exact rfl
    rw [iteF hc23] at hF7
    simp only [run_skip, run_nil, B0, reduceIte, reduceEqDiff]
    have e27 := some_inj hF7
    exact hN10 _ _ _ e27.symm ⟨f18, f19, hS17⟩ (f21) (f22)
  rintro _ fr29 h30 rfl ⟨f32, f33, hS31⟩
  dsimp only [jnO] at hk6
  unfold spec_l1Has_j1 at hk6
  simp only [run_seq, run_reg, run_mv, run_ops_nil, run_ret, B0, reduceIte, reduceEqDiff]
  have he := some_inj hk6
  subst he
  simp only [end_ret1, B0, reduceIte, reduceEqDiff]
  exact rfl
end Go.Proofs.Ytdhibknhejhfaaa.X
namespace Go.Proofs.Ytdhibknhejhfaaa.X
open Go
open Nat (reduceEqDiff)
theorem spec_l14Step_x {W : Nat → Bool} {h : Heap} {lo : Nat → Prop} {S0 : List Obj} (hW : ∀ b,
    lo b → W b = true) (v_0 : Readers_) (pv0_1 : XV) (pc0_1 : List Obj) (ph0_1 : SlN Reader.R 4 37 pv0_1 v_0.Readers pc0_1) (pv0_2 : XV) (pc0_2 : List Obj)
    (ph0_2 : SlF cI 1 3 pv0_2 v_0.Committed pc0_2) (pv0_3 : XV) (pc0_3 : List Obj) (ph0_3 : SlF cI 1 3 pv0_3 v_0.Ends pc0_3) (v_1 : GroupStep) (r : Readers_ × Bool)
    (hF : spec_l14Step v_0 v_1 = some r) (hS : Sep h lo (pc0_1 ++ (pc0_2 ++ (pc0_3 ++ (S0))))) : Ret E W 53 [.agg [.int .i64 v_0.Generation, pv0_1, pv0_2, pv0_3],
    .agg [.int .i64 v_1.Kind, .int .i64 v_1.K, .int .i64 v_1.Part, .int .i64 v_1.N]] h (fun v h' => ∃ rc0_1 rc0_2 rc0_3, v = .tup [.agg [.int .i64 r.1.Generation, pv0_1, pv0_2,
    pv0_3], .bool r.2] ∧ SlN Reader.R 4 37 pv0_1 r.1.Readers rc0_1 ∧ SlF cI 1 3 pv0_2 r.1.Committed rc0_2 ∧ SlF cI 1 3 pv0_3 r.1.Ends rc0_3 ∧ Sep h' lo (rc0_1 ++ (rc0_2 ++
    (rc0_3 ++ (S0))))) := by
  refine Ret.of (fn := x53) rfl (Run.of ?_)
  unfold spec_l14Step at hF
  have zf0 : argFr [.agg [.int .i64 v_0.Generation, pv0_1, pv0_2, pv0_3], .agg [.int .i64 v_1.Kind, .int .i64 v_1.K, .int .i64 v_1.Part,
      .int .i64 v_1.N]] 0 = .agg [.int .i64 v_0.Generation, pv0_1, pv0_2, pv0_3] := rfl
  have zf1 : argFr [.agg [.int .i64 v_0.Generation, pv0_1, pv0_2, pv0_3], .agg [.int .i64 v_1.Kind, .int .i64 v_1.K, .int .i64 v_1.Part,
      .int .i64 v_1.N]] 1 = .agg [.int .i64 v_1.Kind, .int .i64 v_1.K, .int .i64 v_1.Part, .int .i64 v_1.N] := rfl
  generalize argFr [.agg [.int .i64 v_0.Generation, pv0_1, pv0_2, pv0_3], .agg [.int .i64 v_1.Kind, .int .i64 v_1.K, .int .i64 v_1.Part, .int .i64 v_1.N]] = fr0 at zf0 zf1 ⊢
  simp only [x53, run_seq, run_reg, run_box, zf0, B0, reduceIte, reduceEqDiff]
  refine put2_boxC (cs := [.int .i64 v_0.Generation, pv0_1, pv0_2,
      pv0_3]) hS rfl rfl (all_c rfl (all_c (SlN.one ph0_1) (all_c (SlF.one ph0_2) (all_c (SlF.one ph0_3) all_n)))) (fun b1 h2 hS3 => ?_)
  simp only [run_box, zf1, B0, reduceIte, reduceEqDiff]
  refine put2_boxC (cs := [.int .i64 v_1.Kind, .int .i64 v_1.K, .int .i64 v_1.Part, .int .i64 v_1.N]) hS3 rfl rfl rfl (fun b5 h6 hS7 => ?_)
  simp only [run_new, B0, reduceIte, reduceEqDiff]
  refine put2_newC hS7 (fun b9 h10 hS11 => ?_)
  simp only [run_mv, run_ops_nil, B0, reduceIte, reduceEqDiff]
  refine frz_stepC (Sep.m1 hS11) hW (by simp only [B0, reduceIte, reduceEqDiff]) (fun h13 hS14 => ?_)
  simp only [run_frz_nil, x53_36, run_seq, run_reg, run_fa, put1_some, Nat.reduceAdd, Nat.zero_add, Nat.add_zero, xfa_ref, run_ld, B0, reduceIte, reduceEqDiff]
  refine put1_eq (v := .int .i64 v_1.K) rfl ?_
  simp only [run_bin, put1_some, xlss, run_mv, B0, reduceIte, reduceEqDiff]
  refine ops_j 7 (fun fr' h' => Sep h' lo ([Blk1 b1 [.int .i64 v_0.Generation, pv0_1, pv0_2, pv0_3] 29] ++ ([Blk1 b9 [.int .i64 0, .nil, .nil,
      .nil] 29] ++ (pc0_1 ++ (pc0_2 ++ (pc0_3 ++ (S0)))))) ∧ fr' 19 = .bool ((decide (v_1.K < 0)) || (decide
      ((List.length v_0.Readers : Int) ≤ v_1.K))) ∧ fr' 2 = .ptr b1 0 ∧ fr' 3 = .ref [.int .i64 v_1.Kind, .int .i64 v_1.K, .int .i64 v_1.Part,
      .int .i64 v_1.N] 0 ∧ fr' 4 = .ptr b9 0) (fun Q15 hN16 => ?_) ?_
  · simp only [List.take_succ_cons, List.take_zero]
    simp only [run_guard (g := 12), B0, reduceIte, reduceEqDiff]
    refine guard_split (t := (decide (v_1.K < 0))) (fun hg17 => ?_) (fun hg17 => ?_)
    · simp only [hg17, run_guard (g := 12), guard_off', run_pick, put1_some, xpick_t, run_ops_nil, run_nil, B0, reduceIte, reduceEqDiff]
      exact hN16 _ _ ⟨(Sep.m4 (Sep.m3 (Sep.m4 (Sep.m4 (Sep.m4 hS14))))), by rw [orT hg17]; simp only [B0, reduceIte, reduceEqDiff], rfl, rfl, rfl⟩
    · simp only [hg17, run_guard (g := 12), guard_false, run_fa, put1_some, Nat.reduceAdd, Nat.zero_add, Nat.add_zero, xfa_ref, run_ld, B0, reduceIte, reduceEqDiff]
      refine put1_eq (v := .int .i64 v_1.K) rfl ?_
      simp only [hg17, run_guard (g := 12), guard_false, run_fa, put1_some, Nat.reduceAdd, Nat.zero_add, Nat.add_zero, xfa_ptr, run_ld, B0, reduceIte, reduceEqDiff]
      refine put1_eq (v := pv0_1) ((xld_b (Sep.bk _ _ _ (Sep.m1 hS14))).trans rfl) ?_
      simp only [hg17, run_guard (g := 12), guard_false, run_len, put1_some, SlN.len ph0_1, run_bin, xgeq, run_pick, xpick_f, run_ops_nil, run_nil, B0, reduceIte, reduceEqDiff]
      exact hN16 _ _ ⟨(Sep.m4 (Sep.m3 (Sep.m4 (Sep.m4 (Sep.m4 hS14))))), by rw [orF hg17]; simp only [B0, reduceIte, reduceEqDiff], rfl, rfl, rfl⟩
  rintro fr18 h23 ⟨hS24, f19, f20, f21, f22⟩
  simp only [List.drop_succ_cons, List.drop_zero]
  simp only [f19, run_mv, B0, reduceIte, reduceEqDiff]
  refine ops_j 9 (fun fr' h' => Sep h' lo ([Blk1 b1 [.int .i64 v_0.Generation, pv0_1, pv0_2, pv0_3] 29] ++ ([Blk1 b9 [.int .i64 0, .nil, .nil,
      .nil] 29] ++ (pc0_1 ++ (pc0_2 ++ (pc0_3 ++ (S0)))))) ∧ fr' 29 = .bool (((decide (v_1.K < 0)) || (decide ((List.length v_0.Readers : Int) ≤ v_1.K))) || ((decide
      (v_1.Kind < 4)) && (decide (v_1.Part ≠ 0)))) ∧ fr' 2 = .ptr b1 0 ∧ fr' 3 = .ref [.int .i64 v_1.Kind, .int .i64 v_1.K, .int .i64 v_1.Part,
      .int .i64 v_1.N] 0 ∧ fr' 4 = .ptr b9 0) (fun Q25 hN26 => ?_) ?_
  · simp only [List.take_succ_cons, List.take_zero]
    simp only [run_guard (g := 20), B0, reduceIte, reduceEqDiff]
    refine guard_split (t := ((decide (v_1.K < 0)) || (decide ((List.length v_0.Readers : Int) ≤ v_1.K)))) (fun hg27 => ?_) (fun hg27 => ?_)
    · simp only [hg27, run_guard (g := 20), guard_off', run_guard (g := 24), guard_tup, run_pick, put1_some, xpick_t, run_ops_nil, run_nil, B0, reduceIte, reduceEqDiff]
      exact hN26 _ _ ⟨(Sep.m4 (Sep.m4 (Sep.m4 (Sep.m4 (Sep.m4 hS24))))), by rw [orT hg27]; simp only [B0, reduceIte, reduceEqDiff], f20, f21, f22⟩
    · simp only [hg27, run_guard (g := 20), guard_false, f21, run_fa, put1_some, Nat.reduceAdd, Nat.zero_add, Nat.add_zero, xfa_ref, run_ld, B0, reduceIte, reduceEqDiff]
      refine put1_eq (v := .int .i64 v_1.Kind) rfl ?_
      simp only [hg27, run_guard (g := 20), guard_false, run_bin, put1_some, xlss, run_mv, B0, reduceIte, reduceEqDiff]
      refine ops_j 4 (fun fr' h' => Sep h' lo ([Blk1 b1 [.int .i64 v_0.Generation, pv0_1, pv0_2, pv0_3] 29] ++ ([Blk1 b9 [.int .i64 0, .nil, .nil,
          .nil] 29] ++ (pc0_1 ++ (pc0_2 ++ (pc0_3 ++ (S0)))))) ∧ fr' 28 = .bool ((decide (v_1.Kind < 4)) && (decide
          (v_1.Part ≠ 0))) ∧ fr' 2 = .ptr b1 0 ∧ fr' 3 = .ref [.int .i64 v_1.Kind, .int .i64 v_1.K, .int .i64 v_1.Part,
          .int .i64 v_1.N] 0 ∧ fr' 4 = .ptr b9 0 ∧ fr' 20 = .bool ((decide (v_1.K < 0)) || (decide ((List.length v_0.Readers : Int) ≤ v_1.K)))) (fun Q28 hN29 => ?_) ?_
      · simp only [List.take_succ_cons, List.take_zero]
        simp only [run_guard (g := 24), B0, reduceIte, reduceEqDiff]
        refine guard_split (t := (decide (v_1.Kind < 4))) (fun hg30 => ?_) (fun hg30 => ?_)
        · simp only [hg30, run_guard (g := 24), guard_true, f21, run_fa, put1_some, Nat.reduceAdd, Nat.zero_add, Nat.add_zero, xfa_ref, run_ld, B0, reduceIte, reduceEqDiff]
          refine put1_eq (v := .int .i64 v_1.Part) rfl ?_
          simp only [hg30, run_guard (g := 24), guard_true, run_bin, put1_some, xneq, hg27, run_guard (g := 20), guard_false, run_pick, xpick_t, run_ops_nil, run_nil, B0,
              reduceIte, reduceEqDiff]
          exact hN29 _ _ ⟨(Sep.m4 (Sep.m4 (Sep.m4 (Sep.m4 (Sep.m4 hS24))))), by rw [andT hg30]; simp only [B0, reduceIte, reduceEqDiff], f20, f21, f22, by simp only [hg27, B0,
              reduceIte, reduceEqDiff]⟩
        · simp only [hg30, run_guard (g := 24), guard_off, hg27, run_guard (g := 20), guard_false, run_pick, put1_some, xpick_f, run_ops_nil, run_nil, B0, reduceIte, reduceEqDiff]
          exact hN29 _ _ ⟨(Sep.m4 (Sep.m4 (Sep.m4 (Sep.m4 (Sep.m4 hS24))))), by rw [andF hg30]; simp only [B0, reduceIte, reduceEqDiff], f20, f21, f22, by simp only [hg27, B0,
              reduceIte, reduceEqDiff]⟩
      rintro fr31 h37 ⟨hS38, f32, f33, f34, f35, f36⟩
      simp only [List.drop_succ_cons, List.drop_zero]
      simp only [f36, hg27, run_pick, put1_some, xpick_f, f32, run_ops_nil, run_nil, B0, reduceIte, reduceEqDiff]
      exact hN26 _ _ ⟨(Sep.m4 (Sep.m4 (Sep.m4 (Sep.m4 (Sep.m4 hS38))))), by rw [orF hg27]; simp only [B0, reduceIte, reduceEqDiff], f33, f34, f35⟩
  rintro fr39 h44 ⟨hS45, f40, f41, f42, f43⟩
  simp only [List.drop_succ_cons, List.drop_zero]
  simp only [f40, run_mv, B0, reduceIte, reduceEqDiff]
  refine ops_j 9 (fun fr' h' => Sep h' lo ([Blk1 b1 [.int .i64 v_0.Generation, pv0_1, pv0_2, pv0_3] 29] ++ ([Blk1 b9 [.int .i64 0, .nil, .nil,
      .nil] 29] ++ (pc0_1 ++ (pc0_2 ++ (pc0_3 ++ (S0)))))) ∧ fr' 39 = .bool ((((decide (v_1.K < 0)) || (decide ((List.length v_0.Readers : Int) ≤ v_1.K))) || ((decide
      (v_1.Kind < 4)) && (decide (v_1.Part ≠ 0)))) || ((decide (v_1.Kind ≠ 4)) && (decide (v_1.N ≠ 0)))) ∧ fr' 2 = .ptr b1 0 ∧ fr' 3 = .ref [.int .i64 v_1.Kind, .int .i64 v_1.K,
      .int .i64 v_1.Part, .int .i64 v_1.N] 0 ∧ fr' 4 = .ptr b9 0) (fun Q46 hN47 => ?_) ?_
  · simp only [List.take_succ_cons, List.take_zero]
    simp only [run_guard (g := 30), B0, reduceIte, reduceEqDiff]
    refine guard_split (t := (((decide (v_1.K < 0)) || (decide ((List.length v_0.Readers : Int) ≤ v_1.K))) || ((decide (v_1.Kind < 4)) && (decide (v_1.Part ≠ 0)))))
        (fun hg48 => ?_) (fun hg48 => ?_)
    · simp only [hg48, run_guard (g := 30), guard_off', run_guard (g := 34), guard_tup, run_pick, put1_some, xpick_t, run_ops_nil, run_nil, B0, reduceIte, reduceEqDiff]
      exact hN47 _ _ ⟨(Sep.m4 (Sep.m4 (Sep.m4 (Sep.m4 (Sep.m4 hS45))))), by rw [orT hg48]; simp only [B0, reduceIte, reduceEqDiff], f41, f42, f43⟩
    · simp only [hg48, run_guard (g := 30), guard_false, f42, run_fa, put1_some, Nat.reduceAdd, Nat.zero_add, Nat.add_zero, xfa_ref, run_ld, B0, reduceIte, reduceEqDiff]
      refine put1_eq (v := .int .i64 v_1.Kind) rfl ?_
      simp only [hg48, run_guard (g := 30), guard_false, run_bin, put1_some, xneq, run_mv, B0, reduceIte, reduceEqDiff]
      refine ops_j 4 (fun fr' h' => Sep h' lo ([Blk1 b1 [.int .i64 v_0.Generation, pv0_1, pv0_2, pv0_3] 29] ++ ([Blk1 b9 [.int .i64 0, .nil, .nil,
          .nil] 29] ++ (pc0_1 ++ (pc0_2 ++ (pc0_3 ++ (S0)))))) ∧ fr' 38 = .bool ((decide (v_1.Kind ≠ 4)) && (decide
          (v_1.N ≠ 0))) ∧ fr' 2 = .ptr b1 0 ∧ fr' 3 = .ref [.int .i64 v_1.Kind, .int .i64 v_1.K, .int .i64 v_1.Part,
          .int .i64 v_1.N] 0 ∧ fr' 4 = .ptr b9 0 ∧ fr' 30 = .bool (((decide (v_1.K < 0)) || (decide ((List.length v_0.Readers : Int) ≤ v_1.K))) || ((decide (v_1.Kind < 4)) &&
          (decide (v_1.Part ≠ 0))))) (fun Q49 hN50 => ?_) ?_
      · simp only [List.take_succ_cons, List.take_zero]
        simp only [run_guard (g := 34), B0, reduceIte, reduceEqDiff]
        refine guard_split (t := (decide (v_1.Kind ≠ 4))) (fun hg51 => ?_) (fun hg51 => ?_)
        · simp only [hg51, run_guard (g := 34), guard_true, f42, run_fa, put1_some, Nat.reduceAdd, Nat.zero_add, Nat.add_zero, xfa_ref, run_ld, B0, reduceIte, reduceEqDiff]
          refine put1_eq (v := .int .i64 v_1.N) rfl ?_
          simp only [hg51, run_guard (g := 34), guard_true, run_bin, put1_some, xneq, hg48, run_guard (g := 30), guard_false, run_pick, xpick_t, run_ops_nil, run_nil, B0,
              reduceIte, reduceEqDiff]
          exact hN50 _ _ ⟨(Sep.m4 (Sep.m4 (Sep.m4 (Sep.m4 (Sep.m4 hS45))))), by rw [andT hg51]; simp only [B0, reduceIte, reduceEqDiff], f41, f42, f43, by simp only [hg48, B0,
              reduceIte, reduceEqDiff]⟩
        · simp only [hg51, run_guard (g := 34), guard_off, hg48, run_guard (g := 30), guard_false, run_pick, put1_some, xpick_f, run_ops_nil, run_nil, B0, reduceIte, reduceEqDiff]
          exact hN50 _ _ ⟨(Sep.m4 (Sep.m4 (Sep.m4 (Sep.m4 (Sep.m4 hS45))))), by rw [andF hg51]; simp only [B0, reduceIte, reduceEqDiff], f41, f42, f43, by simp only [hg48, B0,
              reduceIte, reduceEqDiff]⟩
      rintro fr52 h58 ⟨hS59, f53, f54, f55, f56, f57⟩
      simp only [List.drop_succ_cons, List.drop_zero]
      simp only [f57, hg48, run_pick, put1_some, xpick_f, f53, run_ops_nil, run_nil, B0, reduceIte, reduceEqDiff]
      exact hN47 _ _ ⟨(Sep.m4 (Sep.m4 (Sep.m4 (Sep.m4 (Sep.m4 hS59))))), by rw [orF hg48]; simp only [B0, reduceIte, reduceEqDiff], f54, f55, f56⟩
  rintro fr60 h65 ⟨hS66, f61, f62, f63, f64⟩
  simp only [List.drop_succ_cons, List.drop_zero]
  simp only [run_ops_nil, x53_1, f61, run_cond, B0, reduceIte, reduceEqDiff]
  refine cond_split (t := ((((decide (v_1.K < 0)) || (decide ((List.length v_0.Readers : Int) ≤ v_1.K))) || ((decide (v_1.Kind < 4)) && (decide (v_1.Part ≠ 0)))) || ((decide
      (v_1.Kind ≠ 4)) && (decide (v_1.N ≠ 0))))) (fun hc67 => ?_) (fun hc67 => ?_)
  · rw [iteT hc67] at hF
    simp only [run_seq, run_reg, f62, run_ld, B0, reduceIte, reduceEqDiff]
    refine put1_eq (v := .agg [.int .i64 v_0.Generation, pv0_1, pv0_2, pv0_3]) ((xld_bs (Sep.bk _ _ _ hS66)).trans rfl) ?_
    simp only [f64, run_st, B0, reduceIte, reduceEqDiff]
    refine put2_stCx (us := [.int .i64 v_0.Generation, pv0_1, pv0_2, pv0_3]) rfl (cs' := [.int .i64 v_0.Generation, pv0_1, pv0_2,
        pv0_3]) (Sep.m1 hS66) hW rfl (all_c rfl (all_c (SlN.one ph0_1) (all_c (SlF.one ph0_2) (all_c (SlF.one ph0_3) all_n)))) (Nat.le_of_ble_eq_true rfl) rfl (fun h68 hS69 => ?_)
    simp only [run_mv, run_ops_nil, run_ret, B0, reduceIte, reduceEqDiff]
    have he := some_inj hF
    subst he
    refine end_ret_m (mapM1 (res_cell (bb := b9) (oo := 0) (v := .agg [.int .i64 v_0.Generation, pv0_1, pv0_2,
        pv0_3]) (f64) ((xld_bs (Sep.bk _ _ _ hS69)).trans rfl)) (mapM1 (res_t (v := .bool false) (rfl)) mapM0)) ?_
    exact ⟨pc0_1, pc0_2, pc0_3, by first | trivial | rfl, ph0_1, ph0_2, ph0_3, (Sep.m2 (Sep.m2 (Sep.m2 (Sep.dc ((Sep.dc (hS69)))))))⟩
  rw [iteF hc67] at hF
  simp only [run_skip, x53_35, run_seq, run_reg, f62, run_fa, put1_some, Nat.reduceAdd, Nat.zero_add, Nat.add_zero, xfa_ptr, run_ld, B0, reduceIte, reduceEqDiff]
  refine put1_eq (v := pv0_1) ((xld_b (Sep.bk _ _ _ hS66)).trans rfl) ?_
  simp only [f63, run_fa, put1_some, Nat.reduceAdd, Nat.zero_add, Nat.add_zero, xfa_ref, run_ld, B0, reduceIte, reduceEqDiff]
  refine put1_eq (v := .int .i64 v_1.K) rfl ?_
  obtain ⟨x70, hx71, hF72⟩ := bind_some' hF
  simp only [run_ia, B0, reduceIte, reduceEqDiff]
  obtain ⟨b73, hb74⟩ := SlN.isrow ph0_1 (geti_ne hx71)
  refine put1_eq (SlN.ia ph0_1 hb74 hx71) ?_
  obtain ⟨c75, cs76, os77, hv78, hR79, hS80⟩ := SlG.opn (SlN.toG ph0_1 hb74 Reader.RO.len) hx71 hk_nil Reader.RO.len (Sep.m2 hS66)
  obtain ⟨v82, c83, v86, c87, hv84, hv88, rfl, rfl⟩ := hR79
  have hS81 := Sep.no2 hS80
  simp only [run_ld, B0, reduceIte, reduceEqDiff]
  refine put1_eq (v := .agg [.bool x70.In, .int .i64 x70.Generation, v82, v86]) ((SlG.lds (o := 0) hv78 rfl hx71 hS81 (Nat.le_of_ble_eq_true rfl)).trans rfl) ?_
  simp only [run_new, B0, reduceIte, reduceEqDiff]
  refine put2_newC hS81 (fun b90 h91 hS92 => ?_)
  simp only [run_st, B0, reduceIte, reduceEqDiff]
  refine put2_stCx (us := [.bool x70.In, .int .i64 x70.Generation, v82, v86]) rfl (cs' := [.bool x70.In, .int .i64 x70.Generation, v82,
      v86]) hS92 hW rfl (all_c rfl (all_c rfl (all_c (SlF.one hv84) (all_c (SlF.one hv88) all_n)))) (Nat.le_of_ble_eq_true rfl) rfl (fun h94 hS95 => ?_)
  simp only [run_ops_nil, x53_34, run_seq, run_block, x53_32, run_reg, f63, run_fa, put1_some, Nat.reduceAdd, Nat.zero_add, Nat.add_zero, xfa_ref, run_ld, B0, reduceIte,
      reduceEqDiff]
  refine put1_eq (v := .int .i64 v_1.Kind) rfl ?_
  simp only [run_bin, put1_some, xeql, run_mv, B0, reduceIte, reduceEqDiff]
  refine ops_j 4 (fun fr' h' => Sep h' lo ([Blk1 b1 [.int .i64 v_0.Generation, pv0_1, pv0_2, pv0_3] 29] ++ ([Blk1 b9 [.int .i64 0, .nil, .nil,
      .nil] 29] ++ ([Blk1 b90 [.bool x70.In, .int .i64 x70.Generation, v82,
      v86] 37] ++ (c75 ++ (pc0_2 ++ (pc0_3 ++ (c83 ++ (c87 ++ (S0))))))))) ∧ fr' 56 = .bool ((decide (v_1.Kind = 1)) &&
      (!x70.In)) ∧ fr' 2 = .ptr b1 0 ∧ fr' 3 = .ref [.int .i64 v_1.Kind, .int .i64 v_1.K, .int .i64 v_1.Part,
      .int .i64 v_1.N] 0 ∧ fr' 4 = .ptr b9 0 ∧ fr' 6 = .ptr b90 0) (fun Q96 hN97 => ?_) ?_
  · simp only [List.take_succ_cons, List.take_zero]
    simp only [run_guard (g := 52), B0, reduceIte, reduceEqDiff]
    refine guard_split (t := (decide (v_1.Kind = 1))) (fun hg98 => ?_) (fun hg98 => ?_)
    · simp only [hg98, run_guard (g := 52), guard_true, run_fa, put1_some, Nat.reduceAdd, Nat.zero_add, Nat.add_zero, xfa_ptr, run_ld, B0, reduceIte, reduceEqDiff]
      refine put1_eq (v := .bool x70.In) ((xld_b (Sep.bk _ _ _ hS95)).trans rfl) ?_
      simp only [hg98, run_guard (g := 52), guard_true, run_un, put1_some, xnot, run_pick, xpick_t, run_ops_nil, run_nil, B0, reduceIte, reduceEqDiff]
      exact hN97 _ _ ⟨(Sep.m7 (Sep.m7 (Sep.m5 (Sep.m5 (Sep.m7 (Sep.m7 (Sep.m3 (Sep.m3 hS95)))))))), by rw [andT hg98]; simp only [B0, reduceIte, reduceEqDiff], f62, f63, f64, rfl⟩
    · simp only [hg98, run_guard (g := 52), guard_off, run_pick, put1_some, xpick_f, run_ops_nil, run_nil, B0, reduceIte, reduceEqDiff]
      exact hN97 _ _ ⟨(Sep.m7 (Sep.m7 (Sep.m5 (Sep.m5 (Sep.m7 (Sep.m7 (Sep.m3 (Sep.m3 hS95)))))))), by rw [andF hg98]; simp only [B0, reduceIte, reduceEqDiff], f62, f63, f64, rfl⟩
  rintro fr99 h105 ⟨hS106, f100, f101, f102, f103, f104⟩
  simp only [List.drop_succ_cons, List.drop_zero]
  simp only [f100, run_mv, B0, reduceIte, reduceEqDiff]
  refine ops_j 4 (fun fr' h' => Sep h' lo ([Blk1 b1 [.int .i64 v_0.Generation, pv0_1, pv0_2, pv0_3] 29] ++ ([Blk1 b9 [.int .i64 0, .nil, .nil,
      .nil] 29] ++ ([Blk1 b90 [.bool x70.In, .int .i64 x70.Generation, v82,
      v86] 37] ++ (c75 ++ (pc0_2 ++ (pc0_3 ++ (c83 ++ (c87 ++ (S0))))))))) ∧ fr' 61 = .bool (((decide (v_1.Kind = 1)) && (!x70.In)) && (decide
      (v_0.Generation < 1000))) ∧ fr' 2 = .ptr b1 0 ∧ fr' 3 = .ref [.int .i64 v_1.Kind, .int .i64 v_1.K, .int .i64 v_1.Part,
      .int .i64 v_1.N] 0 ∧ fr' 4 = .ptr b9 0 ∧ fr' 6 = .ptr b90 0) (fun Q107 hN108 => ?_) ?_
  · simp only [List.take_succ_cons, List.take_zero]
    simp only [run_guard (g := 57), B0, reduceIte, reduceEqDiff]
    refine guard_split (t := ((decide (v_1.Kind = 1)) && (!x70.In))) (fun hg109 => ?_) (fun hg109 => ?_)
    · simp only [hg109, run_guard (g := 57), guard_true, f101, run_fa, put1_some, Nat.reduceAdd, Nat.zero_add, Nat.add_zero, xfa_ptr, run_ld, B0, reduceIte, reduceEqDiff]
      refine put1_eq (v := .int .i64 v_0.Generation) ((xld_b (Sep.bk _ _ _ hS106)).trans rfl) ?_
      simp only [hg109, run_guard (g := 57), guard_true, run_bin, put1_some, xlss, run_pick, xpick_t, run_ops_nil, run_nil, B0, reduceIte, reduceEqDiff]
      exact hN108 _ _ ⟨(Sep.m7 (Sep.m7 (Sep.m7 (Sep.m7 (Sep.m7 (Sep.m7 (Sep.m7 (Sep.m7 hS106)))))))), by rw [andT hg109]; simp only [B0, reduceIte, reduceEqDiff], f101, f102,
          f103, f104⟩
    · simp only [hg109, run_guard (g := 57), guard_off, run_pick, put1_some, xpick_f, run_ops_nil, run_nil, B0, reduceIte, reduceEqDiff]
      exact hN108 _ _ ⟨(Sep.m7 (Sep.m7 (Sep.m7 (Sep.m7 (Sep.m7 (Sep.m7 (Sep.m7 (Sep.m7 hS106)))))))), by rw [andF hg109]; simp only [B0, reduceIte, reduceEqDiff], f101, f102,
          f103, f104⟩
  rintro fr110 h116 ⟨hS117, f111, f112, f113, f114, f115⟩
  simp only [List.drop_succ_cons, List.drop_zero]
  simp only [f111, run_mv, run_ops_nil, x53_31, run_cond, B0, reduceIte, reduceEqDiff]
  obtain ⟨oc131, hX132, hk133⟩ := jn_some hF72
  refine cond_j (t := (((decide (v_1.Kind = 1)) && (!x70.In)) && (decide (v_0.Generation < 1000)))) (fun fr' h' => ∃ s, oc131 = .nxt s ∧ ∃ v121 c122 v125 c126 c129,
      fr' 2 = .ptr b1 0 ∧ fr' 3 = .ref [.int .i64 v_1.Kind, .int .i64 v_1.K, .int .i64 v_1.Part,
      .int .i64 v_1.N] 0 ∧ fr' 4 = .ptr b9 0 ∧ fr' 6 = .ptr b90 0 ∧ SlF cI 1 3 v121 s.2.1.Share c122 ∧ SlF cI 1 3 v125 s.2.1.Read c126 ∧ SlF cI 1 3 pv0_2 s.2.2 c129 ∧ Sep h' lo
      ([Blk1 b1 [.int .i64 s.1.Generation, pv0_1, pv0_2, pv0_3] 29] ++ ([Blk1 b9 [.int .i64 0, .nil, .nil, .nil] 29] ++ ([Blk1 b90 [.bool s.2.1.In, .int .i64 s.2.1.Generation,
      v121, v125] 37] ++ (c75 ++ (c129 ++ (pc0_3 ++ (c122 ++ (c126 ++ (S0)))))))))) (fun Q134 hN135 hR136 hE137 => ⟨fun hc138 => ?_, fun hc138 => ?_⟩) ?_
  · rw [iteT hc138] at hX132
    simp only [x53_3, run_seq, run_reg, f112, run_fa, put1_some, Nat.reduceAdd, Nat.zero_add, Nat.add_zero, xfa_ptr, run_ld, B0, reduceIte, reduceEqDiff]
    refine put1_eq (v := .int .i64 v_0.Generation) ((xld_b (Sep.bk _ _ _ hS117)).trans rfl) ?_
    simp only [run_bin, put1_some, xadd, f112, run_fa, Nat.reduceAdd, Nat.zero_add, Nat.add_zero, xfa_ptr, run_st, B0, reduceIte, reduceEqDiff]
    refine put2_stCx (us := [.int .i64 (IntKind.wrap .i64 (v_0.Generation + 1))]) rfl (cs' := [.int .i64 (IntKind.wrap .i64 (v_0.Generation + 1)), pv0_1, pv0_2,
        pv0_3]) hS117 hW rfl rfl (Nat.le_of_ble_eq_true rfl) rfl (fun h139 hS140 => ?_)
    simp only [run_ops_nil, x53_2, run_reg, f112, run_fa, put1_some, Nat.reduceAdd, Nat.zero_add, Nat.add_zero, xfa_ptr, run_ld, B0, reduceIte, reduceEqDiff]
    refine put1_eq (v := pv0_3) ((xld_b (Sep.bk _ _ _ hS140)).trans rfl) ?_
    obtain ⟨l141, hx142, hF143⟩ := bind_some' hX132
    simp only [run_len, put1_some, SlF.plen ph0_3, run_mkS, B0, reduceIte, reduceEqDiff]
    refine put2_mkSF (f := cI) (z := (0 : Int)) hS140 hx142 rfl (fun v144 c145 h146 hv147 hS148 => ?_)
    simp only [run_build, evp, B0, reduceIte, reduceEqDiff]
    refine put1_eq (v := .agg [.bool true, .int .i64 0, .nil, v144]) (pbuild_some (fill1 (us := [.bool true]) (vs := [.bool true, .int .i64 0, .nil,
        .nil]) rfl rfl (Nat.le_of_ble_eq_true rfl) rfl rfl (fill1 (us := [v144]) (vs := [.bool true, .int .i64 0, .nil,
        v144]) (cells_one (SlF.one hv147)) rfl (Nat.le_of_ble_eq_true rfl) (all_c (SlF.one hv147) all_n) rfl fill0))) ?_
    simp only [f115, run_st, B0, reduceIte, reduceEqDiff]
    refine put2_stCx (us := [.bool true, .int .i64 0, .nil, v144]) rfl (cs' := [.bool true, .int .i64 0, .nil,
        v144]) (Sep.m3 hS148) hW rfl (all_c rfl (all_c rfl (all_c rfl (all_c (SlF.one hv147) all_n)))) (Nat.le_of_ble_eq_true rfl) rfl (fun h150 hS151 => ?_)
    simp only [run_ops_nil, run_nil, B0, reduceIte, reduceEqDiff]
    have e152 := some_inj hF143
    exact hN135 _ _ ⟨_, e152.symm, .nil, [], v144, c145, pc0_2, f112, f113, f114, f115, SlF.nil, hv147, ph0_2,
        ((Sep.m6 (Sep.m6 (Sep.m4 (Sep.m6 (Sep.m6 (Sep.m6 (Sep.m1 (Sep.dc (Sep.m7 (Sep.dc (Sep.m7 hS151))))))))))) : Sep _ lo ([Blk1 b1 [.int .i64 (IntKind.wrap .i64
        (v_0.Generation + 1)), pv0_1, pv0_2, pv0_3] 29] ++ ([Blk1 b9 [.int .i64 0, .nil, .nil, .nil] 29] ++ ([Blk1 b90 [.bool true, .int .i64 0, .nil,
        v144] 37] ++ (c75 ++ (pc0_2 ++ (pc0_3 ++ (c145 ++ (S0)))))))))⟩
  · rw [iteF hc138] at hX132
    simp only [x53_30, run_seq, run_reg, f115, run_fa, put1_some, Nat.reduceAdd, Nat.zero_add, Nat.add_zero, xfa_ptr, run_ld, B0, reduceIte, reduceEqDiff]
    refine put1_eq (v := .bool x70.In) ((xld_b (Sep.bk _ _ _ (Sep.m2 hS117))).trans rfl) ?_
    simp only [run_un, put1_some, xnot, run_mv, run_ops_nil, x53_29, run_cond, B0, reduceIte, reduceEqDiff]
    refine cond_split (t := (!x70.In)) (fun hc153 => ?_) (fun hc153 => ?_)
    · rw [iteT hc153] at hX132
      simp only [run_seq, run_reg, f112, run_ld, B0, reduceIte, reduceEqDiff]
      refine put1_eq (v := .agg [.int .i64 v_0.Generation, pv0_1, pv0_2, pv0_3]) ((xld_bs (Sep.bk _ _ _ hS117)).trans rfl) ?_
      simp only [f114, run_st, B0, reduceIte, reduceEqDiff]
      refine put2_stCx (us := [.int .i64 v_0.Generation, pv0_1, pv0_2, pv0_3]) rfl (cs' := [.int .i64 v_0.Generation, pv0_1, pv0_2,
          pv0_3]) (Sep.m1 hS117) hW rfl (all_c rfl (all_c (SlG.one hv78) (all_c (SlF.one ph0_2) (all_c (SlF.one ph0_3) all_n)))) (Nat.le_of_ble_eq_true rfl) rfl
          (fun h154 hS155 => ?_)
      simp only [run_mv, run_ops_nil, run_ret, B0, reduceIte, reduceEqDiff]
      have e156 := some_inj hX132
      subst e156
      have hk133' := hk133
      dsimp only [jnO] at hk133'
      apply hR136
      obtain ⟨c157, hv158, hS159⟩ := SlG.cls0 (c := c75) (os := c83 ++ (c87)) hv78 rfl hx71 hk_nil (Reader.RI (x := x70) hv84 hv88) (Sep.ni2 (c1 := c83) (c2 := c87) (Sep.m5
          (Sep.m7 (Sep.m7 hS155))))
      have hv160 := SlG.toN hv158
      have he := some_inj hk133'
      subst he
      refine end_ret_m (mapM1 (res_cell (bb := b9) (oo := 0) (v := .agg [.int .i64 v_0.Generation, pv0_1, pv0_2,
          pv0_3]) (f114) ((xld_bs (Sep.bk _ _ _ (Sep.m1 hS159))).trans rfl)) (mapM1 (res_t (v := .bool false) (rfl)) mapM0)) ?_
      exact ⟨c157, pc0_2, pc0_3, by first | trivial | rfl, hv160, ph0_2, ph0_3, (Sep.m2 (Sep.m2 (Sep.m2 (Sep.dc (Sep.m1 (Sep.dc (Sep.m1 (Sep.dc (Sep.m1 hS159)))))))))⟩
    rw [iteF hc153] at hX132
    simp only [x53_28, run_seq, run_reg, f113, run_fa, put1_some, Nat.reduceAdd, Nat.zero_add, Nat.add_zero, xfa_ref, run_ld, B0, reduceIte, reduceEqDiff]
    refine put1_eq (v := .int .i64 v_1.Kind) rfl ?_
    simp only [run_bin, put1_some, xeql, run_mv, B0, reduceIte, reduceEqDiff]
    refine ops_j 4 (fun fr' h' => Sep h' lo ([Blk1 b1 [.int .i64 v_0.Generation, pv0_1, pv0_2, pv0_3] 29] ++ ([Blk1 b9 [.int .i64 0, .nil, .nil,
        .nil] 29] ++ ([Blk1 b90 [.bool x70.In, .int .i64 x70.Generation, v82,
        v86] 37] ++ (c75 ++ (pc0_2 ++ (pc0_3 ++ (c83 ++ (c87 ++ (S0))))))))) ∧ fr' 84 = .bool ((decide (v_1.Kind = 2)) && (decide
        (v_0.Generation < 1000))) ∧ fr' 2 = .ptr b1 0 ∧ fr' 3 = .ref [.int .i64 v_1.Kind, .int .i64 v_1.K, .int .i64 v_1.Part,
        .int .i64 v_1.N] 0 ∧ fr' 4 = .ptr b9 0 ∧ fr' 6 = .ptr b90 0) (fun Q161 hN162 => ?_) ?_
    · simp only [List.take_succ_cons, List.take_zero]
      simp only [run_guard (g := 80), B0, reduceIte, reduceEqDiff]
      refine guard_split (t := (decide (v_1.Kind = 2))) (fun hg163 => ?_) (fun hg163 => ?_)
      · simp only [hg163, run_guard (g := 80), guard_true, f112, run_fa, put1_some, Nat.reduceAdd, Nat.zero_add, Nat.add_zero, xfa_ptr, run_ld, B0, reduceIte, reduceEqDiff]
        refine put1_eq (v := .int .i64 v_0.Generation) ((xld_b (Sep.bk _ _ _ hS117)).trans rfl) ?_
        simp only [hg163, run_guard (g := 80), guard_true, run_bin, put1_some, xlss, run_pick, xpick_t, run_ops_nil, run_nil, B0, reduceIte, reduceEqDiff]
        exact hN162 _ _ ⟨(Sep.m7 (Sep.m7 (Sep.m7 (Sep.m7 (Sep.m7 (Sep.m7 (Sep.m7 (Sep.m7 hS117)))))))), by rw [andT hg163]; simp only [B0, reduceIte, reduceEqDiff], f112, f113,
            f114, f115⟩
      · simp only [hg163, run_guard (g := 80), guard_off, run_pick, put1_some, xpick_f, run_ops_nil, run_nil, B0, reduceIte, reduceEqDiff]
        exact hN162 _ _ ⟨(Sep.m7 (Sep.m7 (Sep.m7 (Sep.m7 (Sep.m7 (Sep.m7 (Sep.m7 (Sep.m7 hS117)))))))), by rw [andF hg163]; simp only [B0, reduceIte, reduceEqDiff], f112, f113,
            f114, f115⟩
    rintro fr164 h170 ⟨hS171, f165, f166, f167, f168, f169⟩
    simp only [List.drop_succ_cons, List.drop_zero]
    simp only [f165, run_mv, run_ops_nil, x53_27, run_cond, B0, reduceIte, reduceEqDiff]
    refine cond_split (t := ((decide (v_1.Kind = 2)) && (decide (v_0.Generation < 1000)))) (fun hc172 => ?_) (fun hc172 => ?_)
    · rw [iteT hc172] at hX132
      simp only [x53_5, run_seq, run_reg, f166, run_fa, put1_some, Nat.reduceAdd, Nat.zero_add, Nat.add_zero, xfa_ptr, run_ld, B0, reduceIte, reduceEqDiff]
      refine put1_eq (v := .int .i64 v_0.Generation) ((xld_b (Sep.bk _ _ _ hS171)).trans rfl) ?_
      simp only [run_bin, put1_some, xadd, f166, run_fa, Nat.reduceAdd, Nat.zero_add, Nat.add_zero, xfa_ptr, run_st, B0, reduceIte, reduceEqDiff]
      refine put2_stCx (us := [.int .i64 (IntKind.wrap .i64 (v_0.Generation + 1))]) rfl (cs' := [.int .i64 (IntKind.wrap .i64 (v_0.Generation + 1)), pv0_1, pv0_2,
          pv0_3]) hS171 hW rfl rfl (Nat.le_of_ble_eq_true rfl) rfl (fun h173 hS174 => ?_)
      simp only [run_ops_nil, x53_4, run_reg, f166, run_fa, put1_some, Nat.reduceAdd, Nat.zero_add, Nat.add_zero, xfa_ptr, run_ld, B0, reduceIte, reduceEqDiff]
      refine put1_eq (v := pv0_3) ((xld_b (Sep.bk _ _ _ hS174)).trans rfl) ?_
      obtain ⟨l175, hx176, hF177⟩ := bind_some' hX132
      simp only [run_len, put1_some, SlF.plen ph0_3, run_mkS, B0, reduceIte, reduceEqDiff]
      refine put2_mkSF (f := cI) (z := (0 : Int)) hS174 hx176 rfl (fun v178 c179 h180 hv181 hS182 => ?_)
      simp only [run_build, evp, B0, reduceIte, reduceEqDiff]
      refine put1_eq (v := .agg [.bool false, .int .i64 0, .nil, v178]) (pbuild_some (fill1 (us := [v178]) (vs := [.bool false, .int .i64 0, .nil,
          v178]) (cells_one (SlF.one hv181)) rfl (Nat.le_of_ble_eq_true rfl) (all_c (SlF.one hv181) all_n) rfl fill0)) ?_
      simp only [f169, run_st, B0, reduceIte, reduceEqDiff]
      refine put2_stCx (us := [.bool false, .int .i64 0, .nil, v178]) rfl (cs' := [.bool false, .int .i64 0, .nil,
          v178]) (Sep.m3 hS182) hW rfl (all_c rfl (all_c rfl (all_c rfl (all_c (SlF.one hv181) all_n)))) (Nat.le_of_ble_eq_true rfl) rfl (fun h184 hS185 => ?_)
      simp only [run_ops_nil, run_nil, B0, reduceIte, reduceEqDiff]
      have e186 := some_inj hF177
      exact hN135 _ _ ⟨_, e186.symm, .nil, [], v178, c179, pc0_2, f166, f167, f168, f169, SlF.nil, hv181, ph0_2,
          ((Sep.m6 (Sep.m6 (Sep.m4 (Sep.m6 (Sep.m6 (Sep.m6 (Sep.m1 (Sep.dc (Sep.m7 (Sep.dc (Sep.m7 hS185))))))))))) : Sep _ lo ([Blk1 b1 [.int .i64 (IntKind.wrap .i64
          (v_0.Generation + 1)), pv0_1, pv0_2, pv0_3] 29] ++ ([Blk1 b9 [.int .i64 0, .nil, .nil, .nil] 29] ++ ([Blk1 b90 [.bool false, .int .i64 0, .nil,
          v178] 37] ++ (c75 ++ (pc0_2 ++ (pc0_3 ++ (c179 ++ (S0)))))))))⟩
    rw [iteF hc172] at hX132
    simp only [x53_26, run_seq, run_reg, f167, run_fa, put1_some, Nat.reduceAdd, Nat.zero_add, Nat.add_zero, xfa_ref, run_ld, B0, reduceIte, reduceEqDiff]
    refine put1_eq (v := .int .i64 v_1.Kind) rfl ?_
    simp only [run_bin, put1_some, xeql, run_mv, B0, reduceIte, reduceEqDiff]
    refine ops_j 6 (fun fr' h' => Sep h' lo ([Blk1 b1 [.int .i64 v_0.Generation, pv0_1, pv0_2, pv0_3] 29] ++ ([Blk1 b9 [.int .i64 0, .nil, .nil,
        .nil] 29] ++ ([Blk1 b90 [.bool x70.In, .int .i64 x70.Generation, v82,
        v86] 37] ++ (c75 ++ (pc0_2 ++ (pc0_3 ++ (c83 ++ (c87 ++ (S0))))))))) ∧ fr' 104 = .bool ((decide (v_1.Kind = 3)) && (decide
        (x70.Generation ≠ v_0.Generation))) ∧ fr' 2 = .ptr b1 0 ∧ fr' 3 = .ref [.int .i64 v_1.Kind, .int .i64 v_1.K, .int .i64 v_1.Part,
        .int .i64 v_1.N] 0 ∧ fr' 4 = .ptr b9 0 ∧ fr' 6 = .ptr b90 0) (fun Q187 hN188 => ?_) ?_
    · simp only [List.take_succ_cons, List.take_zero]
      simp only [run_guard (g := 98), B0, reduceIte, reduceEqDiff]
      refine guard_split (t := (decide (v_1.Kind = 3))) (fun hg189 => ?_) (fun hg189 => ?_)
      · simp only [hg189, run_guard (g := 98), guard_true, f169, run_fa, put1_some, Nat.reduceAdd, Nat.zero_add, Nat.add_zero, xfa_ptr, run_ld, B0, reduceIte, reduceEqDiff]
        refine put1_eq (v := .int .i64 x70.Generation) ((xld_b (Sep.bk _ _ _ (Sep.m2 hS171))).trans rfl) ?_
        simp only [hg189, run_guard (g := 98), guard_true, f166, run_fa, put1_some, Nat.reduceAdd, Nat.zero_add, Nat.add_zero, xfa_ptr, run_ld, B0, reduceIte, reduceEqDiff]
        refine put1_eq (v := .int .i64 v_0.Generation) ((xld_b (Sep.bk _ _ _ hS171)).trans rfl) ?_
        simp only [hg189, run_guard (g := 98), guard_true, run_bin, put1_some, xneq, run_pick, xpick_t, run_ops_nil, run_nil, B0, reduceIte, reduceEqDiff]
        exact hN188 _ _ ⟨(Sep.m7 (Sep.m7 (Sep.m7 (Sep.m7 (Sep.m7 (Sep.m7 (Sep.m7 (Sep.m7 hS171)))))))), by rw [andT hg189]; simp only [B0, reduceIte, reduceEqDiff], f166, f167,
            f168, f169⟩
      · simp only [hg189, run_guard (g := 98), guard_off, run_pick, put1_some, xpick_f, run_ops_nil, run_nil, B0, reduceIte, reduceEqDiff]
        exact hN188 _ _ ⟨(Sep.m7 (Sep.m7 (Sep.m7 (Sep.m7 (Sep.m7 (Sep.m7 (Sep.m7 (Sep.m7 hS171)))))))), by rw [andF hg189]; simp only [B0, reduceIte, reduceEqDiff], f166, f167,
            f168, f169⟩
    rintro fr190 h196 ⟨hS197, f191, f192, f193, f194, f195⟩
    simp only [List.drop_succ_cons, List.drop_zero]
    simp only [f191, run_mv, run_ops_nil, x53_25, run_cond, B0, reduceIte, reduceEqDiff]
    refine cond_split (t := ((decide (v_1.Kind = 3)) && (decide (x70.Generation ≠ v_0.Generation)))) (fun hc198 => ?_) (fun hc198 => ?_)
    · rw [iteT hc198] at hX132
      simp only [x53_13, run_seq, run_reg, f192, run_fa, put1_some, Nat.reduceAdd, Nat.zero_add, Nat.add_zero, xfa_ptr, run_ld, B0, reduceIte, reduceEqDiff]
      refine put1_eq (v := .int .i64 v_0.Generation) ((xld_b (Sep.bk _ _ _ hS197)).trans rfl) ?_
      simp only [f195, run_fa, put1_some, Nat.reduceAdd, Nat.zero_add, Nat.add_zero, xfa_ptr, run_st, B0, reduceIte, reduceEqDiff]
      refine put2_stCx (us := [.int .i64 v_0.Generation]) rfl (cs' := [.bool x70.In, .int .i64 v_0.Generation, v82,
          v86]) (Sep.m2 hS197) hW rfl rfl (Nat.le_of_ble_eq_true rfl) rfl (fun h199 hS200 => ?_)
      simp only [run_ops_nil, x53_12, run_seq, run_reg, f192, run_ld, B0, reduceIte, reduceEqDiff]
      refine put1_eq (v := .agg [.int .i64 v_0.Generation, pv0_1, pv0_2, pv0_3]) ((xld_bs (Sep.bk _ _ _ (Sep.m1 hS200))).trans rfl) ?_
      simp only [f193, run_fa, put1_some, Nat.reduceAdd, Nat.zero_add, Nat.add_zero, xfa_ref, run_ld, B0, reduceIte, reduceEqDiff]
      refine put1_eq (v := .int .i64 v_1.K) rfl ?_
      obtain ⟨c201, hv202, hS203⟩ := SlG.cls0 (c := c75) (os := c83 ++ (c87)) hv78 rfl hx71 hk_nil (Reader.RI (x := x70) hv84 hv88) (Sep.ni2 (c1 := c83) (c2 := c87) (Sep.m5
          (Sep.m7 (Sep.m7 hS200))))
      have hv204 := SlG.toN hv202
      obtain ⟨v205, hx206, hF207⟩ := bind_some' hX132
      simp only [run_call, B0, reduceIte, reduceEqDiff]
      refine call2 rfl hS200 (mapM1 (snap_agg (mapM1 snap_int (mapM1 (SlN.snap hv204 _ hS203 rfl Reader.RO) (mapM1 (SlF.snap ph0_2 (Sep.m4 hS203) rfl (fun _ => rfl)
          (fun _ => rfl)) (mapM1 (SlF.snap ph0_3 (Sep.m5 hS203) rfl (fun _ => rfl) (fun _ => rfl)) mapM0))))) (mapM1 snap_int mapM0)) (spec_l14Share_x
          (fun b hb => decide_eq_true hb) v_0 v_1.K v205 hx206) ?_
      rintro v208 h212 ⟨_, c209, rfl, hv210, hS213⟩
      refine ⟨_, free_1 (SlF.free1 hv210), hS213, (pf_app (SlF.pf hv210 (fun _ => rfl)) pf_nil), fun h214 hS215 => ?_⟩
      have hS216 : Sep h214 lo (c209 ++ ([Blk1 b90 [.bool x70.In, .int .i64 v_0.Generation, v82, v86] 37] ++ ([Blk1 b1 [.int .i64 v_0.Generation, pv0_1, pv0_2,
          pv0_3] 29] ++ ([Blk1 b9 [.int .i64 0, .nil, .nil, .nil] 29] ++ (c75 ++ (pc0_2 ++ (pc0_3 ++ (c83 ++ (c87 ++ (S0)))))))))) := by simpa only [List.append_assoc,
          List.nil_append] using hS215
      simp only [f195, run_fa, put1_some, Nat.reduceAdd, Nat.zero_add, Nat.add_zero, xfa_ptr, run_st, B0, reduceIte, reduceEqDiff]
      refine put2_stCx (us := [v208]) (cells_one (SlF.one hv210)) (cs' := [.bool x70.In, .int .i64 v_0.Generation, v208,
          v86]) (Sep.m1 hS216) hW rfl (all_c (SlF.one hv210) all_n) (Nat.le_of_ble_eq_true rfl) rfl (fun h217 hS218 => ?_)
      simp only [run_ops_nil, x53_11, run_seq, run_reg, f192, run_fa, put1_some, Nat.reduceAdd, Nat.zero_add, Nat.add_zero, xfa_ptr, run_ld, B0, reduceIte, reduceEqDiff]
      refine put1_eq (v := pv0_3) ((xld_b (Sep.bk _ _ _ (Sep.m2 hS218))).trans rfl) ?_
      obtain ⟨l219, hx220, hF221⟩ := bind_some' hF207
      simp only [run_len, put1_some, SlF.plen ph0_3, run_mkS, B0, reduceIte, reduceEqDiff]
      refine put2_mkSF (f := cI) (z := (0 : Int)) hS218 hx220 rfl (fun v222 c223 h224 hv225 hS226 => ?_)
      simp only [f195, run_fa, put1_some, Nat.reduceAdd, Nat.zero_add, Nat.add_zero, xfa_ptr, run_st, B0, reduceIte, reduceEqDiff]
      refine put2_stCx (us := [v222]) (cells_one (SlF.one hv225)) (cs' := [.bool x70.In, .int .i64 v_0.Generation, v208,
          v222]) (Sep.m1 hS226) hW rfl (all_c (SlF.one hv225) all_n) (Nat.le_of_ble_eq_true rfl) rfl (fun h228 hS229 => ?_)
      simp only [run_ops_nil, x53_10, run_seq, run_reg, f195, run_fa, put1_some, Nat.reduceAdd, Nat.zero_add, Nat.add_zero, xfa_ptr, run_ld, B0, reduceIte, reduceEqDiff]
      refine put1_eq (v := v208) ((xld_b (Sep.bk _ _ _ hS229)).trans rfl) ?_
      simp only [run_len, put1_some, SlF.plen hv210, run_mv, run_ops_nil, B0, reduceIte, reduceEqDiff]
      obtain ⟨oc238, hX240, hk241⟩ := jn_some hF221
      simp only [x53_9]
      refine rangeN_j (σ := (List Int)) (fun i236 s282 => spec_l14Step_b1 v_0 v205 i236 s282) (fun s fr' h' => ∃ c234, fr' 2 = .ptr b1 0 ∧ fr' 3 = .ref [.int .i64 v_1.Kind,
          .int .i64 v_1.K, .int .i64 v_1.Part, .int .i64 v_1.N] 0 ∧ fr' 4 = .ptr b9 0 ∧ fr' 6 = .ptr b90 0 ∧ fr' 119 = v208 ∧ SlF cI 1 3 v222 s c234 ∧ Sep h' lo
          ([Blk1 b1 [.int .i64 v_0.Generation, pv0_1, pv0_2, pv0_3] 29] ++ ([Blk1 b9 [.int .i64 0, .nil, .nil, .nil] 29] ++ ([Blk1 b90 [.bool x70.In, .int .i64 v_0.Generation,
          v208, v222] 37] ++ (c209 ++ (c75 ++ (pc0_2 ++ (pc0_3 ++ (c234 ++ (c83 ++ (c87 ++ (S0)))))))))))) hX240 ⟨c223, f192, f193, f194, f195, rfl, hv225,
          (Sep.m9 (Sep.m9 (Sep.m7 (Sep.m7 (Sep.m9 (Sep.m9 (Sep.m9 (Sep.m3 (Sep.m9 (Sep.m9 hS229))))))))))⟩ (by simp only [B0, reduceIte, reduceEqDiff]) (by simp only [B0,
          reduceIte, reduceEqDiff]) (fun _ _ _ h => h) rfl rfl (fun _ _ _ _ h => h) (fun _ _ _ _ h => h) (fun _ _ _ _ h => h) (by decide) ?_ ?_
      · rintro i236 s233 fr250 h251 hx258 ⟨c234, f253, f254, f255, f256, f257, hv235, hS252⟩ f259 f260 oc239 hF242 hr243 Q244 hN245 hB249 hK246 hR247 hE248
        unfold spec_l14Step_b1 at hF242
        obtain ⟨x261, hx262, hF263⟩ := bind_some' hF242
        simp only [x53_7, run_seq, run_reg, f257, f259, run_ia, B0, reduceIte, reduceEqDiff]
        obtain ⟨b264, hb265⟩ := SlF.isrow hv210 (geti_ne hx262)
        refine put1_eq (SlF.ia hv210 hb265 hx262) ?_
        simp only [run_ld, B0, reduceIte, reduceEqDiff]
        refine put1_eq (v := .int .i64 x261) ((SlF.ld (o := 0) hv210 (Sep.m3 hS252) hb265 hx262 (fun _ => rfl) (Nat.le_of_ble_eq_true rfl)).trans rfl) ?_
        simp only [run_mv, run_ops_nil, x53_6, run_draw, f256, d4_fa, put1d_some, Nat.reduceAdd, Nat.zero_add, Nat.add_zero, xfa_ptr, d4_ld, B0, reduceIte, reduceEqDiff]
        refine put1d_eq (v := v222) ((xld_b (Sep.bk _ _ _ (Sep.m2 hS252))).trans rfl) ?_
        simp only [d4_mv, put1d_some, f253, d4_fa, Nat.reduceAdd, Nat.zero_add, Nat.add_zero, xfa_ptr, d4_ld, B0, reduceIte, reduceEqDiff]
        refine put1d_eq (v := pv0_2) ((xld_b (Sep.bk _ _ _ hS252)).trans rfl) ?_
        obtain ⟨x266, hx267, hF268⟩ := bind_some' hF263
        simp only [d4_mv, put1d_some, d4_ia, B0, reduceIte, reduceEqDiff]
        obtain ⟨b269, hb270⟩ := SlF.isrow ph0_2 (geti_ne hx267)
        refine put1d_eq (SlF.ia ph0_2 hb270 hx267) ?_
        simp only [d4_ld, B0, reduceIte, reduceEqDiff]
        refine put1d_eq (v := .int .i64 x266) ((SlF.ld (o := 0) ph0_2 (Sep.m5 hS252) hb270 hx267 (fun _ => rfl) (Nat.le_of_ble_eq_true rfl)).trans rfl) ?_
        obtain ⟨x271, hx272, hF273⟩ := bind_some' hF268
        simp only [d4_ia, B0, reduceIte, reduceEqDiff]
        obtain ⟨b274, hb275⟩ := SlF.isrow hv235 (geti_ne hx272)
        refine put1d_eq (SlF.ia hv235 hb275 hx272) ?_
        simp only [d3_st, B0, reduceIte, reduceEqDiff]
        refine put2d_stF (f := cI) (x' := x266) (o := 0) hv235 (Sep.m7 hS252) hW hb275 hx272 (fun _ => rfl) rfl rfl (Nat.le_of_ble_eq_true rfl) rfl
            (fun c278 h276 hv279 hS277 => ?_)
        have hx280 := geti_set (x' := x266) hx272
        simp only [run_draw_nil, run_nil, B0, reduceIte, reduceEqDiff]
        have e281 := some_inj hF273
        exact hN245 _ _ _ e281.symm ⟨c278, f253, f254, f255, f256, f257, hv279,
            (Sep.m9 (Sep.m9 (Sep.m9 (Sep.m9 (Sep.m9 (Sep.m9 (Sep.m9 (Sep.m2 (Sep.m9 (Sep.m9 hS277))))))))))⟩ (f259) (f260)
      rintro s283 fr286 h287 rfl ⟨c284, f289, f290, f291, f292, f293, hv285, hS288⟩
      dsimp only [jnO] at hk241
      unfold spec_l14Step_j1 at hk241
      simp only [run_nil, B0, reduceIte, reduceEqDiff]
      have e294 := some_inj hk241
      exact hN135 _ _ ⟨_, e294.symm, v208, c209, v222, c284, pc0_2, f289, f290, f291, f292, hv210, hv285, ph0_2,
          (Sep.m7 (Sep.m7 (Sep.m7 (Sep.m7 (Sep.m7 (Sep.m7 (Sep.m4 (Sep.m7 (Sep.dc (Sep.m8 (Sep.dc (Sep.m8 hS288))))))))))))⟩
    rw [iteF hc198] at hX132
    simp only [x53_24, run_seq, run_reg, f193, run_fa, put1_some, Nat.reduceAdd, Nat.zero_add, Nat.add_zero, xfa_ref, run_ld, B0, reduceIte, reduceEqDiff]
    refine put1_eq (v := .int .i64 v_1.Kind) rfl ?_
    simp only [run_bin, put1_some, xeql, run_mv, B0, reduceIte, reduceEqDiff]
    obtain ⟨v299, hx300, hF301⟩ := bind_some' hX132
    refine ops_j 6 (fun fr' h' => Sep h' lo ([Blk1 b1 [.int .i64 v_0.Generation, pv0_1, pv0_2, pv0_3] 29] ++ ([Blk1 b9 [.int .i64 0, .nil, .nil,
        .nil] 29] ++ ([Blk1 b90 [.bool x70.In, .int .i64 x70.Generation, v82,
        v86] 37] ++ (c75 ++ (pc0_2 ++ (pc0_3 ++ (c83 ++ (c87 ++ (S0))))))))) ∧ fr' 145 = .bool v299 ∧ fr' 2 = .ptr b1 0 ∧ fr' 3 = .ref [.int .i64 v_1.Kind, .int .i64 v_1.K,
        .int .i64 v_1.Part, .int .i64 v_1.N] 0 ∧ fr' 4 = .ptr b9 0 ∧ fr' 6 = .ptr b90 0) (fun Q296 hN297 => ?_) ?_
    · simp only [List.take_succ_cons, List.take_zero]
      simp only [run_guard (g := 139), B0, reduceIte, reduceEqDiff]
      refine guard_split (t := (decide (v_1.Kind = 4))) (fun hg298 => ?_) (fun hg298 => ?_)
      · rw [iteT hg298] at hx300
        simp only [hg298, run_guard (g := 139), guard_true, f195, run_fa, put1_some, Nat.reduceAdd, Nat.zero_add, Nat.add_zero, xfa_ptr, run_ld, B0, reduceIte, reduceEqDiff]
        refine put1_eq (v := v82) ((xld_b (Sep.bk _ _ _ (Sep.m2 hS197))).trans rfl) ?_
        simp only [hg298, run_guard (g := 139), guard_true, f193, run_fa, put1_some, Nat.reduceAdd, Nat.zero_add, Nat.add_zero, xfa_ref, run_ld, B0, reduceIte, reduceEqDiff]
        refine put1_eq (v := .int .i64 v_1.Part) rfl ?_
        obtain ⟨v302, hx303, hF304⟩ := bind_some' hx300
        simp only [hg298, run_guard (g := 139), guard_true, run_call, B0, reduceIte, reduceEqDiff]
        refine call1 rfl (mapM1 (SlF.snap hv84 (Sep.m6 hS197) rfl (fun _ => rfl) (fun _ => rfl)) (mapM1 snap_int mapM0)) (spec_l1Has_x
            (fun b hb => decide_eq_true hb) x70.Share v_1.Part v302 hx303) ?_
        simp only [hg298, run_pick, put1_some, xpick_t, run_ops_nil, run_nil, B0, reduceIte, reduceEqDiff]
        have e305 := some_inj hF304
        exact hN297 _ _ ⟨(Sep.m7 (Sep.m7 (Sep.m7 (Sep.m7 (Sep.m7 (Sep.m7 (Sep.m7 (Sep.m7 hS197)))))))), by rw [← e305]; simp only [B0, reduceIte, reduceEqDiff], f192, f193, f194,
            f195⟩
      · rw [iteF hg298] at hx300
        simp only [hg298, run_guard (g := 139), guard_off, run_pick, put1_some, xpick_f, run_ops_nil, run_nil, B0, reduceIte, reduceEqDiff]
        have e306 := some_inj hx300
        exact hN297 _ _ ⟨(Sep.m7 (Sep.m7 (Sep.m7 (Sep.m7 (Sep.m7 (Sep.m7 (Sep.m7 (Sep.m7 hS197)))))))), by rw [← e306]; simp only [B0, reduceIte, reduceEqDiff], f192, f193, f194,
            f195⟩
    rintro fr307 h313 ⟨hS314, f308, f309, f310, f311, f312⟩
    simp only [List.drop_succ_cons, List.drop_zero]
    simp only [f308, run_mv, B0, reduceIte, reduceEqDiff]
    refine ops_j 4 (fun fr' h' => Sep h' lo ([Blk1 b1 [.int .i64 v_0.Generation, pv0_1, pv0_2, pv0_3] 29] ++ ([Blk1 b9 [.int .i64 0, .nil, .nil,
        .nil] 29] ++ ([Blk1 b90 [.bool x70.In, .int .i64 x70.Generation, v82,
        v86] 37] ++ (c75 ++ (pc0_2 ++ (pc0_3 ++ (c83 ++ (c87 ++ (S0))))))))) ∧ fr' 150 = .bool (v299 && (decide
        ((1 : Int) ≤ v_1.N))) ∧ fr' 2 = .ptr b1 0 ∧ fr' 3 = .ref [.int .i64 v_1.Kind, .int .i64 v_1.K, .int .i64 v_1.Part,
        .int .i64 v_1.N] 0 ∧ fr' 4 = .ptr b9 0 ∧ fr' 6 = .ptr b90 0) (fun Q315 hN316 => ?_) ?_
    · simp only [List.take_succ_cons, List.take_zero]
      simp only [run_guard (g := 146), B0, reduceIte, reduceEqDiff]
      refine guard_split (t := v299) (fun hg317 => ?_) (fun hg317 => ?_)
      · simp only [hg317, run_guard (g := 146), guard_true, f310, run_fa, put1_some, Nat.reduceAdd, Nat.zero_add, Nat.add_zero, xfa_ref, run_ld, B0, reduceIte, reduceEqDiff]
        refine put1_eq (v := .int .i64 v_1.N) rfl ?_
        simp only [hg317, run_guard (g := 146), guard_true, run_bin, put1_some, xgeq, run_pick, xpick_t, run_ops_nil, run_nil, B0, reduceIte, reduceEqDiff]
        exact hN316 _ _ ⟨(Sep.m7 (Sep.m7 (Sep.m7 (Sep.m7 (Sep.m7 (Sep.m7 (Sep.m7 (Sep.m7 hS314)))))))), by rw [andT hg317]; simp only [B0, reduceIte, reduceEqDiff], f309, f310,
            f311, f312⟩
      · simp only [hg317, run_guard (g := 146), guard_off, run_pick, put1_some, xpick_f, run_ops_nil, run_nil, B0, reduceIte, reduceEqDiff]
        exact hN316 _ _ ⟨(Sep.m7 (Sep.m7 (Sep.m7 (Sep.m7 (Sep.m7 (Sep.m7 (Sep.m7 (Sep.m7 hS314)))))))), by rw [andF hg317]; simp only [B0, reduceIte, reduceEqDiff], f309, f310,
            f311, f312⟩
    rintro fr318 h324 ⟨hS325, f319, f320, f321, f322, f323⟩
    simp only [List.drop_succ_cons, List.drop_zero]
    simp only [f319, run_mv, run_ops_nil, x53_23, run_cond, B0, reduceIte, reduceEqDiff]
    refine cond_split (t := (v299 && (decide ((1 : Int) ≤ v_1.N)))) (fun hc326 => ?_) (fun hc326 => ?_)
    · rw [iteT hc326] at hF301
      simp only [x53_17, run_seq, run_draw, f321, d4_fa, put1d_some, Nat.reduceAdd, Nat.zero_add, Nat.add_zero, xfa_ref, d4_ld, B0, reduceIte, reduceEqDiff]
      refine put1d_eq (v := .int .i64 v_1.N) rfl ?_
      simp only [f320, d4_fa, put1d_some, Nat.reduceAdd, Nat.zero_add, Nat.add_zero, xfa_ptr, d4_ld, B0, reduceIte, reduceEqDiff]
      refine put1d_eq (v := pv0_3) ((xld_b (Sep.bk _ _ _ hS325)).trans rfl) ?_
      simp only [f321, d4_fa, put1d_some, Nat.reduceAdd, Nat.zero_add, Nat.add_zero, xfa_ref, d4_ld, B0, reduceIte, reduceEqDiff]
      refine put1d_eq (v := .int .i64 v_1.Part) rfl ?_
      obtain ⟨x327, hx328, hF329⟩ := bind_some' hF301
      simp only [d4_ia, B0, reduceIte, reduceEqDiff]
      obtain ⟨b330, hb331⟩ := SlF.isrow ph0_3 (geti_ne hx328)
      refine put1d_eq (SlF.ia ph0_3 hb331 hx328) ?_
      simp only [d4_ld, B0, reduceIte, reduceEqDiff]
      refine put1d_eq (v := .int .i64 x327) ((SlF.ld (o := 0) ph0_3 (Sep.m5 hS325) hb331 hx328 (fun _ => rfl) (Nat.le_of_ble_eq_true rfl)).trans rfl) ?_
      simp only [f323, d4_fa, put1d_some, Nat.reduceAdd, Nat.zero_add, Nat.add_zero, xfa_ptr, d4_ld, B0, reduceIte, reduceEqDiff]
      refine put1d_eq (v := v86) ((xld_b (Sep.bk _ _ _ (Sep.m2 hS325))).trans rfl) ?_
      simp only [f321, d4_fa, put1d_some, Nat.reduceAdd, Nat.zero_add, Nat.add_zero, xfa_ref, d4_ld, B0, reduceIte, reduceEqDiff]
      refine put1d_eq (v := .int .i64 v_1.Part) rfl ?_
      obtain ⟨x332, hx333, hF334⟩ := bind_some' hF329
      simp only [d4_ia, B0, reduceIte, reduceEqDiff]
      obtain ⟨b335, hb336⟩ := SlF.isrow hv88 (geti_ne hx333)
      refine put1d_eq (SlF.ia hv88 hb336 hx333) ?_
      simp only [d4_ld, B0, reduceIte, reduceEqDiff]
      refine put1d_eq (v := .int .i64 x332) ((SlF.ld (o := 0) hv88 (Sep.m7 hS325) hb336 hx333 (fun _ => rfl) (Nat.le_of_ble_eq_true rfl)).trans rfl) ?_
      simp only [d4_bin, put1d_some, xsub, xgeq, run_draw_nil, x53_16, run_cond, B0, reduceIte, reduceEqDiff]
      refine cond_split (t := (decide ((IntKind.wrap .i64 (x327 - x332)) ≤ v_1.N))) (fun hc337 => ?_) (fun hc337 => ?_)
      · rw [iteT hc337] at hF334
        simp only [x53_14, run_draw, f323, d4_fa, put1d_some, Nat.reduceAdd, Nat.zero_add, Nat.add_zero, xfa_ptr, d4_ld, B0, reduceIte, reduceEqDiff]
        refine put1d_eq (v := v86) ((xld_b (Sep.bk _ _ _ (Sep.m2 hS325))).trans rfl) ?_
        simp only [f321, d4_fa, put1d_some, Nat.reduceAdd, Nat.zero_add, Nat.add_zero, xfa_ref, d4_ld, B0, reduceIte, reduceEqDiff]
        refine put1d_eq (v := .int .i64 v_1.Part) rfl ?_
        simp only [f320, d4_fa, put1d_some, Nat.reduceAdd, Nat.zero_add, Nat.add_zero, xfa_ptr, d4_ld, B0, reduceIte, reduceEqDiff]
        refine put1d_eq (v := pv0_3) ((xld_b (Sep.bk _ _ _ hS325)).trans rfl) ?_
        simp only [f321, d4_fa, put1d_some, Nat.reduceAdd, Nat.zero_add, Nat.add_zero, xfa_ref, d4_ld, B0, reduceIte, reduceEqDiff]
        refine put1d_eq (v := .int .i64 v_1.Part) rfl ?_
        simp only [d4_ia, B0, reduceIte, reduceEqDiff]
        refine put1d_eq (SlF.ia ph0_3 hb331 hx328) ?_
        simp only [d4_ld, B0, reduceIte, reduceEqDiff]
        refine put1d_eq (v := .int .i64 x327) ((SlF.ld (o := 0) ph0_3 (Sep.m5 hS325) hb331 hx328 (fun _ => rfl) (Nat.le_of_ble_eq_true rfl)).trans rfl) ?_
        simp only [d4_ia, B0, reduceIte, reduceEqDiff]
        refine put1d_eq (SlF.ia hv88 hb336 hx333) ?_
        simp only [d3_st, B0, reduceIte, reduceEqDiff]
        refine put2d_stF (f := cI) (x' := x327) (o := 0) hv88 (Sep.m7 hS325) hW hb336 hx333 (fun _ => rfl) rfl rfl (Nat.le_of_ble_eq_true rfl) rfl (fun c340 h338 hv341 hS339 => ?_)
        have hx342 := geti_set (x' := x327) hx333
        simp only [run_draw_nil, run_nil, B0, reduceIte, reduceEqDiff]
        have e343 := some_inj hF334
        exact hN135 _ _ ⟨_, e343.symm, v82, c83, v86, c340, pc0_2, f320, f321, f322, f323, hv84, hv341, ph0_2, (Sep.m7 (Sep.m7 (Sep.m7 (Sep.m7 (Sep.m7 (Sep.m7 (Sep.m7 hS339)))))))⟩
      rw [iteF hc337] at hF334
      simp only [x53_15, run_draw, f323, d4_fa, put1d_some, Nat.reduceAdd, Nat.zero_add, Nat.add_zero, xfa_ptr, d4_ld, B0, reduceIte, reduceEqDiff]
      refine put1d_eq (v := v86) ((xld_b (Sep.bk _ _ _ (Sep.m2 hS325))).trans rfl) ?_
      simp only [f321, d4_fa, put1d_some, Nat.reduceAdd, Nat.zero_add, Nat.add_zero, xfa_ref, d4_ld, B0, reduceIte, reduceEqDiff]
      refine put1d_eq (v := .int .i64 v_1.Part) rfl ?_
      simp only [d4_ia, B0, reduceIte, reduceEqDiff]
      refine put1d_eq (SlF.ia hv88 hb336 hx333) ?_
      simp only [d4_ld, B0, reduceIte, reduceEqDiff]
      refine put1d_eq (v := .int .i64 x332) ((SlF.ld (o := 0) hv88 (Sep.m7 hS325) hb336 hx333 (fun _ => rfl) (Nat.le_of_ble_eq_true rfl)).trans rfl) ?_
      simp only [f321, d4_fa, put1d_some, Nat.reduceAdd, Nat.zero_add, Nat.add_zero, xfa_ref, d4_ld, B0, reduceIte, reduceEqDiff]
      refine put1d_eq (v := .int .i64 v_1.N) rfl ?_
      simp only [d4_bin, put1d_some, xadd, d4_ia, B0, reduceIte, reduceEqDiff]
      refine put1d_eq (SlF.ia hv88 hb336 hx333) ?_
      simp only [d3_st, B0, reduceIte, reduceEqDiff]
      refine put2d_stF (f := cI) (x' := (IntKind.wrap .i64 (x332 + v_1.N))) (o := 0) hv88 (Sep.m7 hS325) hW hb336 hx333 (fun _ => rfl) rfl rfl (Nat.le_of_ble_eq_true rfl) rfl
          (fun c346 h344 hv347 hS345 => ?_)
      have hx348 := geti_set (x' := (IntKind.wrap .i64 (x332 + v_1.N))) hx333
      simp only [run_draw_nil, run_nil, B0, reduceIte, reduceEqDiff]
      have e349 := some_inj hF334
      exact hN135 _ _ ⟨_, e349.symm, v82, c83, v86, c346, pc0_2, f320, f321, f322, f323, hv84, hv347, ph0_2, (Sep.m7 (Sep.m7 (Sep.m7 (Sep.m7 (Sep.m7 (Sep.m7 (Sep.m7 hS345)))))))⟩
    rw [iteF hc326] at hF301
    simp only [x53_22, run_seq, run_reg, f321, run_fa, put1_some, Nat.reduceAdd, Nat.zero_add, Nat.add_zero, xfa_ref, run_ld, B0, reduceIte, reduceEqDiff]
    refine put1_eq (v := .int .i64 v_1.Kind) rfl ?_
    simp only [run_bin, put1_some, xeql, run_mv, B0, reduceIte, reduceEqDiff]
    refine ops_j 6 (fun fr' h' => Sep h' lo ([Blk1 b1 [.int .i64 v_0.Generation, pv0_1, pv0_2, pv0_3] 29] ++ ([Blk1 b9 [.int .i64 0, .nil, .nil,
        .nil] 29] ++ ([Blk1 b90 [.bool x70.In, .int .i64 x70.Generation, v82,
        v86] 37] ++ (c75 ++ (pc0_2 ++ (pc0_3 ++ (c83 ++ (c87 ++ (S0))))))))) ∧ fr' 198 = .bool ((decide (v_1.Kind = 5)) && (decide
        (x70.Generation = v_0.Generation))) ∧ fr' 2 = .ptr b1 0 ∧ fr' 3 = .ref [.int .i64 v_1.Kind, .int .i64 v_1.K, .int .i64 v_1.Part,
        .int .i64 v_1.N] 0 ∧ fr' 4 = .ptr b9 0 ∧ fr' 6 = .ptr b90 0) (fun Q350 hN351 => ?_) ?_
    · simp only [List.take_succ_cons, List.take_zero]
      simp only [run_guard (g := 192), B0, reduceIte, reduceEqDiff]
      refine guard_split (t := (decide (v_1.Kind = 5))) (fun hg352 => ?_) (fun hg352 => ?_)
      · simp only [hg352, run_guard (g := 192), guard_true, f323, run_fa, put1_some, Nat.reduceAdd, Nat.zero_add, Nat.add_zero, xfa_ptr, run_ld, B0, reduceIte, reduceEqDiff]
        refine put1_eq (v := .int .i64 x70.Generation) ((xld_b (Sep.bk _ _ _ (Sep.m2 hS325))).trans rfl) ?_
        simp only [hg352, run_guard (g := 192), guard_true, f320, run_fa, put1_some, Nat.reduceAdd, Nat.zero_add, Nat.add_zero, xfa_ptr, run_ld, B0, reduceIte, reduceEqDiff]
        refine put1_eq (v := .int .i64 v_0.Generation) ((xld_b (Sep.bk _ _ _ hS325)).trans rfl) ?_
        simp only [hg352, run_guard (g := 192), guard_true, run_bin, put1_some, xeql, run_pick, xpick_t, run_ops_nil, run_nil, B0, reduceIte, reduceEqDiff]
        exact hN351 _ _ ⟨(Sep.m7 (Sep.m7 (Sep.m7 (Sep.m7 (Sep.m7 (Sep.m7 (Sep.m7 (Sep.m7 hS325)))))))), by rw [andT hg352]; simp only [B0, reduceIte, reduceEqDiff], f320, f321,
            f322, f323⟩
      · simp only [hg352, run_guard (g := 192), guard_off, run_pick, put1_some, xpick_f, run_ops_nil, run_nil, B0, reduceIte, reduceEqDiff]
        exact hN351 _ _ ⟨(Sep.m7 (Sep.m7 (Sep.m7 (Sep.m7 (Sep.m7 (Sep.m7 (Sep.m7 (Sep.m7 hS325)))))))), by rw [andF hg352]; simp only [B0, reduceIte, reduceEqDiff], f320, f321,
            f322, f323⟩
    rintro fr353 h359 ⟨hS360, f354, f355, f356, f357, f358⟩
    simp only [List.drop_succ_cons, List.drop_zero]
    simp only [f354, run_mv, B0, reduceIte, reduceEqDiff]
    obtain ⟨v364, hx365, hF366⟩ := bind_some' hF301
    refine ops_j 6 (fun fr' h' => Sep h' lo ([Blk1 b1 [.int .i64 v_0.Generation, pv0_1, pv0_2, pv0_3] 29] ++ ([Blk1 b9 [.int .i64 0, .nil, .nil,
        .nil] 29] ++ ([Blk1 b90 [.bool x70.In, .int .i64 x70.Generation, v82,
        v86] 37] ++ (c75 ++ (pc0_2 ++ (pc0_3 ++ (c83 ++ (c87 ++ (S0))))))))) ∧ fr' 205 = .bool v364 ∧ fr' 2 = .ptr b1 0 ∧ fr' 3 = .ref [.int .i64 v_1.Kind, .int .i64 v_1.K,
        .int .i64 v_1.Part, .int .i64 v_1.N] 0 ∧ fr' 4 = .ptr b9 0 ∧ fr' 6 = .ptr b90 0) (fun Q361 hN362 => ?_) ?_
    · simp only [List.take_succ_cons, List.take_zero]
      simp only [run_guard (g := 199), B0, reduceIte, reduceEqDiff]
      refine guard_split (t := ((decide (v_1.Kind = 5)) && (decide (x70.Generation = v_0.Generation)))) (fun hg363 => ?_) (fun hg363 => ?_)
      · rw [iteT hg363] at hx365
        simp only [hg363, run_guard (g := 199), guard_true, f358, run_fa, put1_some, Nat.reduceAdd, Nat.zero_add, Nat.add_zero, xfa_ptr, run_ld, B0, reduceIte, reduceEqDiff]
        refine put1_eq (v := v82) ((xld_b (Sep.bk _ _ _ (Sep.m2 hS360))).trans rfl) ?_
        simp only [hg363, run_guard (g := 199), guard_true, f356, run_fa, put1_some, Nat.reduceAdd, Nat.zero_add, Nat.add_zero, xfa_ref, run_ld, B0, reduceIte, reduceEqDiff]
        refine put1_eq (v := .int .i64 v_1.Part) rfl ?_
        obtain ⟨v367, hx368, hF369⟩ := bind_some' hx365
        simp only [hg363, run_guard (g := 199), guard_true, run_call, B0, reduceIte, reduceEqDiff]
        refine call1 rfl (mapM1 (SlF.snap hv84 (Sep.m6 hS360) rfl (fun _ => rfl) (fun _ => rfl)) (mapM1 snap_int mapM0)) (spec_l1Has_x
            (fun b hb => decide_eq_true hb) x70.Share v_1.Part v367 hx368) ?_
        simp only [hg363, run_pick, put1_some, xpick_t, run_ops_nil, run_nil, B0, reduceIte, reduceEqDiff]
        have e370 := some_inj hF369
        exact hN362 _ _ ⟨(Sep.m7 (Sep.m7 (Sep.m7 (Sep.m7 (Sep.m7 (Sep.m7 (Sep.m7 (Sep.m7 hS360)))))))), by rw [← e370]; simp only [B0, reduceIte, reduceEqDiff], f355, f356, f357,
            f358⟩
      · rw [iteF hg363] at hx365
        simp only [hg363, run_guard (g := 199), guard_off, run_pick, put1_some, xpick_f, run_ops_nil, run_nil, B0, reduceIte, reduceEqDiff]
        have e371 := some_inj hx365
        exact hN362 _ _ ⟨(Sep.m7 (Sep.m7 (Sep.m7 (Sep.m7 (Sep.m7 (Sep.m7 (Sep.m7 (Sep.m7 hS360)))))))), by rw [← e371]; simp only [B0, reduceIte, reduceEqDiff], f355, f356, f357,
            f358⟩
    rintro fr372 h378 ⟨hS379, f373, f374, f375, f376, f377⟩
    simp only [List.drop_succ_cons, List.drop_zero]
    simp only [f373, run_mv, run_ops_nil, x53_21, run_cond, B0, reduceIte, reduceEqDiff]
    refine cond_split (t := v364) (fun hc380 => ?_) (fun hc380 => ?_)
    · rw [iteT hc380] at hF366
      simp only [x53_20, run_seq, run_draw, f377, d4_fa, put1d_some, Nat.reduceAdd, Nat.zero_add, Nat.add_zero, xfa_ptr, d4_ld, B0, reduceIte, reduceEqDiff]
      refine put1d_eq (v := v86) ((xld_b (Sep.bk _ _ _ (Sep.m2 hS379))).trans rfl) ?_
      simp only [f375, d4_fa, put1d_some, Nat.reduceAdd, Nat.zero_add, Nat.add_zero, xfa_ref, d4_ld, B0, reduceIte, reduceEqDiff]
      refine put1d_eq (v := .int .i64 v_1.Part) rfl ?_
      obtain ⟨x381, hx382, hF383⟩ := bind_some' hF366
      simp only [d4_ia, B0, reduceIte, reduceEqDiff]
      obtain ⟨b384, hb385⟩ := SlF.isrow hv88 (geti_ne hx382)
      refine put1d_eq (SlF.ia hv88 hb385 hx382) ?_
      simp only [d4_ld, B0, reduceIte, reduceEqDiff]
      refine put1d_eq (v := .int .i64 x381) ((SlF.ld (o := 0) hv88 (Sep.m7 hS379) hb385 hx382 (fun _ => rfl) (Nat.le_of_ble_eq_true rfl)).trans rfl) ?_
      simp only [f374, d4_fa, put1d_some, Nat.reduceAdd, Nat.zero_add, Nat.add_zero, xfa_ptr, d4_ld, B0, reduceIte, reduceEqDiff]
      refine put1d_eq (v := pv0_2) ((xld_b (Sep.bk _ _ _ hS379)).trans rfl) ?_
      simp only [f375, d4_fa, put1d_some, Nat.reduceAdd, Nat.zero_add, Nat.add_zero, xfa_ref, d4_ld, B0, reduceIte, reduceEqDiff]
      refine put1d_eq (v := .int .i64 v_1.Part) rfl ?_
      obtain ⟨x386, hx387, hF388⟩ := bind_some' hF383
      simp only [d4_ia, B0, reduceIte, reduceEqDiff]
      obtain ⟨b389, hb390⟩ := SlF.isrow ph0_2 (geti_ne hx387)
      refine put1d_eq (SlF.ia ph0_2 hb390 hx387) ?_
      simp only [d4_ld, B0, reduceIte, reduceEqDiff]
      refine put1d_eq (v := .int .i64 x386) ((SlF.ld (o := 0) ph0_2 (Sep.m4 hS379) hb390 hx387 (fun _ => rfl) (Nat.le_of_ble_eq_true rfl)).trans rfl) ?_
      simp only [d4_bin, put1d_some, xgtr, run_draw_nil, x53_19, run_cond, B0, reduceIte, reduceEqDiff]
      refine cond_split (t := (decide (x386 < x381))) (fun hc391 => ?_) (fun hc391 => ?_)
      · rw [iteT hc391] at hF388
        simp only [x53_18, run_draw, f374, d4_fa, put1d_some, Nat.reduceAdd, Nat.zero_add, Nat.add_zero, xfa_ptr, d4_ld, B0, reduceIte, reduceEqDiff]
        refine put1d_eq (v := pv0_2) ((xld_b (Sep.bk _ _ _ hS379)).trans rfl) ?_
        simp only [f375, d4_fa, put1d_some, Nat.reduceAdd, Nat.zero_add, Nat.add_zero, xfa_ref, d4_ld, B0, reduceIte, reduceEqDiff]
        refine put1d_eq (v := .int .i64 v_1.Part) rfl ?_
        simp only [f377, d4_fa, put1d_some, Nat.reduceAdd, Nat.zero_add, Nat.add_zero, xfa_ptr, d4_ld, B0, reduceIte, reduceEqDiff]
        refine put1d_eq (v := v86) ((xld_b (Sep.bk _ _ _ (Sep.m2 hS379))).trans rfl) ?_
        simp only [f375, d4_fa, put1d_some, Nat.reduceAdd, Nat.zero_add, Nat.add_zero, xfa_ref, d4_ld, B0, reduceIte, reduceEqDiff]
        refine put1d_eq (v := .int .i64 v_1.Part) rfl ?_
        simp only [d4_ia, B0, reduceIte, reduceEqDiff]
        refine put1d_eq (SlF.ia hv88 hb385 hx382) ?_
        simp only [d4_ld, B0, reduceIte, reduceEqDiff]
        refine put1d_eq (v := .int .i64 x381) ((SlF.ld (o := 0) hv88 (Sep.m7 hS379) hb385 hx382 (fun _ => rfl) (Nat.le_of_ble_eq_true rfl)).trans rfl) ?_
        simp only [d4_ia, B0, reduceIte, reduceEqDiff]
        refine put1d_eq (SlF.ia ph0_2 hb390 hx387) ?_
        simp only [d3_st, B0, reduceIte, reduceEqDiff]
        refine put2d_stF (f := cI) (x' := x381) (o := 0) ph0_2 (Sep.m4 hS379) hW hb390 hx387 (fun _ => rfl) rfl rfl (Nat.le_of_ble_eq_true rfl) rfl
            (fun c394 h392 hv395 hS393 => ?_)
        have hx396 := geti_set (x' := x381) hx387
        simp only [run_draw_nil, run_nil, B0, reduceIte, reduceEqDiff]
        have e397 := some_inj hF388
        exact hN135 _ _ ⟨_, e397.symm, v82, c83, v86, c87, c394, f374, f375, f376, f377, hv84, hv88, hv395,
            (Sep.m7 (Sep.m7 (Sep.m7 (Sep.m7 (Sep.m3 (Sep.m7 (Sep.m7 (Sep.m7 hS393))))))))⟩
      rw [iteF hc391] at hF388
      simp only [run_skip, run_nil, B0, reduceIte, reduceEqDiff]
      have e398 := some_inj hF388
      exact hN135 _ _ ⟨_, e398.symm, v82, c83, v86, c87, pc0_2, f374, f375, f376, f377, hv84, hv88, ph0_2,
          (Sep.m7 (Sep.m7 (Sep.m7 (Sep.m7 (Sep.m7 (Sep.m7 (Sep.m7 (Sep.m7 hS379))))))))⟩
    rw [iteF hc380] at hF366
    simp only [run_seq, run_reg, f374, run_ld, B0, reduceIte, reduceEqDiff]
    refine put1_eq (v := .agg [.int .i64 v_0.Generation, pv0_1, pv0_2, pv0_3]) ((xld_bs (Sep.bk _ _ _ hS379)).trans rfl) ?_
    simp only [f376, run_st, B0, reduceIte, reduceEqDiff]
    refine put2_stCx (us := [.int .i64 v_0.Generation, pv0_1, pv0_2, pv0_3]) rfl (cs' := [.int .i64 v_0.Generation, pv0_1, pv0_2,
        pv0_3]) (Sep.m1 hS379) hW rfl (all_c rfl (all_c (SlG.one hv78) (all_c (SlF.one ph0_2) (all_c (SlF.one ph0_3) all_n)))) (Nat.le_of_ble_eq_true rfl) rfl
        (fun h399 hS400 => ?_)
    simp only [run_mv, run_ops_nil, run_ret, B0, reduceIte, reduceEqDiff]
    have e401 := some_inj hF366
    subst e401
    have hk133' := hk133
    dsimp only [jnO] at hk133'
    apply hR136
    obtain ⟨c402, hv403, hS404⟩ := SlG.cls0 (c := c75) (os := c83 ++ (c87)) hv78 rfl hx71 hk_nil (Reader.RI (x := x70) hv84 hv88) (Sep.ni2 (c1 := c83) (c2 := c87) (Sep.m5 (Sep.m7
        (Sep.m7 hS400))))
    have hv405 := SlG.toN hv403
    have he := some_inj hk133'
    subst he
    refine end_ret_m (mapM1 (res_cell (bb := b9) (oo := 0) (v := .agg [.int .i64 v_0.Generation, pv0_1, pv0_2,
        pv0_3]) (f376) ((xld_bs (Sep.bk _ _ _ (Sep.m1 hS404))).trans rfl)) (mapM1 (res_t (v := .bool false) (rfl)) mapM0)) ?_
    exact ⟨c402, pc0_2, pc0_3, by first | trivial | rfl, hv405, ph0_2, ph0_3, (Sep.m2 (Sep.m2 (Sep.m2 (Sep.dc (Sep.m1 (Sep.dc (Sep.m1 (Sep.dc (Sep.m1 hS404)))))))))⟩
  rintro fr406 h407 ⟨⟨s118, s119, s128⟩, rfl, v121, c122, v125, c126, c129, f409, f410, f411, f412, hv123, hv127, hv130, hS408⟩
  dsimp only [jnO] at hk133
  dsimp only at *
  unfold spec_l14Step_j2 at hk133
  simp only [run_blk, x53_33, run_seq, run_reg, f409, run_fa, put1_some, Nat.reduceAdd, Nat.zero_add, Nat.add_zero, xfa_ptr, run_ld, B0, reduceIte, reduceEqDiff]
  refine put1_eq (v := pv0_1) ((xld_b (Sep.bk _ _ _ hS408)).trans rfl) ?_
  simp only [f410, run_fa, put1_some, Nat.reduceAdd, Nat.zero_add, Nat.add_zero, xfa_ref, run_ld, B0, reduceIte, reduceEqDiff]
  refine put1_eq (v := .int .i64 v_1.K) rfl ?_
  simp only [f412, run_ld, B0, reduceIte, reduceEqDiff]
  refine put1_eq (v := .agg [.bool s119.In, .int .i64 s119.Generation, v121, v125]) ((xld_bs (Sep.bk _ _ _ (Sep.m2 hS408))).trans rfl) ?_
  simp only [run_ia, B0, reduceIte, reduceEqDiff]
  refine put1_eq (SlG.ia hv78 hx71) ?_
  simp only [run_st, B0, reduceIte, reduceEqDiff]
  refine put2_stGx (us := [.bool s119.In, .int .i64 s119.Generation, v121, v125]) (o := 0) (cs' := [.bool s119.In, .int .i64 s119.Generation, v121,
      v125]) rfl hv78 rfl hx71 (Sep.m3 hS408) hW rfl (all_c rfl (all_c rfl (all_c (SlF.one hv123) (all_c (SlF.one hv127) all_n)))) (Nat.le_of_ble_eq_true rfl) rfl
      (fun c415 h413 hv416 hS414 => ?_)
  simp only [run_ops_nil, run_seq, run_reg, f409, run_ld, B0, reduceIte, reduceEqDiff]
  refine put1_eq (v := .agg [.int .i64 s118.Generation, pv0_1, pv0_2, pv0_3]) ((xld_bs (Sep.bk _ _ _ (Sep.m1 hS414))).trans rfl) ?_
  simp only [f411, run_st, B0, reduceIte, reduceEqDiff]
  refine put2_stCx (us := [.int .i64 s118.Generation, pv0_1, pv0_2, pv0_3]) rfl (cs' := [.int .i64 s118.Generation, pv0_1, pv0_2,
      pv0_3]) (Sep.m2 hS414) hW rfl (all_c rfl (all_c (SlG.one hv416) (all_c (SlF.one hv130) (all_c (SlF.one ph0_3) all_n)))) (Nat.le_of_ble_eq_true rfl) rfl (fun h417 hS418 => ?_)
  simp only [run_mv, run_ops_nil, run_ret, B0, reduceIte, reduceEqDiff]
  obtain ⟨c419, hv420, hS421⟩ := SlG.cls (e' := s119) (c := c415) (os := c122 ++ (c126)) hv416 rfl hx71 hk_nil (Reader.RI (x := s119) hv123 hv127) (Sep.ni2 (c1 := c122)
      (c2 := c126) (Sep.m3 (Sep.m7 (Sep.m7 hS418))))
  have hx422 := geti_set (x' := s119) hx71
  have hv423 := SlG.toN hv420
  have he := some_inj hk133
  subst he
  refine end_ret_m (mapM1 (res_cell (bb := b9) (oo := 0) (v := .agg [.int .i64 s118.Generation, pv0_1, pv0_2,
      pv0_3]) (f411) ((xld_bs (Sep.bk _ _ _ (Sep.m1 hS421))).trans rfl)) (mapM1 (res_t (v := .bool true) (rfl)) mapM0)) ?_
  exact ⟨c419, c129, pc0_3, by first | trivial | rfl, hv423, hv130, ph0_3, (Sep.m2 (Sep.m2 (Sep.m2 (Sep.dc (Sep.m1 (Sep.dc (Sep.m1 (Sep.dc (Sep.m1 hS421)))))))))⟩
end Go.Proofs.Ytdhibknhejhfaaa.X
