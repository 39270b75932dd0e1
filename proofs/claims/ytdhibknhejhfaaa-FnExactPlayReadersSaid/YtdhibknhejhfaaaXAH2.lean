/- The functions' code comes to what the plain functions say (2). -/
import Derived.Test.YtdhibknhejhfaaaXAH1
set_option linter.unusedVariables false
set_option linter.unusedSimpArgs false
set_option maxRecDepth 100000
namespace Go.Proofs.Ytdhibknhejhfaaa.X
open Go
theorem impl_PlayReaders_x {W : Nat → Bool} {h : Heap} (hW : ∀ b,
    h.length ≤ b → W b = true) (readers_0 : Int) (ends_1 : List Int) (l_2 : List GroupStep) (r : Readers_ × (List Bool) × Bool)
    (hF : impl_PlayReaders readers_0 ends_1 l_2 = some r) : Ret E W 8 [.int .i64 readers_0, lst cI ends_1,
    lst GroupStep.cells l_2] h (fun v h' => ∃ rv0_1 rc0_1 rv0_2 rc0_2 rv0_3 rc0_3 rv1 rc1, v = .tup [.agg [.int .i64 r.1.Generation, rv0_1, rv0_2, rv0_3], rv1,
    .bool r.2.2] ∧ SlN Reader.R 4 37 rv0_1 r.1.Readers rc0_1 ∧ SlF cI 1 3 rv0_2 r.1.Committed rc0_2 ∧ SlF cI 1 3 rv0_3 r.1.Ends rc0_3 ∧ SlF cB 1 4 rv1 r.2.1 rc1 ∧ Sep h' h.length
    (rc0_1 ++ (rc0_2 ++ (rc0_3 ++ (rc1 ++ ([])))))) := by
  refine Ret.of (fn := x8) rfl (Run.of ?_)
  unfold impl_PlayReaders at hF
  have zf0 : argFr [.int .i64 readers_0, lst cI ends_1, lst GroupStep.cells l_2] 0 = .int .i64 readers_0 := rfl
  have zf1 : argFr [.int .i64 readers_0, lst cI ends_1, lst GroupStep.cells l_2] 1 = lst cI ends_1 := rfl
  have zf2 : argFr [.int .i64 readers_0, lst cI ends_1, lst GroupStep.cells l_2] 2 = lst GroupStep.cells l_2 := rfl
  generalize argFr [.int .i64 readers_0, lst cI ends_1, lst GroupStep.cells l_2] = fr0 at zf0 zf1 zf2 ⊢
  have hS : Sep h h.length [] := Sep.nil h
  simp only [x8, run_seq, run_reg, run_new, put_at, put_no, ev_t, ev_c, reduceIte, Nat.reduceEqDiff, List.map_cons, List.map_nil]
  refine put2_newC hS (fun b1 h2 hS3 => ?_)
  obtain ⟨v5, hx6, hF7⟩ := bind_some' hF
  simp only [run_mv, run_ops_nil, x8_11, run_seq, run_reg, zf0, zf1, run_call, put_at, put_no, ev_t, ev_c, reduceIte, Nat.reduceEqDiff, List.map_cons, List.map_nil]
  refine call2 rfl hS3 (mapM1 snap_int (mapM1 snap_lst mapM0)) (impl_newReaders_x (fun b hb => decide_eq_true hb) readers_0 ends_1 v5 hx6) ?_
  rintro _ h20 ⟨v8, c9, v12, c13, v16, c17, rfl, hv10, hv14, hv18, hS21⟩
  refine ⟨_, free_t (all_c (free2_a (all_c rfl (all_c (SlN.free1 hv10) (all_c (SlF.free1 hv14) (all_c (SlF.free1 hv18) all_n))))) (all_c rfl all_n)), hS21,
      (pf_app (SlN.pf hv10 Reader.RO) (pf_app (SlF.pf hv14 (fun _ => rfl)) (pf_app (SlF.pf hv18 (fun _ => rfl)) pf_nil))), fun h22 hS23 => ?_⟩
  have hS24 : Sep h22 h.length (c9 ++ (c13 ++ (c17 ++ ([Blk1 b1 [.int .i64 0, .nil, .nil, .nil] 29] ++ ([]))))) := by simpa only [List.append_assoc, List.nil_append] using hS23
  simp only [run_mv, run_ext, put1_some, xext_0, xext_1, run_new, put_at, put_no, ev_t, ev_c, reduceIte, Nat.reduceEqDiff, List.map_cons, List.map_nil]
  refine put2_newC hS24 (fun b25 h26 hS27 => ?_)
  simp only [run_st, put_at, put_no, ev_t, ev_c, reduceIte, Nat.reduceEqDiff, List.map_cons, List.map_nil]
  refine put2_stCx (us := [.int .i64 v5.1.Generation, v8, v12, v16]) rfl (cs' := [.int .i64 v5.1.Generation, v8, v12,
      v16]) hS27 hW rfl (all_c rfl (all_c (SlN.one hv10) (all_c (SlF.one hv14) (all_c (SlF.one hv18) all_n)))) (Nat.le_of_ble_eq_true rfl) rfl (fun h29 hS30 => ?_)
  simp only [put_no, run_mv, run_ops_nil, x8_10, run_seq, run_reg, run_un, put1_some, xnot, put_at, ev_t, ev_c, reduceIte, Nat.reduceEqDiff, List.map_cons, List.map_nil]
  refine ops_j 4 (fun fr' h' => Sep h' h.length ([Blk1 b1 [.int .i64 0, .nil, .nil, .nil] 29] ++ ([Blk1 b25 [.int .i64 v5.1.Generation, v8, v12,
      v16] 29] ++ (c9 ++ (c13 ++ (c17 ++ ([])))))) ∧ fr' 26 = .bool ((!v5.2) || (decide ((80 : Int) <
      (List.length l_2 : Int)))) ∧ fr' 2 = lst GroupStep.cells l_2 ∧ fr' 6 = .ptr b1 0 ∧ fr' 9 = .ptr b25 0) (fun Q31 hN32 => ?_) ?_
  · simp only [List.take_succ_cons, List.take_zero]
    simp only [run_guard (g := 22), put_at, put_no, ev_t, ev_c, reduceIte, Nat.reduceEqDiff, List.map_cons, List.map_nil]
    refine guard_split (t := (!v5.2)) (fun hg33 => ?_) (fun hg33 => ?_)
    · simp only [hg33, run_guard (g := 22), guard_off', run_pick, put1_some, xpick_t, run_ops_nil, run_nil, put_at, put_no, ev_t, ev_c, reduceIte, Nat.reduceEqDiff, List.map_cons,
        List.map_nil]
      exact hN32 _ _ ⟨(Sep.m4 (Sep.m3 (Sep.m3 (Sep.m3 (Sep.m3 hS30))))), by rw [orT hg33]; simp only [put_at, put_no, ev_t, ev_c, reduceIte, Nat.reduceEqDiff, List.map_cons,
          List.map_nil], by simp only [zf2, put_at, put_no, ev_t, ev_c, reduceIte, Nat.reduceEqDiff, List.map_cons, List.map_nil], by simp only [put_at, put_no, ev_t, ev_c,
          reduceIte, Nat.reduceEqDiff, List.map_cons, List.map_nil], by simp only [put_at, put_no, ev_t, ev_c, reduceIte, Nat.reduceEqDiff, List.map_cons, List.map_nil]⟩
    · simp only [hg33, run_guard (g := 22), guard_false, zf2, run_mv, run_len, put1_some, xlen_lst, run_bin, xgtr, run_pick, xpick_f, run_ops_nil, run_nil, put_at, put_no, ev_t,
        ev_c, reduceIte, Nat.reduceEqDiff, List.map_cons, List.map_nil]
      exact hN32 _ _ ⟨(Sep.m4 (Sep.m3 (Sep.m3 (Sep.m3 (Sep.m3 hS30))))), by rw [orF hg33]; simp only [put_at, put_no, ev_t, ev_c, reduceIte, Nat.reduceEqDiff, List.map_cons,
          List.map_nil], by simp only [zf2, put_at, put_no, ev_t, ev_c, reduceIte, Nat.reduceEqDiff, List.map_cons, List.map_nil], by simp only [put_at, put_no, ev_t, ev_c,
          reduceIte, Nat.reduceEqDiff, List.map_cons, List.map_nil], by simp only [put_at, put_no, ev_t, ev_c, reduceIte, Nat.reduceEqDiff, List.map_cons, List.map_nil]⟩
  · rintro fr34 h39 ⟨hS40, f35, f36, f37, f38⟩
    simp only [List.drop_succ_cons, List.drop_zero]
    simp only [run_ops_nil, x8_2, f35, run_cond, put_at, put_no, ev_t, ev_c, reduceIte, Nat.reduceEqDiff, List.map_cons, List.map_nil]
    refine cond_split (t := ((!v5.2) || (decide ((80 : Int) < (List.length l_2 : Int))))) (fun hc41 => ?_) (fun hc41 => ?_)
    · rw [iteT hc41] at hF7
      simp only [x8_1, run_seq, run_reg, run_build, evp, put_at, put_no, ev_t, ev_c, reduceIte, Nat.reduceEqDiff, List.map_cons, List.map_nil]
      refine put1_eq (v := .agg [.int .i64 0, .nil, .nil, .nil]) rfl ?_
      simp only [f37, run_st, put_at, put_no, ev_t, ev_c, reduceIte, Nat.reduceEqDiff, List.map_cons, List.map_nil]
      refine put2_stCx (us := [.int .i64 0, .nil, .nil, .nil]) rfl (cs' := [.int .i64 0, .nil, .nil, .nil]) hS40 hW rfl rfl (Nat.le_of_ble_eq_true rfl) rfl (fun h42 hS43 => ?_)
      simp only [put_no, run_mv, run_ops_nil, run_ret, put_at, ev_t, ev_c, reduceIte, Nat.reduceEqDiff, List.map_cons, List.map_nil]
      have he := some_inj hF7
      subst he
      refine end_ret_m (mapM1 (res_cell (bb := b1) (oo := 0) (v := .agg [.int .i64 0, .nil, .nil, .nil]) (by simp only [f37, put_at, put_no, ev_t, ev_c, reduceIte,
          Nat.reduceEqDiff, List.map_cons, List.map_nil]) ((xld_bs (Sep.bk _ _ _ hS43)).trans rfl)) (mapM1 (res_t (v := .nil) (by simp only [put_at, put_no, ev_t, ev_c, reduceIte,
          Nat.reduceEqDiff, List.map_cons, List.map_nil])) (mapM1 (res_t (v := .bool false) (by simp only [put_at, put_no, ev_t, ev_c, reduceIte, Nat.reduceEqDiff, List.map_cons,
          List.map_nil])) mapM0))) ?_
      exact ⟨.nil, [], .nil, [], .nil, [], .nil, [], by first | trivial | rfl, SlN.nil, SlF.nil, SlF.nil, SlF.nil,
          ((Sep.dc ((Sep.dc ((Sep.dc ((Sep.dc ((Sep.dc (hS43)))))))))) : Sep _ h.length ([]))⟩
    · rw [iteF hc41] at hF7
      simp only [run_skip, x8_9, run_seq, run_reg, run_buildS, evp, put_at, put_no, ev_t, ev_c, reduceIte, Nat.reduceEqDiff, List.map_cons, List.map_nil]
      refine put2_buildSF (n := 1) (f := cB) ([] : List Bool) hS40 rfl rfl (fun v44 c45 h46 hv47 hS48 => ?_)
      simp only [run_mv, run_ops_nil, x8_8, run_seq, run_reg, f36, run_len, put1_some, xlen_lst, put_at, put_no, ev_t, ev_c, reduceIte, Nat.reduceEqDiff, List.map_cons,
          List.map_nil]
      obtain ⟨oc88, hX90, hk91⟩ := jn_some hF7
      simp only [x8_6]
      refine rangeL_j (σ := (List Bool) × Readers_) l_2 (fun i86 x87 s151 => impl_PlayReaders_b1 i86 x87 s151.1 s151.2) (fun s fr' h' => ∃ v70 c71 v75 c76 v79 c80 v83 c84,
          fr' 6 = .ptr b1 0 ∧ fr' 9 = .ptr b25 0 ∧ fr' 11 = v70 ∧ fr' 29 = lst GroupStep.cells l_2 ∧ SlF cB 1 4 v70 s.1 c71 ∧ SlN Reader.R 4 37 v75 s.2.Readers c76 ∧ SlF cI 1 3 v79 s.2.Committed c80 ∧ SlF cI 1 3 v83 s.2.Ends c84 ∧ Sep h' h.length
          ([Blk1 b1 [.int .i64 0, .nil, .nil, .nil] 29] ++ ([Blk1 b25 [.int .i64 s.2.Generation, v75, v79, v83] 29] ++ (c71 ++ (c76 ++ (c80 ++ (c84 ++ ([])))))))) hX90 ⟨v44, c45,
          v8, c9, v12, c13, v16, c17, by simp only [f37, put_at, put_no, ev_t, ev_c, reduceIte, Nat.reduceEqDiff, List.map_cons, List.map_nil], by simp only [f38, put_at, put_no,
          ev_t, ev_c, reduceIte, Nat.reduceEqDiff, List.map_cons, List.map_nil], by simp only [put_at, put_no, ev_t, ev_c, reduceIte, Nat.reduceEqDiff, List.map_cons,
          List.map_nil], by simp only [put_at, put_no, ev_t, ev_c, reduceIte, Nat.reduceEqDiff, List.map_cons, List.map_nil], hv47, hv10, hv14, hv18,
          (Sep.m5 (Sep.m5 (Sep.m3 (Sep.m5 (Sep.m5 (Sep.m5 hS48))))))⟩ (by simp only [put_at, put_no, ev_t, ev_c, reduceIte, Nat.reduceEqDiff, List.map_cons,
          List.map_nil]) (by simp only [put_at, put_no, ev_t, ev_c, reduceIte, Nat.reduceEqDiff, List.map_cons,
          List.map_nil]) (fun _ _ _ h => h) rfl rfl (fun _ _ _ _ h => h) (fun _ _ _ _ h => h) (fun _ _ _ _ h => h) (by decide) ?_ ?_
      · rintro i86 x87 ⟨s68, s73⟩ fr100 h101 hx107 ⟨v70, c71, v75, c76, v79, c80, v83, c84, f103, f104, f105, f106, hv72, hv77, hv81, hv85,
          hS102⟩ f108 f109 oc89 hF92 hr93 Q94 hN95 hB99 hK96 hR97 hE98
        dsimp only at *
        unfold impl_PlayReaders_b1 at hF92
        simp only [x8_4, run_seq, run_reg, f106, f108, run_ia, put_at, put_no, ev_t, ev_c, reduceIte, Nat.reduceEqDiff, List.map_cons, List.map_nil]
        refine put1_eq (v := .ref (GroupStep.cells x87) 0) (xia_lstN hx107 rfl) ?_
        simp only [run_ld, put_at, put_no, ev_t, ev_c, reduceIte, Nat.reduceEqDiff, List.map_cons, List.map_nil]
        refine put1_eq (v := .agg [.int .i64 x87.Kind, .int .i64 x87.K, .int .i64 x87.Part, .int .i64 x87.N]) rfl ?_
        simp only [run_new, put_at, put_no, ev_t, ev_c, reduceIte, Nat.reduceEqDiff, List.map_cons, List.map_nil]
        refine put2_newC hS102 (fun b110 h111 hS112 => ?_)
        simp only [run_st, put_at, put_no, ev_t, ev_c, reduceIte, Nat.reduceEqDiff, List.map_cons, List.map_nil]
        refine put2_stCx (us := [.int .i64 x87.Kind, .int .i64 x87.K, .int .i64 x87.Part, .int .i64 x87.N]) rfl (cs' := [.int .i64 x87.Kind, .int .i64 x87.K, .int .i64 x87.Part,
            .int .i64 x87.N]) hS112 hW rfl rfl (Nat.le_of_ble_eq_true rfl) rfl (fun h114 hS115 => ?_)
        simp only [put_no, run_ops_nil, put_at, ev_t, ev_c, reduceIte, Nat.reduceEqDiff, List.map_cons, List.map_nil]
        refine frz_stepC hS115 hW (by simp only [put_at, put_no, ev_t, ev_c, reduceIte, Nat.reduceEqDiff, List.map_cons, List.map_nil]) (fun h116 hS117 => ?_)
        simp only [run_frz_nil, x8_3, run_reg, f105, run_mv, run_ld, put_at, put_no, ev_t, ev_c, reduceIte, Nat.reduceEqDiff, List.map_cons, List.map_nil]
        refine put1_eq (v := .agg [.int .i64 x87.Kind, .int .i64 x87.K, .int .i64 x87.Part, .int .i64 x87.N]) rfl ?_
        obtain ⟨v118, hx119, hF120⟩ := bind_some' hF92
        simp only [f104, run_call, put_at, put_no, ev_t, ev_c, reduceIte, Nat.reduceEqDiff, List.map_cons, List.map_nil]
        refine call0 rfl (impl_Readers_step_x hW b25 s73 v75 c76 hv77 v79 c80 hv81 v83 c84 hv85 x87 v118 hx119 (Sep.m4 (Sep.m5 (Sep.m5 (Sep.m5 hS117))))) ?_
        rintro _ h133 ⟨v121, c122, v125, c126, v129, c130, rfl, hv123, hv127, hv131, hS134⟩
        simp only [run_buildS, evp, put_at, put_no, ev_t, ev_c, reduceIte, Nat.reduceEqDiff, List.map_cons, List.map_nil]
        refine put2_buildSF (n := 1) (f := cB) [v118.1] hS134 rfl rfl (fun v135 c136 h137 hv138 hS139 => ?_)
        simp only [run_app, put_at, put_no, ev_t, ev_c, reduceIte, Nat.reduceEqDiff, List.map_cons, List.map_nil]
        obtain ⟨l141, hx142, hF143⟩ := bind_some' hF120
        refine put2_appF (f := cB) hv72 (Sep.m6 hS139) hW (fun _ => rfl) (fun _ => rfl) (SlF.first hv138 hS139 (fun _ => rfl)) hx142 (fun v144 c145 h146 hv147 hS148 => ?_)
        simp only [run_mv, run_ops_nil, run_nil, put_at, put_no, ev_t, ev_c, reduceIte, Nat.reduceEqDiff, List.map_cons, List.map_nil]
        have e150 := some_inj hF143
        exact hN95 _ _ _ e150.symm ⟨v144, c145, v121, c122, v125, c126, v129, c130, by simp only [f103, put_at, put_no, ev_t, ev_c, reduceIte, Nat.reduceEqDiff, List.map_cons,
            List.map_nil], by simp only [f104, put_at, put_no, ev_t, ev_c, reduceIte, Nat.reduceEqDiff, List.map_cons, List.map_nil], by simp only [put_at, put_no, ev_t, ev_c,
            reduceIte, Nat.reduceEqDiff, List.map_cons, List.map_nil], by simp only [f106, put_at, put_no, ev_t, ev_c, reduceIte, Nat.reduceEqDiff, List.map_cons, List.map_nil],
            hv147, hv123, hv127, hv131, (Sep.m5 (Sep.m4 (Sep.m3 (Sep.m4 (Sep.m4 (Sep.m4 (Sep.dc (Sep.m1 hS148))))))))⟩ (by simp only [f108, put_at, put_no, ev_t, ev_c, reduceIte,
            Nat.reduceEqDiff, List.map_cons, List.map_nil]) (by simp only [f109, put_at, put_no, ev_t, ev_c, reduceIte, Nat.reduceEqDiff, List.map_cons, List.map_nil])
      · rintro ⟨s152, s157⟩ fr170 h171 rfl ⟨v154, c155, v159, c160, v163, c164, v167, c168, f173, f174, f175, f176, hv156, hv161, hv165, hv169, hS172⟩
        dsimp only [jnO] at hk91
        dsimp only at *
        unfold impl_PlayReaders_j1 at hk91
        simp only [x8_7, run_seq, run_reg, f174, run_ld, put_at, put_no, ev_t, ev_c, reduceIte, Nat.reduceEqDiff, List.map_cons, List.map_nil]
        refine put1_eq (v := .agg [.int .i64 s157.Generation, v159, v163, v167]) ((xld_bs (Sep.bk _ _ _ (Sep.m1 hS172))).trans rfl) ?_
        simp only [f175, run_mv, f173, run_st, put_at, put_no, ev_t, ev_c, reduceIte, Nat.reduceEqDiff, List.map_cons, List.map_nil]
        refine put2_stCx (us := [.int .i64 s157.Generation, v159, v163, v167]) rfl (cs' := [.int .i64 s157.Generation, v159, v163,
            v167]) hS172 hW rfl (all_c rfl (all_c (SlN.one hv161) (all_c (SlF.one hv165) (all_c (SlF.one hv169) all_n)))) (Nat.le_of_ble_eq_true rfl) rfl (fun h177 hS178 => ?_)
        simp only [put_no, run_mv, run_ops_nil, run_ret, put_at, ev_t, ev_c, reduceIte, Nat.reduceEqDiff, List.map_cons, List.map_nil]
        have he := some_inj hk91
        subst he
        refine end_ret_m (mapM1 (res_cell (bb := b1) (oo := 0) (v := .agg [.int .i64 s157.Generation, v159, v163, v167]) (by simp only [f173, put_at, put_no, ev_t, ev_c,
            reduceIte, Nat.reduceEqDiff, List.map_cons, List.map_nil]) ((xld_bs (Sep.bk _ _ _ hS178)).trans rfl)) (mapM1 (res_t (v := v154) (by simp only [put_at, put_no, ev_t,
            ev_c, reduceIte, Nat.reduceEqDiff, List.map_cons, List.map_nil])) (mapM1 (res_t (v := .bool true) (by simp only [put_at, put_no, ev_t, ev_c, reduceIte,
            Nat.reduceEqDiff, List.map_cons, List.map_nil])) mapM0))) ?_
        exact ⟨v159, c160, v163, c164, v167, c168, v154, c155, by first | trivial | rfl, hv161, hv165, hv169, hv156, (Sep.m3 (Sep.m3 (Sep.m3 (Sep.dc ((Sep.dc (hS178)))))))⟩
theorem spec_l1In_x {W : Nat → Bool} {h : Heap} (hW : ∀ b,
    h.length ≤ b → W b = true) (n_0 : Int) (lo_1 : Int) (hi_2 : Int) (r : Bool) (hF : some (spec_l1In n_0 lo_1 hi_2) = some r) : Ret E W 69 [.int .i64 n_0, .int .i64 lo_1,
    .int .i64 hi_2] h (fun v h' => cut h.length h' E.sz false 9 v = some (.bool r)) := by
  refine Ret.of (fn := x69) rfl (Run.of ?_)
  unfold spec_l1In at hF
  have zf0 : argFr [.int .i64 n_0, .int .i64 lo_1, .int .i64 hi_2] 0 = .int .i64 n_0 := rfl
  have zf1 : argFr [.int .i64 n_0, .int .i64 lo_1, .int .i64 hi_2] 1 = .int .i64 lo_1 := rfl
  have zf2 : argFr [.int .i64 n_0, .int .i64 lo_1, .int .i64 hi_2] 2 = .int .i64 hi_2 := rfl
  generalize argFr [.int .i64 n_0, .int .i64 lo_1, .int .i64 hi_2] = fr0 at zf0 zf1 zf2 ⊢
  have hS : Sep h h.length [] := Sep.nil h
  simp only [x69, run_seq, run_reg, run_mv, run_ops_nil, x69_1, zf0, zf1, run_bin, put1_some, xgeq, put_at, put_no, ev_t, ev_c, reduceIte, Nat.reduceEqDiff, List.map_cons,
      List.map_nil]
  refine ops_j 4 (fun fr' h' => Sep h' h.length ([]) ∧ fr' 14 = .bool ((decide (lo_1 ≤ n_0)) && (decide (n_0 ≤ hi_2)))) (fun Q1 hN2 => ?_) ?_
  · simp only [List.take_succ_cons, List.take_zero]
    simp only [run_guard (g := 10), put_at, put_no, ev_t, ev_c, reduceIte, Nat.reduceEqDiff, List.map_cons, List.map_nil]
    refine guard_split (t := (decide (lo_1 ≤ n_0))) (fun hg3 => ?_) (fun hg3 => ?_)
    · simp only [hg3, run_guard (g := 10), guard_true, zf0, run_mv, zf2, run_bin, put1_some, xleq, run_pick, xpick_t, run_ops_nil, run_nil, put_at, put_no, ev_t, ev_c, reduceIte,
        Nat.reduceEqDiff, List.map_cons, List.map_nil]
      exact hN2 _ _ ⟨hS, by rw [andT hg3]; simp only [put_at, put_no, ev_t, ev_c, reduceIte, Nat.reduceEqDiff, List.map_cons, List.map_nil]⟩
    · simp only [hg3, run_guard (g := 10), guard_off, run_pick, put1_some, xpick_f, run_ops_nil, run_nil, put_at, put_no, ev_t, ev_c, reduceIte, Nat.reduceEqDiff, List.map_cons,
        List.map_nil]
      exact hN2 _ _ ⟨hS, by rw [andF hg3]; simp only [put_at, put_no, ev_t, ev_c, reduceIte, Nat.reduceEqDiff, List.map_cons, List.map_nil]⟩
  · rintro fr4 h6 ⟨hS7, f5⟩
    simp only [List.drop_succ_cons, List.drop_zero]
    simp only [f5, run_mv, run_ops_nil, run_ret, put_at, put_no, ev_t, ev_c, reduceIte, Nat.reduceEqDiff, List.map_cons, List.map_nil]
    have he := some_inj hF
    subst he
    simp only [end_ret1, put_at, put_no, ev_t, ev_c, reduceIte, Nat.reduceEqDiff, List.map_cons, List.map_nil]
    exact rfl
theorem spec_NewReaders_x {W : Nat → Bool} {h : Heap} (hW : ∀ b,
    h.length ≤ b → W b = true) (k : Nat) (readers_0 : Int) (ends_1 : List Int) (r : Readers_ × Bool)
    (hF : spec_NewReaders k readers_0 ends_1 = some r) : Ret E W 47 [.int .i64 readers_0, lst cI ends_1] h (fun v h' => ∃ rv0_1 rc0_1 rv0_2 rc0_2 rv0_3 rc0_3,
    v = .tup [.agg [.int .i64 r.1.Generation, rv0_1, rv0_2, rv0_3],
    .bool r.2] ∧ SlN Reader.R 4 37 rv0_1 r.1.Readers rc0_1 ∧ SlF cI 1 3 rv0_2 r.1.Committed rc0_2 ∧ SlF cI 1 3 rv0_3 r.1.Ends rc0_3 ∧ Sep h' h.length (rc0_1 ++ (rc0_2 ++
    (rc0_3 ++ ([]))))) := by
  refine Ret.of (fn := x47) rfl (Run.of ?_)
  unfold spec_NewReaders at hF
  have zf0 : argFr [.int .i64 readers_0, lst cI ends_1] 0 = .int .i64 readers_0 := rfl
  have zf1 : argFr [.int .i64 readers_0, lst cI ends_1] 1 = lst cI ends_1 := rfl
  generalize argFr [.int .i64 readers_0, lst cI ends_1] = fr0 at zf0 zf1 ⊢
  have hS : Sep h h.length [] := Sep.nil h
  simp only [x47, run_seq, run_reg, run_new, put_at, put_no, ev_t, ev_c, reduceIte, Nat.reduceEqDiff, List.map_cons, List.map_nil]
  refine put2_newC hS (fun b1 h2 hS3 => ?_)
  simp only [run_mv, run_ops_nil, x47_15, run_seq, run_reg, zf0, run_call, put_at, put_no, ev_t, ev_c, reduceIte, Nat.reduceEqDiff, List.map_cons, List.map_nil]
  refine call1 rfl (mapM1 snap_int (mapM1 snap_int (mapM1 snap_int mapM0))) (spec_l1In_x (fun b hb => decide_eq_true hb) readers_0 1 5 _ rfl) ?_
  simp only [run_un, put1_some, xnot, run_mv, put_at, put_no, ev_t, ev_c, reduceIte, Nat.reduceEqDiff, List.map_cons, List.map_nil]
  refine ops_j 5 (fun fr' h' => Sep h' h.length ([Blk1 b1 [.int .i64 0, .nil, .nil,
      .nil] 29] ++ ([])) ∧ fr' 18 = .bool ((!(spec_l1In readers_0 1 5)) || (!(spec_l1In
      (List.length ends_1 : Int) 1 6))) ∧ fr' 0 = .int .i64 readers_0 ∧ fr' 1 = lst cI ends_1 ∧ fr' 4 = .ptr b1 0) (fun Q5 hN6 => ?_) ?_
  · simp only [List.take_succ_cons, List.take_zero]
    simp only [run_guard (g := 13), put_at, put_no, ev_t, ev_c, reduceIte, Nat.reduceEqDiff, List.map_cons, List.map_nil]
    refine guard_split (t := (!(spec_l1In readers_0 1 5))) (fun hg7 => ?_) (fun hg7 => ?_)
    · simp only [hg7, run_guard (g := 13), guard_off', run_pick, put1_some, xpick_t, run_ops_nil, run_nil, put_at, put_no, ev_t, ev_c, reduceIte, Nat.reduceEqDiff, List.map_cons,
        List.map_nil]
      exact hN6 _ _ ⟨hS3, by rw [orT hg7]; simp only [put_at, put_no, ev_t, ev_c, reduceIte, Nat.reduceEqDiff, List.map_cons, List.map_nil], by simp only [zf0, put_at, put_no,
          ev_t, ev_c, reduceIte, Nat.reduceEqDiff, List.map_cons, List.map_nil], by simp only [zf1, put_at, put_no, ev_t, ev_c, reduceIte, Nat.reduceEqDiff, List.map_cons,
          List.map_nil], by simp only [put_at, put_no, ev_t, ev_c, reduceIte, Nat.reduceEqDiff, List.map_cons, List.map_nil]⟩
    · simp only [hg7, run_guard (g := 13), guard_false, zf1, run_mv, run_len, put1_some, xlen_lst, run_call, put_at, put_no, ev_t, ev_c, reduceIte, Nat.reduceEqDiff,
        List.map_cons, List.map_nil]
      refine call1 rfl (mapM1 snap_int (mapM1 snap_int (mapM1 snap_int mapM0))) (spec_l1In_x (fun b hb => decide_eq_true hb) (List.length ends_1 : Int) 1 6 _ rfl) ?_
      simp only [hg7, run_guard (g := 13), guard_false, run_un, put1_some, xnot, run_pick, xpick_f, run_ops_nil, run_nil, put_at, put_no, ev_t, ev_c, reduceIte, Nat.reduceEqDiff,
          List.map_cons, List.map_nil]
      exact hN6 _ _ ⟨hS3, by rw [orF hg7]; simp only [put_at, put_no, ev_t, ev_c, reduceIte, Nat.reduceEqDiff, List.map_cons, List.map_nil], by simp only [zf0, put_at, put_no,
          ev_t, ev_c, reduceIte, Nat.reduceEqDiff, List.map_cons, List.map_nil], by simp only [zf1, put_at, put_no, ev_t, ev_c, reduceIte, Nat.reduceEqDiff, List.map_cons,
          List.map_nil], by simp only [put_at, put_no, ev_t, ev_c, reduceIte, Nat.reduceEqDiff, List.map_cons, List.map_nil]⟩
  · rintro fr8 h13 ⟨hS14, f9, f10, f11, f12⟩
    simp only [List.drop_succ_cons, List.drop_zero]
    simp only [run_ops_nil, x47_1, f9, run_cond, put_at, put_no, ev_t, ev_c, reduceIte, Nat.reduceEqDiff, List.map_cons, List.map_nil]
    refine cond_split (t := ((!(spec_l1In readers_0 1 5)) || (!(spec_l1In (List.length ends_1 : Int) 1 6)))) (fun hc15 => ?_) (fun hc15 => ?_)
    · rw [iteT hc15] at hF
      simp only [run_seq, run_reg, run_build, evp, put_at, put_no, ev_t, ev_c, reduceIte, Nat.reduceEqDiff, List.map_cons, List.map_nil]
      refine put1_eq (v := .agg [.int .i64 0, .nil, .nil, .nil]) rfl ?_
      simp only [f12, run_st, put_at, put_no, ev_t, ev_c, reduceIte, Nat.reduceEqDiff, List.map_cons, List.map_nil]
      refine put2_stCx (us := [.int .i64 0, .nil, .nil, .nil]) rfl (cs' := [.int .i64 0, .nil, .nil, .nil]) hS14 hW rfl rfl (Nat.le_of_ble_eq_true rfl) rfl (fun h16 hS17 => ?_)
      simp only [put_no, run_mv, run_ops_nil, run_ret, put_at, ev_t, ev_c, reduceIte, Nat.reduceEqDiff, List.map_cons, List.map_nil]
      have he := some_inj hF
      subst he
      refine end_ret_m (mapM1 (res_cell (bb := b1) (oo := 0) (v := .agg [.int .i64 0, .nil, .nil, .nil]) (by simp only [f12, put_at, put_no, ev_t, ev_c, reduceIte,
          Nat.reduceEqDiff, List.map_cons, List.map_nil]) ((xld_bs (Sep.bk _ _ _ hS17)).trans rfl)) (mapM1 (res_t (v := .bool false) (by simp only [put_at, put_no, ev_t, ev_c,
          reduceIte, Nat.reduceEqDiff, List.map_cons, List.map_nil])) mapM0)) ?_
      exact ⟨.nil, [], .nil, [], .nil, [], by first | trivial | rfl, SlN.nil, SlF.nil, SlF.nil, ((Sep.dc (hS17)) : Sep _ h.length ([]))⟩
    · rw [iteF hc15] at hF
      simp only [run_skip, x47_14, run_seq, run_reg, f11, run_mv, run_len, put1_some, xlen_lst, run_ops_nil, put_at, put_no, ev_t, ev_c, reduceIte, Nat.reduceEqDiff,
          List.map_cons, List.map_nil]
      obtain ⟨oc20, hX22, hk23⟩ := jn_some hF
      simp only [x47_6]
      refine rangeL_j (σ := Unit) ends_1 (fun i18 x19 _ => spec_NewReaders_b1 i18 x19 )
          (fun s fr' h' => fr' 0 = .int .i64 readers_0 ∧ fr' 1 = lst cI ends_1 ∧ fr' 4 = .ptr b1 0 ∧ fr' 20 = lst cI ends_1 ∧ Sep h' h.length ([Blk1 b1 [.int .i64 0, .nil, .nil,
          .nil] 29] ++ ([]))) hX22 ⟨by simp only [f10, put_at, put_no, ev_t, ev_c, reduceIte, Nat.reduceEqDiff, List.map_cons, List.map_nil], by simp only [f11, put_at, put_no,
          ev_t, ev_c, reduceIte, Nat.reduceEqDiff, List.map_cons, List.map_nil], by simp only [f12, put_at, put_no, ev_t, ev_c, reduceIte, Nat.reduceEqDiff, List.map_cons,
          List.map_nil], by simp only [put_at, put_no, ev_t, ev_c, reduceIte, Nat.reduceEqDiff, List.map_cons, List.map_nil], hS14⟩ (by simp only [put_at, put_no, ev_t, ev_c,
          reduceIte, Nat.reduceEqDiff, List.map_cons, List.map_nil]) (by simp only [put_at, put_no, ev_t, ev_c, reduceIte, Nat.reduceEqDiff, List.map_cons,
          List.map_nil]) (fun _ _ _ h => h) rfl rfl (fun _ _ _ _ h => h) (fun _ _ _ _ h => h) (fun _ _ _ _ h => h) (by decide) ?_ ?_
      · rintro i18 x19 _ fr32 h33 hx39 ⟨f35, f36, f37, f38, hS34⟩ f40 f41 oc21 hF24 hr25 Q26 hN27 hB31 hK28 hR29 hE30
        unfold spec_NewReaders_b1 at hF24
        simp only [x47_4, run_seq, run_reg, f38, f40, run_ia, put_at, put_no, ev_t, ev_c, reduceIte, Nat.reduceEqDiff, List.map_cons, List.map_nil]
        refine put1_eq (v := .ref (cI x19) 0) (xia_lstN hx39 rfl) ?_
        simp only [run_ld, put_at, put_no, ev_t, ev_c, reduceIte, Nat.reduceEqDiff, List.map_cons, List.map_nil]
        refine put1_eq (v := .int .i64 x19) rfl ?_
        simp only [run_mv, run_ops_nil, x47_3, run_seq, run_reg, run_call, put_at, put_no, ev_t, ev_c, reduceIte, Nat.reduceEqDiff, List.map_cons, List.map_nil]
        refine call1 rfl (mapM1 snap_int (mapM1 snap_int (mapM1 snap_int mapM0))) (spec_l1In_x (fun b hb => decide_eq_true hb) x19 0 100 _ rfl) ?_
        simp only [run_un, put1_some, xnot, run_ops_nil, x47_2, run_cond, put_at, put_no, ev_t, ev_c, reduceIte, Nat.reduceEqDiff, List.map_cons, List.map_nil]
        refine cond_split (t := (!(spec_l1In x19 0 100))) (fun hc42 => ?_) (fun hc42 => ?_)
        · rw [iteT hc42] at hF24
          simp only [run_seq, run_reg, run_build, evp, put_at, put_no, ev_t, ev_c, reduceIte, Nat.reduceEqDiff, List.map_cons, List.map_nil]
          refine put1_eq (v := .agg [.int .i64 0, .nil, .nil, .nil]) rfl ?_
          simp only [f37, run_st, put_at, put_no, ev_t, ev_c, reduceIte, Nat.reduceEqDiff, List.map_cons, List.map_nil]
          refine put2_stCx (us := [.int .i64 0, .nil, .nil, .nil]) rfl (cs' := [.int .i64 0, .nil, .nil, .nil]) hS34 hW rfl rfl (Nat.le_of_ble_eq_true rfl) rfl (fun h43 hS44 => ?_)
          simp only [put_no, run_mv, run_ops_nil, run_ret, put_at, ev_t, ev_c, reduceIte, Nat.reduceEqDiff, List.map_cons, List.map_nil]
          have e45 := some_inj hF24
          subst e45
          have ho46 := hr25 _ rfl
          have hk47 := hk23
          rw [ho46] at hk47
          dsimp only [jnO] at hk47
          apply hR29
          have he := some_inj hk47
          subst he
          refine end_ret_m (mapM1 (res_cell (bb := b1) (oo := 0) (v := .agg [.int .i64 0, .nil, .nil, .nil]) (by simp only [f37, put_at, put_no, ev_t, ev_c, reduceIte,
              Nat.reduceEqDiff, List.map_cons, List.map_nil]) ((xld_bs (Sep.bk _ _ _ hS44)).trans rfl)) (mapM1 (res_t (v := .bool false) (by simp only [put_at, put_no, ev_t, ev_c,
              reduceIte, Nat.reduceEqDiff, List.map_cons, List.map_nil])) mapM0)) ?_
          exact ⟨.nil, [], .nil, [], .nil, [], by first | trivial | rfl, SlN.nil, SlF.nil, SlF.nil, ((Sep.dc (hS44)) : Sep _ h.length ([]))⟩
        · rw [iteF hc42] at hF24
          simp only [run_skip, run_nil, put_at, put_no, ev_t, ev_c, reduceIte, Nat.reduceEqDiff, List.map_cons, List.map_nil]
          have e48 := some_inj hF24
          exact hN27 _ _ _ e48.symm ⟨by simp only [f35, put_at, put_no, ev_t, ev_c, reduceIte, Nat.reduceEqDiff, List.map_cons, List.map_nil], by simp only [f36, put_at, put_no,
              ev_t, ev_c, reduceIte, Nat.reduceEqDiff, List.map_cons, List.map_nil], by simp only [f37, put_at, put_no, ev_t, ev_c, reduceIte, Nat.reduceEqDiff, List.map_cons,
              List.map_nil], by simp only [f38, put_at, put_no, ev_t, ev_c, reduceIte, Nat.reduceEqDiff, List.map_cons, List.map_nil], hS34⟩ (by simp only [f40, put_at, put_no,
              ev_t, ev_c, reduceIte, Nat.reduceEqDiff, List.map_cons, List.map_nil]) (by simp only [f41, put_at, put_no, ev_t, ev_c, reduceIte, Nat.reduceEqDiff, List.map_cons,
              List.map_nil])
      · rintro _ fr50 h51 rfl ⟨f53, f54, f55, f56, hS52⟩
        dsimp only [jnO] at hk23
        unfold spec_NewReaders_j2 at hk23
        obtain ⟨l57, hx58, hF59⟩ := bind_some' hk23
        simp only [x47_13, run_seq, run_draw, f54, d1_mv, put1d_some, d1_len, xlen_lst, d1_mkS, put_at, put_no, ev_t, ev_c, reduceIte, Nat.reduceEqDiff, List.map_cons,
            List.map_nil]
        refine put2d_mkSF (f := cI) (z := (0 : Int)) hS52 hx58 rfl (fun v60 c61 h62 hv63 hS64 => ?_)
        simp only [d4_buildS, evp, put_at, put_no, ev_t, ev_c, reduceIte, Nat.reduceEqDiff, List.map_cons, List.map_nil]
        refine put2d_buildSF (n := 1) (f := cI) ([] : List Int) hS64 rfl rfl (fun v66 c67 h68 hv69 hS70 => ?_)
        simp only [d1_new, put_at, put_no, ev_t, ev_c, reduceIte, Nat.reduceEqDiff, List.map_cons, List.map_nil]
        refine put2d_newC hS70 (fun b72 h73 hS74 => ?_)
        simp only [f54, d4_mv, put1d_some, d3_app, put_at, put_no, ev_t, ev_c, reduceIte, Nat.reduceEqDiff, List.map_cons, List.map_nil]
        obtain ⟨l76, hx77, hF78⟩ := bind_some' hF59
        refine put2d_appF (f := cI) hv69 (Sep.m1 hS74) hW (fun _ => rfl) (fun _ => rfl) (firstOf_lst (fun _ => rfl)) hx77 (fun v79 c80 h81 hv82 hS83 => ?_)
        simp only [d4_build, evp, put_at, put_no, ev_t, ev_c, reduceIte, Nat.reduceEqDiff, List.map_cons, List.map_nil]
        refine put1d_eq (v := .agg [.int .i64 0, .nil, v60, v79]) (pbuild_some (fill1 (us := [v60]) (vs := [.int .i64 0, .nil, v60,
            .nil]) (cells_one (SlF.one hv63)) rfl (Nat.le_of_ble_eq_true rfl) (all_c (SlF.one hv63) all_n) rfl (fill1 (us := [v79]) (vs := [.int .i64 0, .nil, v60,
            v79]) (cells_one (SlF.one hv82)) rfl (Nat.le_of_ble_eq_true rfl) (all_c (SlF.one hv82) all_n) rfl fill0))) ?_
        simp only [d3_st, put_at, put_no, ev_t, ev_c, reduceIte, Nat.reduceEqDiff, List.map_cons, List.map_nil]
        refine put2d_stCx (us := [.int .i64 0, .nil, v60, v79]) rfl (cs' := [.int .i64 0, .nil, v60,
            v79]) (Sep.m1 hS83) hW rfl (all_c rfl (all_c rfl (all_c (SlF.one hv63) (all_c (SlF.one hv82) all_n)))) (Nat.le_of_ble_eq_true rfl) rfl (fun h85 hS86 => ?_)
        simp only [put_no, run_draw_nil, x47_12, run_seq, run_reg, run_mv, run_ops_nil, put_at, ev_t, ev_c, reduceIte, Nat.reduceEqDiff, List.map_cons, List.map_nil]
        obtain ⟨oc101, hX103, hk104⟩ := jn_some hF78
        simp only [x47_11]
        refine loopF_j (σ := Int × Readers_) (fun s151 => spec_NewReaders_b2 readers_0 ends_1 l57 l76 s151.1 s151.2) (fun s fr' h' => ∃ v96 c97,
            fr' 0 = .int .i64 readers_0 ∧ fr' 1 = lst cI ends_1 ∧ fr' 4 = .ptr b1 0 ∧ fr' 8 = .ptr b72 0 ∧ fr' 9 = .int .i64 s.1 ∧ SlN Reader.R 4 37 v96 s.2.Readers c97 ∧ Sep h' h.length
            ([Blk1 b1 [.int .i64 0, .nil, .nil, .nil] 29] ++ ([Blk1 b72 [.int .i64 s.2.Generation, v96, v60, v79] 29] ++ (c97 ++ (c61 ++ (c80 ++ ([]))))))) hX103 ⟨.nil, [],
            by simp only [f53, put_at, put_no, ev_t, ev_c, reduceIte, Nat.reduceEqDiff, List.map_cons, List.map_nil], by simp only [f54, put_at, put_no, ev_t, ev_c, reduceIte,
            Nat.reduceEqDiff, List.map_cons, List.map_nil], by simp only [f55, put_at, put_no, ev_t, ev_c, reduceIte, Nat.reduceEqDiff, List.map_cons, List.map_nil],
            by simp only [put_at, put_no, ev_t, ev_c, reduceIte, Nat.reduceEqDiff, List.map_cons, List.map_nil], by simp only [put_at, put_no, ev_t, ev_c, reduceIte,
            Nat.reduceEqDiff, List.map_cons, List.map_nil], SlN.nil, ((Sep.m3 (Sep.m2 (Sep.m2 (Sep.m1 hS86)))) : Sep _ h.length ([Blk1 b1 [.int .i64 0, .nil, .nil,
            .nil] 29] ++ ([Blk1 b72 [.int .i64 0, .nil, v60, v79] 29] ++ (c61 ++ (c80 ++ ([]))))))⟩ (fun _ _ _ h => h) ?_ ?_
        · rintro ⟨s93, s94⟩ fr113 h114 ⟨v96, c97, f116, f117, f118, f119, f120, hv98, hS115⟩ oc102 hF105 hr106 Q107 hN108 hK109 hR110 hE111
          dsimp only at *
          unfold spec_NewReaders_b2 at hF105
          simp only [x47_9, run_seq, run_reg, f120, run_mv, f116, run_bin, put1_some, xlss, run_ops_nil, run_cond, put_at, put_no, ev_t, ev_c, reduceIte, Nat.reduceEqDiff,
              List.map_cons, List.map_nil]
          refine cond_split (t := (decide (s93 < readers_0))) (fun hc122 => ?_) (fun hc122 => ?_)
          · rw [iteT hc122] at hF105
            simp only [run_skip, x47_8, run_seq, run_block, x47_7, run_draw, f119, d4_fa, put1d_some, Nat.reduceAdd, Nat.zero_add, Nat.add_zero, xfa_ptr, d4_ld, put_at, put_no,
                ev_t, ev_c, reduceIte, Nat.reduceEqDiff, List.map_cons, List.map_nil]
            refine put1d_eq (v := v96) ((xld_b (Sep.bk _ _ _ (Sep.m1 hS115))).trans rfl) ?_
            obtain ⟨l123, hx124, hF125⟩ := bind_some' hF105
            simp only [f117, d4_mv, put1d_some, d4_len, xlen_lst, d4_mkS, put_at, put_no, ev_t, ev_c, reduceIte, Nat.reduceEqDiff, List.map_cons, List.map_nil]
            refine put2d_mkSF (f := cI) (z := (0 : Int)) hS115 hx124 rfl (fun v126 c127 h128 hv129 hS130 => ?_)
            simp only [d4_build, evp, put_at, put_no, ev_t, ev_c, reduceIte, Nat.reduceEqDiff, List.map_cons, List.map_nil]
            refine put1d_eq (v := .agg [.bool false, .int .i64 0, .nil, v126]) (pbuild_some (fill1 (us := [v126]) (vs := [.bool false, .int .i64 0, .nil,
                v126]) (cells_one (SlF.one hv129)) rfl (Nat.le_of_ble_eq_true rfl) (all_c (SlF.one hv129) all_n) rfl fill0)) ?_
            simp only [d4_buildS, evp, put_at, put_no, ev_t, ev_c, reduceIte, Nat.reduceEqDiff, List.map_cons, List.map_nil]
            refine put2d_buildSN (R := Reader.R) (n := 4) (cs := [.bool false, .int .i64 0, .nil,
                v126]) (os := [] ++ (c127)) (Sep.bi2 (c1 := []) (c2 := c127) (hS130 : Sep _ h.length (c127 ++ ([Blk1 b1 [.int .i64 0, .nil, .nil,
                .nil] 29] ++ ([Blk1 b72 [.int .i64 s94.Generation, v96, v60, v79] 29] ++ (c97 ++ (c61 ++ (c80 ++ ([]))))))))) (fill1 (us := [.bool false, .int .i64 0, .nil,
                v126]) (vs := [.bool false, .int .i64 0, .nil,
                v126]) rfl rfl (Nat.le_of_ble_eq_true rfl) (all_c rfl (all_c rfl (all_c rfl (all_c (SlF.one hv129) all_n)))) rfl fill0) (Reader.RI (x :=
                (Reader.mk false 0 [] l123)) SlF.nil hv129) rfl (fun v132 c133 h134 hv135 hS136 => ?_)
            simp only [d3_app, put_at, put_no, ev_t, ev_c, reduceIte, Nat.reduceEqDiff, List.map_cons, List.map_nil]
            obtain ⟨l138, hx139, hF140⟩ := bind_some' hF125
            refine put2d_appN (R := Reader.R) (c := c97) hv98 hv135 (Sep.m3 hS136) hW Reader.RO.len Reader.RO.one hx139 (fun v141 c142 h143 hv144 hS145 => ?_)
            simp only [f119, d4_fa, put1d_some, Nat.reduceAdd, Nat.zero_add, Nat.add_zero, xfa_ptr, d3_st, put_at, put_no, ev_t, ev_c, reduceIte, Nat.reduceEqDiff, List.map_cons,
                List.map_nil]
            refine put2d_stCx (us := [v141]) (cells_one (SlN.one hv144)) (cs' := [.int .i64 s94.Generation, v141, v60,
                v79]) (Sep.m2 hS145) hW rfl (all_c (SlN.one hv144) all_n) (Nat.le_of_ble_eq_true rfl) rfl (fun h147 hS148 => ?_)
            simp only [put_no, run_draw_nil, run_blk, run_reg, f120, run_mv, run_bin, put1_some, xadd, run_ops_nil, run_nil, put_at, ev_t, ev_c, reduceIte, Nat.reduceEqDiff,
                List.map_cons, List.map_nil]
            have e149 := some_inj hF140
            exact hN108 _ _ _ e149.symm ⟨v141, c142, by simp only [f116, put_at, put_no, ev_t, ev_c, reduceIte, Nat.reduceEqDiff, List.map_cons, List.map_nil], by simp only [f117,
                put_at, put_no, ev_t, ev_c, reduceIte, Nat.reduceEqDiff, List.map_cons, List.map_nil], by simp only [f118, put_at, put_no, ev_t, ev_c, reduceIte, Nat.reduceEqDiff,
                List.map_cons, List.map_nil], by simp only [f119, put_at, put_no, ev_t, ev_c, reduceIte, Nat.reduceEqDiff, List.map_cons, List.map_nil], by simp only [put_at,
                put_no, ev_t, ev_c, reduceIte, Nat.reduceEqDiff, List.map_cons, List.map_nil], hv144, (Sep.m4 (Sep.m3 (Sep.m3 (Sep.m4 (Sep.m4 hS148)))))⟩
          · rw [iteF hc122] at hF105
            simp only [run_exit, out_code, out_nil, put_at, put_no, ev_t, ev_c, reduceIte, Nat.reduceEqDiff, List.map_cons, List.map_nil]
            have e150 := some_inj hF105
            exact hK109 _ _ _ e150.symm ⟨v96, c97, by simp only [f116, put_at, put_no, ev_t, ev_c, reduceIte, Nat.reduceEqDiff, List.map_cons, List.map_nil], by simp only [f117,
                put_at, put_no, ev_t, ev_c, reduceIte, Nat.reduceEqDiff, List.map_cons, List.map_nil], by simp only [f118, put_at, put_no, ev_t, ev_c, reduceIte, Nat.reduceEqDiff,
                List.map_cons, List.map_nil], by simp only [f119, put_at, put_no, ev_t, ev_c, reduceIte, Nat.reduceEqDiff, List.map_cons, List.map_nil], by simp only [f120,
                put_at, put_no, ev_t, ev_c, reduceIte, Nat.reduceEqDiff, List.map_cons, List.map_nil], hv98, (Sep.m4 (Sep.m4 (Sep.m4 (Sep.m4 (Sep.m4 hS115)))))⟩
        · rintro ⟨s152, s153⟩ fr158 h159 rfl ⟨v155, c156, f161, f162, f163, f164, f165, hv157, hS160⟩
          dsimp only [jnO] at hk104
          dsimp only at *
          unfold spec_NewReaders_j1 at hk104
          simp only [run_seq, run_reg, f164, run_ld, put_at, put_no, ev_t, ev_c, reduceIte, Nat.reduceEqDiff, List.map_cons, List.map_nil]
          refine put1_eq (v := .agg [.int .i64 s153.Generation, v155, v60, v79]) ((xld_bs (Sep.bk _ _ _ (Sep.m1 hS160))).trans rfl) ?_
          simp only [f163, run_st, put_at, put_no, ev_t, ev_c, reduceIte, Nat.reduceEqDiff, List.map_cons, List.map_nil]
          refine put2_stCx (us := [.int .i64 s153.Generation, v155, v60, v79]) rfl (cs' := [.int .i64 s153.Generation, v155, v60,
              v79]) hS160 hW rfl (all_c rfl (all_c (SlN.one hv157) (all_c (SlF.one hv63) (all_c (SlF.one hv82) all_n)))) (Nat.le_of_ble_eq_true rfl) rfl (fun h166 hS167 => ?_)
          simp only [put_no, run_mv, run_ops_nil, run_ret, put_at, ev_t, ev_c, reduceIte, Nat.reduceEqDiff, List.map_cons, List.map_nil]
          have he := some_inj hk104
          subst he
          refine end_ret_m (mapM1 (res_cell (bb := b1) (oo := 0) (v := .agg [.int .i64 s153.Generation, v155, v60, v79]) (by simp only [f163, put_at, put_no, ev_t, ev_c,
              reduceIte, Nat.reduceEqDiff, List.map_cons, List.map_nil]) ((xld_bs (Sep.bk _ _ _ hS167)).trans rfl)) (mapM1 (res_t (v := .bool true) (by simp only [put_at, put_no,
              ev_t, ev_c, reduceIte, Nat.reduceEqDiff, List.map_cons, List.map_nil])) mapM0)) ?_
          exact ⟨v155, c156, v60, c61, v79, c80, by first | trivial | rfl, hv157, hv63, hv82, (Sep.m2 (Sep.m2 (Sep.m2 (Sep.dc ((Sep.dc (hS167)))))))⟩
theorem spec_l14Share_x {W : Nat → Bool} {h : Heap} (hW : ∀ b,
    h.length ≤ b → W b = true) (r_0 : Readers_) (k_1 : Int) (r : List Int) (hF : spec_l14Share r_0 k_1 = some r) : Ret E W 73 [.agg [.int .i64 r_0.Generation,
    lst Reader.cells r_0.Readers, lst cI r_0.Committed, lst cI r_0.Ends], .int .i64 k_1] h (fun v h' => ∃ rv0 rc0,
    v = rv0 ∧ SlF cI 1 3 rv0 r rc0 ∧ Sep h' h.length (rc0 ++ ([]))) := by
  refine Ret.of (fn := x73) rfl (Run.of ?_)
  unfold spec_l14Share at hF
  have zf0 : argFr [.agg [.int .i64 r_0.Generation, lst Reader.cells r_0.Readers, lst cI r_0.Committed, lst cI r_0.Ends], .int .i64 k_1] 0 = .agg [.int .i64 r_0.Generation,
      lst Reader.cells r_0.Readers, lst cI r_0.Committed, lst cI r_0.Ends] := rfl
  have zf1 : argFr [.agg [.int .i64 r_0.Generation, lst Reader.cells r_0.Readers, lst cI r_0.Committed, lst cI r_0.Ends], .int .i64 k_1] 1 = .int .i64 k_1 := rfl
  generalize argFr [.agg [.int .i64 r_0.Generation, lst Reader.cells r_0.Readers, lst cI r_0.Committed, lst cI r_0.Ends], .int .i64 k_1] = fr0 at zf0 zf1 ⊢
  have hS : Sep h h.length [] := Sep.nil h
  simp only [x73, run_seq, run_reg, run_box, zf0, put_at, put_no, ev_t, ev_c, reduceIte, Nat.reduceEqDiff, List.map_cons, List.map_nil]
  refine put2_boxC (cs := [.int .i64 r_0.Generation, lst Reader.cells r_0.Readers, lst cI r_0.Committed, lst cI r_0.Ends]) hS rfl rfl rfl (fun b1 h2 hS3 => ?_)
  simp only [run_mv, run_ops_nil, put_at, put_no, ev_t, ev_c, reduceIte, Nat.reduceEqDiff, List.map_cons, List.map_nil]
  refine frz_stepC hS3 hW (by simp only [put_at, put_no, ev_t, ev_c, reduceIte, Nat.reduceEqDiff, List.map_cons, List.map_nil]) (fun h5 hS6 => ?_)
  simp only [run_frz_nil, x73_18, run_seq, run_reg, run_mv, run_ops_nil, x73_17, x73_16, run_fa, put1_some, Nat.reduceAdd, Nat.zero_add, Nat.add_zero, xfa_ref, run_ld, put_at,
      put_no, ev_t, ev_c, reduceIte, Nat.reduceEqDiff, List.map_cons, List.map_nil]
  refine put1_eq (v := lst Reader.cells r_0.Readers) rfl ?_
  simp only [run_len, put1_some, xlen_lst, run_mv, run_ops_nil, put_at, put_no, ev_t, ev_c, reduceIte, Nat.reduceEqDiff, List.map_cons, List.map_nil]
  obtain ⟨oc14, hX16, hk17⟩ := jn_some hF
  simp only [x73_7]
  refine rangeL_j (σ := Int × Int) r_0.Readers (fun i12 x13 s71 => spec_l14Share_b1 k_1 i12 x13 s71.1 s71.2)
      (fun s fr' h' => fr' 1 = .int .i64 k_1 ∧ fr' 2 = .ref [.int .i64 r_0.Generation, lst Reader.cells r_0.Readers, lst cI r_0.Committed,
      lst cI r_0.Ends] 0 ∧ fr' 5 = .int .i64 s.1 ∧ fr' 6 = .int .i64 s.2 ∧ fr' 12 = lst Reader.cells r_0.Readers ∧ Sep h' h.length ([])) hX16 ⟨by simp only [zf1, put_at, put_no,
      ev_t, ev_c, reduceIte, Nat.reduceEqDiff, List.map_cons, List.map_nil], by simp only [put_at, put_no, ev_t, ev_c, reduceIte, Nat.reduceEqDiff, List.map_cons, List.map_nil],
      by simp only [put_at, put_no, ev_t, ev_c, reduceIte, Nat.reduceEqDiff, List.map_cons, List.map_nil], by simp only [put_at, put_no, ev_t, ev_c, reduceIte, Nat.reduceEqDiff,
      List.map_cons, List.map_nil], by simp only [put_at, put_no, ev_t, ev_c, reduceIte, Nat.reduceEqDiff, List.map_cons, List.map_nil], hS6⟩ (by simp only [put_at, put_no, ev_t,
      ev_c, reduceIte, Nat.reduceEqDiff, List.map_cons, List.map_nil]) (by simp only [put_at, put_no, ev_t, ev_c, reduceIte, Nat.reduceEqDiff, List.map_cons,
      List.map_nil]) (fun _ _ _ h => h) rfl rfl (fun _ _ _ _ h => h) (fun _ _ _ _ h => h) (fun _ _ _ _ h => h) (by decide) ?_ ?_
  · rintro i12 x13 ⟨s10, s11⟩ fr26 h27 hx34 ⟨f29, f30, f31, f32, f33, hS28⟩ f35 f36 oc15 hF18 hr19 Q20 hN21 hB25 hK22 hR23 hE24
    dsimp only at *
    unfold spec_l14Share_b1 at hF18
    simp only [x73_5, run_seq, run_reg, f35, run_mv, f33, run_ia, put_at, put_no, ev_t, ev_c, reduceIte, Nat.reduceEqDiff, List.map_cons, List.map_nil]
    refine put1_eq (v := .ref (Reader.cells x13) 0) (xia_lstN hx34 rfl) ?_
    simp only [run_ld, put_at, put_no, ev_t, ev_c, reduceIte, Nat.reduceEqDiff, List.map_cons, List.map_nil]
    refine put1_eq (v := .agg [.bool x13.In, .int .i64 x13.Generation, lst cI x13.Share, lst cI x13.Read]) rfl ?_
    simp only [run_new, put_at, put_no, ev_t, ev_c, reduceIte, Nat.reduceEqDiff, List.map_cons, List.map_nil]
    refine put2_newC hS28 (fun b37 h38 hS39 => ?_)
    simp only [run_mv, run_st, put_at, put_no, ev_t, ev_c, reduceIte, Nat.reduceEqDiff, List.map_cons, List.map_nil]
    refine put2_stCx (us := [.bool x13.In, .int .i64 x13.Generation, lst cI x13.Share, lst cI x13.Read]) rfl (cs' := [.bool x13.In, .int .i64 x13.Generation, lst cI x13.Share,
        lst cI x13.Read]) hS39 hW rfl rfl (Nat.le_of_ble_eq_true rfl) rfl (fun h41 hS42 => ?_)
    simp only [put_no, run_ops_nil, put_at, ev_t, ev_c, reduceIte, Nat.reduceEqDiff, List.map_cons, List.map_nil]
    refine frz_stepC hS42 hW (by simp only [put_at, put_no, ev_t, ev_c, reduceIte, Nat.reduceEqDiff, List.map_cons, List.map_nil]) (fun h43 hS44 => ?_)
    simp only [run_frz_nil, x73_4, run_seq, run_reg, run_mv, f29, run_bin, put1_some, xeql, run_ops_nil, x73_1, run_cond, put_at, put_no, ev_t, ev_c, reduceIte, Nat.reduceEqDiff,
        List.map_cons, List.map_nil]
    obtain ⟨s45, hX47, hk48⟩ := bind_some' hF18
    refine cond_j (t := (decide ((i12 : Int) = k_1))) (fun fr' h' => fr' 1 = .int .i64 k_1 ∧ fr' 2 = .ref [.int .i64 r_0.Generation, lst Reader.cells r_0.Readers,
        lst cI r_0.Committed, lst cI r_0.Ends] 0 ∧ fr' 5 = .int .i64 s10 ∧ fr' 6 = .int .i64 s45 ∧ fr' 8 = .ref [.bool x13.In, .int .i64 x13.Generation, lst cI x13.Share,
        lst cI x13.Read] 0 ∧ fr' 12 = lst Reader.cells r_0.Readers ∧ fr' 13 = .int .i64 (List.length r_0.Readers : Int) ∧ fr' 14 = .int .i64 (i12 : Int) ∧ Sep h' h.length ([]))
        (fun Q49 hN50 hR51 hE52 => ⟨fun hc53 => ?_, fun hc53 => ?_⟩) ?_
    · rw [iteT hc53] at hX47
      simp only [run_reg, f31, run_mv, run_ops_nil, run_nil, put_at, put_no, ev_t, ev_c, reduceIte, Nat.reduceEqDiff, List.map_cons, List.map_nil]
      have e54 := some_inj hX47
      subst e54
      exact hN50 _ _ ⟨by simp only [f29, put_at, put_no, ev_t, ev_c, reduceIte, Nat.reduceEqDiff, List.map_cons, List.map_nil], by simp only [f30, put_at, put_no, ev_t, ev_c,
          reduceIte, Nat.reduceEqDiff, List.map_cons, List.map_nil], by simp only [f31, put_at, put_no, ev_t, ev_c, reduceIte, Nat.reduceEqDiff, List.map_cons, List.map_nil],
          by simp only [put_at, put_no, ev_t, ev_c, reduceIte, Nat.reduceEqDiff, List.map_cons, List.map_nil], by simp only [put_at, put_no, ev_t, ev_c, reduceIte,
          Nat.reduceEqDiff, List.map_cons, List.map_nil], by simp only [f33, put_at, put_no, ev_t, ev_c, reduceIte, Nat.reduceEqDiff, List.map_cons, List.map_nil],
          by simp only [f36, put_at, put_no, ev_t, ev_c, reduceIte, Nat.reduceEqDiff, List.map_cons, List.map_nil], by simp only [f35, put_at, put_no, ev_t, ev_c, reduceIte,
          Nat.reduceEqDiff, List.map_cons, List.map_nil], hS44⟩
    · rw [iteF hc53] at hX47
      simp only [run_skip, run_nil, put_at, put_no, ev_t, ev_c, reduceIte, Nat.reduceEqDiff, List.map_cons, List.map_nil]
      have e55 := some_inj hX47
      subst e55
      exact hN50 _ _ ⟨by simp only [f29, put_at, put_no, ev_t, ev_c, reduceIte, Nat.reduceEqDiff, List.map_cons, List.map_nil], by simp only [f30, put_at, put_no, ev_t, ev_c,
          reduceIte, Nat.reduceEqDiff, List.map_cons, List.map_nil], by simp only [f31, put_at, put_no, ev_t, ev_c, reduceIte, Nat.reduceEqDiff, List.map_cons, List.map_nil],
          by simp only [f32, put_at, put_no, ev_t, ev_c, reduceIte, Nat.reduceEqDiff, List.map_cons, List.map_nil], by simp only [put_at, put_no, ev_t, ev_c, reduceIte,
          Nat.reduceEqDiff, List.map_cons, List.map_nil], by simp only [f33, put_at, put_no, ev_t, ev_c, reduceIte, Nat.reduceEqDiff, List.map_cons, List.map_nil],
          by simp only [f36, put_at, put_no, ev_t, ev_c, reduceIte, Nat.reduceEqDiff, List.map_cons, List.map_nil], by simp only [f35, put_at, put_no, ev_t, ev_c, reduceIte,
          Nat.reduceEqDiff, List.map_cons, List.map_nil], hS44⟩
    · rintro fr56 h57 ⟨f59, f60, f61, f62, f63, f64, f65, f66, hS58⟩
      unfold spec_l14Share_j1 at hk48
      simp only [x73_3, run_seq, run_reg, f63, run_fa, put1_some, Nat.reduceAdd, Nat.zero_add, Nat.add_zero, xfa_ref, run_ld, put_at, put_no, ev_t, ev_c, reduceIte,
          Nat.reduceEqDiff, List.map_cons, List.map_nil]
      refine put1_eq (v := .bool x13.In) rfl ?_
      simp only [run_ops_nil, x73_2, run_cond, put_at, put_no, ev_t, ev_c, reduceIte, Nat.reduceEqDiff, List.map_cons, List.map_nil]
      refine cond_split (t := x13.In) (fun hc67 => ?_) (fun hc67 => ?_)
      · rw [iteT hc67] at hk48
        simp only [run_reg, f61, run_mv, run_bin, put1_some, xadd, run_ops_nil, run_nil, put_at, put_no, ev_t, ev_c, reduceIte, Nat.reduceEqDiff, List.map_cons, List.map_nil]
        have e68 := some_inj hk48
        exact hN21 _ _ _ e68.symm ⟨by simp only [f59, put_at, put_no, ev_t, ev_c, reduceIte, Nat.reduceEqDiff, List.map_cons, List.map_nil], by simp only [f60, put_at, put_no,
            ev_t, ev_c, reduceIte, Nat.reduceEqDiff, List.map_cons, List.map_nil], by simp only [put_at, put_no, ev_t, ev_c, reduceIte, Nat.reduceEqDiff, List.map_cons,
            List.map_nil], by simp only [f62, put_at, put_no, ev_t, ev_c, reduceIte, Nat.reduceEqDiff, List.map_cons, List.map_nil], by simp only [f64, put_at, put_no, ev_t, ev_c,
            reduceIte, Nat.reduceEqDiff, List.map_cons, List.map_nil], hS58⟩ (by simp only [f66, put_at, put_no, ev_t, ev_c, reduceIte, Nat.reduceEqDiff, List.map_cons,
            List.map_nil]) (by simp only [f65, put_at, put_no, ev_t, ev_c, reduceIte, Nat.reduceEqDiff, List.map_cons, List.map_nil])
      · rw [iteF hc67] at hk48
        simp only [run_skip, run_nil, put_at, put_no, ev_t, ev_c, reduceIte, Nat.reduceEqDiff, List.map_cons, List.map_nil]
        have e69 := some_inj hk48
        exact hN21 _ _ _ e69.symm ⟨by simp only [f59, put_at, put_no, ev_t, ev_c, reduceIte, Nat.reduceEqDiff, List.map_cons, List.map_nil], by simp only [f60, put_at, put_no,
            ev_t, ev_c, reduceIte, Nat.reduceEqDiff, List.map_cons, List.map_nil], by simp only [f61, put_at, put_no, ev_t, ev_c, reduceIte, Nat.reduceEqDiff, List.map_cons,
            List.map_nil], by simp only [f62, put_at, put_no, ev_t, ev_c, reduceIte, Nat.reduceEqDiff, List.map_cons, List.map_nil], by simp only [f64, put_at, put_no, ev_t, ev_c,
            reduceIte, Nat.reduceEqDiff, List.map_cons, List.map_nil], hS58⟩ (by simp only [f66, put_at, put_no, ev_t, ev_c, reduceIte, Nat.reduceEqDiff, List.map_cons,
            List.map_nil]) (by simp only [f65, put_at, put_no, ev_t, ev_c, reduceIte, Nat.reduceEqDiff, List.map_cons, List.map_nil])
  · rintro ⟨s72, s73⟩ fr74 h75 rfl ⟨f77, f78, f79, f80, f81, hS76⟩
    dsimp only [jnO] at hk17
    dsimp only at *
    unfold spec_l14Share_j3 at hk17
    simp only [x73_15, run_seq, run_reg, run_mv, run_ops_nil, x73_14, f78, run_fa, put1_some, Nat.reduceAdd, Nat.zero_add, Nat.add_zero, xfa_ref, run_ld, put_at, put_no, ev_t,
        ev_c, reduceIte, Nat.reduceEqDiff, List.map_cons, List.map_nil]
    refine put1_eq (v := lst cI r_0.Ends) rfl ?_
    simp only [run_len, put1_some, xlen_lst, run_mv, run_ops_nil, put_at, put_no, ev_t, ev_c, reduceIte, Nat.reduceEqDiff, List.map_cons, List.map_nil]
    obtain ⟨oc94, hX96, hk97⟩ := jn_some hk17
    simp only [x73_13]
    refine rangeN_j (σ := (List Int)) (fun i92 s153 => spec_l14Share_b2 s72 s73 i92 s153) (fun s fr' h' => ∃ v89 c90,
        fr' 5 = .int .i64 s72 ∧ fr' 6 = .int .i64 s73 ∧ fr' 9 = v89 ∧ SlF cI 1 3 v89 s c90 ∧ Sep h' h.length (c90 ++ ([]))) hX96 ⟨.nil, [], by simp only [f79, put_at, put_no,
        ev_t, ev_c, reduceIte, Nat.reduceEqDiff, List.map_cons, List.map_nil], by simp only [f80, put_at, put_no, ev_t, ev_c, reduceIte, Nat.reduceEqDiff, List.map_cons,
        List.map_nil], by simp only [put_at, put_no, ev_t, ev_c, reduceIte, Nat.reduceEqDiff, List.map_cons, List.map_nil], SlF.nil,
        (hS76 : Sep _ h.length ([]))⟩ (by simp only [put_at, put_no, ev_t, ev_c, reduceIte, Nat.reduceEqDiff, List.map_cons, List.map_nil]) (by simp only [put_at, put_no, ev_t,
        ev_c, reduceIte, Nat.reduceEqDiff, List.map_cons, List.map_nil]) (fun _ _ _ h => h) rfl rfl (fun _ _ _ _ h => h) (fun _ _ _ _ h => h) (fun _ _ _ _ h => h) (by decide) ?_ ?_
    · rintro i92 s87 fr106 h107 hx112 ⟨v89, c90, f109, f110, f111, hv91, hS108⟩ f113 f114 oc95 hF98 hr99 Q100 hN101 hB105 hK102 hR103 hE104
      unfold spec_l14Share_b2 at hF98
      simp only [x73_11, run_seq, run_reg, f113, run_mv, run_ops_nil, x73_10, f109, run_bin, put1_some, xgtr, put_at, put_no, ev_t, ev_c, reduceIte, Nat.reduceEqDiff,
          List.map_cons, List.map_nil]
      obtain ⟨v118, hx119, hF120⟩ := bind_some' hF98
      refine ops_j 6 (fun fr' h' => Sep h' h.length (c90 ++ ([])) ∧ fr' 42 = .bool v118 ∧ fr' 5 = .int .i64 s72 ∧ fr' 6 = .int .i64 s73 ∧ fr' 9 = v89 ∧ fr' 10 = .int .i64
          (i92 : Int) ∧ fr' 30 = .int .i64 (List.length r_0.Ends : Int) ∧ fr' 31 = .int .i64 (i92 : Int)) (fun Q115 hN116 => ?_) ?_
      · simp only [List.take_succ_cons, List.take_zero]
        simp only [run_guard (g := 36), put_at, put_no, ev_t, ev_c, reduceIte, Nat.reduceEqDiff, List.map_cons, List.map_nil]
        refine guard_split (t := (decide ((0 : Int) < s72))) (fun hg117 => ?_) (fun hg117 => ?_)
        · rw [iteT hg117] at hx119
          obtain ⟨hp121, hF122⟩ := ck_some hx119
          simp only [hg117, run_guard (g := 36), guard_true, run_mv, f109, run_bin, put1_some, xrem_nz (n := s72) hp121, f110, xeql, run_pick, xpick_t, run_ops_nil, run_nil,
              put_at, put_no, ev_t, ev_c, reduceIte, Nat.reduceEqDiff, List.map_cons, List.map_nil]
          have e123 := some_inj hF122
          exact hN116 _ _ ⟨hS108, by rw [← e123]; simp only [put_at, put_no, ev_t, ev_c, reduceIte, Nat.reduceEqDiff, List.map_cons, List.map_nil], by simp only [f109, put_at,
              put_no, ev_t, ev_c, reduceIte, Nat.reduceEqDiff, List.map_cons, List.map_nil], by simp only [f110, put_at, put_no, ev_t, ev_c, reduceIte, Nat.reduceEqDiff,
              List.map_cons, List.map_nil], by simp only [f111, put_at, put_no, ev_t, ev_c, reduceIte, Nat.reduceEqDiff, List.map_cons, List.map_nil], by simp only [put_at,
              put_no, ev_t, ev_c, reduceIte, Nat.reduceEqDiff, List.map_cons, List.map_nil], by simp only [f114, put_at, put_no, ev_t, ev_c, reduceIte, Nat.reduceEqDiff,
              List.map_cons, List.map_nil], by simp only [f113, put_at, put_no, ev_t, ev_c, reduceIte, Nat.reduceEqDiff, List.map_cons, List.map_nil]⟩
        · rw [iteF hg117] at hx119
          simp only [hg117, run_guard (g := 36), guard_off, run_pick, put1_some, xpick_f, run_ops_nil, run_nil, put_at, put_no, ev_t, ev_c, reduceIte, Nat.reduceEqDiff,
              List.map_cons, List.map_nil]
          have e124 := some_inj hx119
          exact hN116 _ _ ⟨hS108, by rw [← e124]; simp only [put_at, put_no, ev_t, ev_c, reduceIte, Nat.reduceEqDiff, List.map_cons, List.map_nil], by simp only [f109, put_at,
              put_no, ev_t, ev_c, reduceIte, Nat.reduceEqDiff, List.map_cons, List.map_nil], by simp only [f110, put_at, put_no, ev_t, ev_c, reduceIte, Nat.reduceEqDiff,
              List.map_cons, List.map_nil], by simp only [f111, put_at, put_no, ev_t, ev_c, reduceIte, Nat.reduceEqDiff, List.map_cons, List.map_nil], by simp only [put_at,
              put_no, ev_t, ev_c, reduceIte, Nat.reduceEqDiff, List.map_cons, List.map_nil], by simp only [f114, put_at, put_no, ev_t, ev_c, reduceIte, Nat.reduceEqDiff,
              List.map_cons, List.map_nil], by simp only [f113, put_at, put_no, ev_t, ev_c, reduceIte, Nat.reduceEqDiff, List.map_cons, List.map_nil]⟩
      · rintro fr125 h133 ⟨hS134, f126, f127, f128, f129, f130, f131, f132⟩
        simp only [List.drop_succ_cons, List.drop_zero]
        simp only [run_ops_nil, x73_9, f126, run_cond, put_at, put_no, ev_t, ev_c, reduceIte, Nat.reduceEqDiff, List.map_cons, List.map_nil]
        refine cond_split (t := v118) (fun hc135 => ?_) (fun hc135 => ?_)
        · rw [iteT hc135] at hF120
          simp only [x73_8, run_reg, f129, run_mv, f130, run_buildS, evp, put_at, put_no, ev_t, ev_c, reduceIte, Nat.reduceEqDiff, List.map_cons, List.map_nil]
          refine put2_buildSF (n := 1) (f := cI) [(i92 : Int)] hS134 rfl rfl (fun v136 c137 h138 hv139 hS140 => ?_)
          simp only [run_app, put_at, put_no, ev_t, ev_c, reduceIte, Nat.reduceEqDiff, List.map_cons, List.map_nil]
          obtain ⟨l142, hx143, hF144⟩ := bind_some' hF120
          refine put2_appF (f := cI) hv91 (Sep.m1 hS140) hW (fun _ => rfl) (fun _ => rfl) (SlF.first hv139 hS140 (fun _ => rfl)) hx143 (fun v145 c146 h147 hv148 hS149 => ?_)
          simp only [run_mv, run_ops_nil, run_nil, put_at, put_no, ev_t, ev_c, reduceIte, Nat.reduceEqDiff, List.map_cons, List.map_nil]
          have e151 := some_inj hF144
          exact hN101 _ _ _ e151.symm ⟨v145, c146, by simp only [f127, put_at, put_no, ev_t, ev_c, reduceIte, Nat.reduceEqDiff, List.map_cons, List.map_nil], by simp only [f128,
              put_at, put_no, ev_t, ev_c, reduceIte, Nat.reduceEqDiff, List.map_cons, List.map_nil], by simp only [put_at, put_no, ev_t, ev_c, reduceIte, Nat.reduceEqDiff,
              List.map_cons, List.map_nil], hv148, (Sep.dc (Sep.m1 hS149))⟩ (by simp only [f132, put_at, put_no, ev_t, ev_c, reduceIte, Nat.reduceEqDiff, List.map_cons,
              List.map_nil]) (by simp only [f131, put_at, put_no, ev_t, ev_c, reduceIte, Nat.reduceEqDiff, List.map_cons, List.map_nil])
        · rw [iteF hc135] at hF120
          simp only [run_skip, run_nil, put_at, put_no, ev_t, ev_c, reduceIte, Nat.reduceEqDiff, List.map_cons, List.map_nil]
          have e152 := some_inj hF120
          exact hN101 _ _ _ e152.symm ⟨v89, c90, by simp only [f127, put_at, put_no, ev_t, ev_c, reduceIte, Nat.reduceEqDiff, List.map_cons, List.map_nil], by simp only [f128,
              put_at, put_no, ev_t, ev_c, reduceIte, Nat.reduceEqDiff, List.map_cons, List.map_nil], by simp only [f129, put_at, put_no, ev_t, ev_c, reduceIte, Nat.reduceEqDiff,
              List.map_cons, List.map_nil], hv91, hS134⟩ (by simp only [f132, put_at, put_no, ev_t, ev_c, reduceIte, Nat.reduceEqDiff, List.map_cons,
              List.map_nil]) (by simp only [f131, put_at, put_no, ev_t, ev_c, reduceIte, Nat.reduceEqDiff, List.map_cons, List.map_nil])
    · rintro s154 fr159 h160 rfl ⟨v156, c157, f162, f163, f164, hv158, hS161⟩
      dsimp only [jnO] at hk97
      unfold spec_l14Share_j2 at hk97
      simp only [run_seq, run_reg, f164, run_mv, run_ops_nil, run_ret, put_at, put_no, ev_t, ev_c, reduceIte, Nat.reduceEqDiff, List.map_cons, List.map_nil]
      have he := some_inj hk97
      subst he
      simp only [end_ret1, put_at, put_no, ev_t, ev_c, reduceIte, Nat.reduceEqDiff, List.map_cons, List.map_nil]
      exact ⟨v156, c157, by first | trivial | rfl, hv158, hS161⟩
theorem spec_l1Has_x {W : Nat → Bool} {h : Heap} (hW : ∀ b,
    h.length ≤ b → W b = true) (l_0 : List Int) (n_1 : Int) (r : Bool) (hF : spec_l1Has l_0 n_1 = some r) : Ret E W 74 [lst cI l_0,
    .int .i64 n_1] h (fun v h' => cut h.length h' E.sz false 9 v = some (.bool r)) := by
  refine Ret.of (fn := x74) rfl (Run.of ?_)
  unfold spec_l1Has at hF
  have zf0 : argFr [lst cI l_0, .int .i64 n_1] 0 = lst cI l_0 := rfl
  have zf1 : argFr [lst cI l_0, .int .i64 n_1] 1 = .int .i64 n_1 := rfl
  generalize argFr [lst cI l_0, .int .i64 n_1] = fr0 at zf0 zf1 ⊢
  have hS : Sep h h.length [] := Sep.nil h
  simp only [x74, run_seq, run_reg, run_mv, run_ops_nil, x74_5, zf0, run_len, put1_some, xlen_lst, put_at, put_no, ev_t, ev_c, reduceIte, Nat.reduceEqDiff, List.map_cons,
      List.map_nil]
  obtain ⟨oc3, hX5, hk6⟩ := jn_some hF
  simp only [x74_4]
  refine rangeL_j (σ := Unit) l_0 (fun i1 x2 _ => spec_l1Has_b1 n_1 i1 x2 ) (fun s fr' h' => fr' 1 = .int .i64 n_1 ∧ fr' 7 = lst cI l_0 ∧ Sep h' h.length
      ([])) hX5 ⟨by simp only [zf1, put_at, put_no, ev_t, ev_c, reduceIte, Nat.reduceEqDiff, List.map_cons, List.map_nil], by simp only [put_at, put_no, ev_t, ev_c, reduceIte,
      Nat.reduceEqDiff, List.map_cons, List.map_nil], hS⟩ (by simp only [put_at, put_no, ev_t, ev_c, reduceIte, Nat.reduceEqDiff, List.map_cons,
      List.map_nil]) (by simp only [put_at, put_no, ev_t, ev_c, reduceIte, Nat.reduceEqDiff, List.map_cons,
      List.map_nil]) (fun _ _ _ h => h) rfl rfl (fun _ _ _ _ h => h) (fun _ _ _ _ h => h) (fun _ _ _ _ h => h) (by decide) ?_ ?_
  · rintro i1 x2 _ fr15 h16 hx20 ⟨f18, f19, hS17⟩ f21 f22 oc4 hF7 hr8 Q9 hN10 hB14 hK11 hR12 hE13
    unfold spec_l1Has_b1 at hF7
    simp only [x74_2, run_seq, run_reg, f19, f21, run_ia, put_at, put_no, ev_t, ev_c, reduceIte, Nat.reduceEqDiff, List.map_cons, List.map_nil]
    refine put1_eq (v := .ref (cI x2) 0) (xia_lstN hx20 rfl) ?_
    simp only [run_ld, put_at, put_no, ev_t, ev_c, reduceIte, Nat.reduceEqDiff, List.map_cons, List.map_nil]
    refine put1_eq (v := .int .i64 x2) rfl ?_
    simp only [run_mv, run_ops_nil, x74_1, run_seq, run_reg, f18, run_bin, put1_some, xeql, run_cond, put_at, put_no, ev_t, ev_c, reduceIte, Nat.reduceEqDiff, List.map_cons,
        List.map_nil]
    refine cond_split (t := (decide (x2 = n_1))) (fun hc23 => ?_) (fun hc23 => ?_)
    · rw [iteT hc23] at hF7
      simp only [run_seq, run_reg, run_mv, run_ops_nil, run_ret, put_at, put_no, ev_t, ev_c, reduceIte, Nat.reduceEqDiff, List.map_cons, List.map_nil]
      have e24 := some_inj hF7
      subst e24
      have ho25 := hr8 _ rfl
      have hk26 := hk6
      rw [ho25] at hk26
      dsimp only [jnO] at hk26
      apply hR12
      have he := some_inj hk26
      subst he
      simp only [end_ret1, put_at, put_no, ev_t, ev_c, reduceIte, Nat.reduceEqDiff, List.map_cons, List.map_nil]
      exact rfl
    · rw [iteF hc23] at hF7
      simp only [run_skip, run_nil, put_at, put_no, ev_t, ev_c, reduceIte, Nat.reduceEqDiff, List.map_cons, List.map_nil]
      have e27 := some_inj hF7
      exact hN10 _ _ _ e27.symm ⟨by simp only [f18, put_at, put_no, ev_t, ev_c, reduceIte, Nat.reduceEqDiff, List.map_cons, List.map_nil], by simp only [f19, put_at, put_no, ev_t,
          ev_c, reduceIte, Nat.reduceEqDiff, List.map_cons, List.map_nil], hS17⟩ (by simp only [f21, put_at, put_no, ev_t, ev_c, reduceIte, Nat.reduceEqDiff, List.map_cons,
          List.map_nil]) (by simp only [f22, put_at, put_no, ev_t, ev_c, reduceIte, Nat.reduceEqDiff, List.map_cons, List.map_nil])
  · rintro _ fr29 h30 rfl ⟨f32, f33, hS31⟩
    dsimp only [jnO] at hk6
    unfold spec_l1Has_j1 at hk6
    simp only [run_seq, run_reg, run_mv, run_ops_nil, run_ret, put_at, put_no, ev_t, ev_c, reduceIte, Nat.reduceEqDiff, List.map_cons, List.map_nil]
    have he := some_inj hk6
    subst he
    simp only [end_ret1, put_at, put_no, ev_t, ev_c, reduceIte, Nat.reduceEqDiff, List.map_cons, List.map_nil]
    exact rfl
end Go.Proofs.Ytdhibknhejhfaaa.X
