/- The functions' code comes to what the plain functions say (3). -/
import Derived.Test.YtpkiieniipenjaaXBH2
set_option linter.unusedVariables false
set_option linter.unusedSimpArgs false
set_option maxRecDepth 100000
namespace Go.Proofs.Ytpkiieniipenjaa.X
open Go
open Nat (reduceEqDiff)
theorem spec_l8Come_x {W : Nat → Bool} {h : Heap} {lo : Nat → Prop} {S0 : List Obj} (hW : ∀ b,
    lo b → W b = true) (v_0 : Snap) (pv0_0 : XV) (pc0_0 : List Obj) (ph0_0 : SlF cI 1 3 pv0_0 v_0.Amounts pc0_0) (pv0_1 : XV) (pc0_1 : List Obj)
    (ph0_1 : SlN Chan.R 3 74 pv0_1 v_0.Chans pc0_1) (pv0_2 : XV) (pc0_2 : List Obj) (ph0_2 : SlN Picture.R 4 76 pv0_2 v_0.Pictures pc0_2) (v_1 : Int) (r : Snap × Bool)
    (hF : spec_l8Come v_0 v_1 = some r) (hS : Sep h lo (pc0_0 ++ (pc0_1 ++ (pc0_2 ++ (S0))))) : Ret E W 73 [.agg [pv0_0, pv0_1, pv0_2, .int .i64 v_0.Sent, .int .i64 v_0.Total],
    .int .i64 v_1] h (fun v h' => ∃ rc0_0 rc0_1 rc0_2, v = .tup [.agg [pv0_0, pv0_1, pv0_2, .int .i64 r.1.Sent, .int .i64 r.1.Total],
    .bool r.2] ∧ SlF cI 1 3 pv0_0 r.1.Amounts rc0_0 ∧ SlN Chan.R 3 74 pv0_1 r.1.Chans rc0_1 ∧ SlN Picture.R 4 76 pv0_2 r.1.Pictures rc0_2 ∧ Sep h' lo (rc0_0 ++ (rc0_1 ++
    (rc0_2 ++ (S0))))) := by
  refine Ret.of (fn := x73) rfl (Run.of ?_)
  unfold spec_l8Come at hF
  have zf0 : argFr [.agg [pv0_0, pv0_1, pv0_2, .int .i64 v_0.Sent, .int .i64 v_0.Total], .int .i64 v_1] 0 = .agg [pv0_0, pv0_1, pv0_2, .int .i64 v_0.Sent,
      .int .i64 v_0.Total] := rfl
  have zf1 : argFr [.agg [pv0_0, pv0_1, pv0_2, .int .i64 v_0.Sent, .int .i64 v_0.Total], .int .i64 v_1] 1 = .int .i64 v_1 := rfl
  generalize argFr [.agg [pv0_0, pv0_1, pv0_2, .int .i64 v_0.Sent, .int .i64 v_0.Total], .int .i64 v_1] = fr0 at zf0 zf1 ⊢
  simp only [x73, run_seq, run_reg, run_box, zf0, B0, reduceIte, reduceEqDiff]
  refine put2_boxC (cs := [pv0_0, pv0_1, pv0_2, .int .i64 v_0.Sent,
      .int .i64 v_0.Total]) hS rfl rfl (all_c (SlF.one ph0_0) (all_c (SlN.one ph0_1) (all_c (SlN.one ph0_2) (all_c rfl (all_c rfl all_n))))) (fun b1 h2 hS3 => ?_)
  simp only [run_new, B0, reduceIte, reduceEqDiff]
  refine put2_newC hS3 (fun b5 h6 hS7 => ?_)
  simp only [run_mv, run_ops_nil, x73_15, run_seq, run_reg, run_fa, put1_some, Nat.reduceAdd, Nat.zero_add, Nat.add_zero, xfa_ptr, run_ld, B0, reduceIte, reduceEqDiff]
  refine put1_eq (v := pv0_1) ((xld_b (Sep.bk _ _ _ (Sep.m1 hS7))).trans rfl) ?_
  obtain ⟨x9, hx10, hF11⟩ := bind_some' hF
  simp only [zf1, run_mv, run_ia, B0, reduceIte, reduceEqDiff]
  obtain ⟨b12, hb13⟩ := SlN.isrow ph0_1 (geti_ne hx10)
  refine put1_eq (SlN.ia ph0_1 hb13 hx10) ?_
  obtain ⟨c14, cs15, os16, hv17, hR18, hS19⟩ := SlG.opn (SlN.toG ph0_1 hb13 Chan.RO.len) hx10 hk_nil Chan.RO.len (Sep.m3 hS7)
  obtain ⟨v21, c22, hv23, rfl, rfl⟩ := hR18
  have hS20 := Sep.no1 hS19
  simp only [run_ld, B0, reduceIte, reduceEqDiff]
  refine put1_eq (v := .agg [.int .i64 x9.From, .int .i64 x9.To, v21]) ((SlG.lds (o := 0) hv17 rfl hx10 hS20 (Nat.le_of_ble_eq_true rfl)).trans rfl) ?_
  simp only [run_new, B0, reduceIte, reduceEqDiff]
  refine put2_newC hS20 (fun b25 h26 hS27 => ?_)
  simp only [run_st, B0, reduceIte, reduceEqDiff]
  refine put2_stCx (us := [.int .i64 x9.From, .int .i64 x9.To, v21]) rfl (cs' := [.int .i64 x9.From, .int .i64 x9.To,
      v21]) hS27 hW rfl (all_c rfl (all_c rfl (all_c (SlF.one hv23) all_n))) (Nat.le_of_ble_eq_true rfl) rfl (fun h29 hS30 => ?_)
  simp only [run_ops_nil, B0, reduceIte, reduceEqDiff]
  refine frz_stepC hS30 hW (by simp only [B0, reduceIte, reduceEqDiff]) (fun h31 hS32 => ?_)
  simp only [run_frz_nil, x73_14, run_seq, run_reg, run_fa, put1_some, Nat.reduceAdd, Nat.zero_add, Nat.add_zero, xfa_ref, run_ld, B0, reduceIte, reduceEqDiff]
  refine put1_eq (v := v21) rfl ?_
  obtain ⟨x33, hx34, hF35⟩ := bind_some' hF11
  simp only [run_ia, B0, reduceIte, reduceEqDiff]
  obtain ⟨b36, hb37⟩ := SlF.isrow hv23 (geti_ne hx34)
  refine put1_eq (SlF.ia hv23 hb37 hx34) ?_
  simp only [run_ld, B0, reduceIte, reduceEqDiff]
  refine put1_eq (v := .int .i64 x33) ((SlF.ld (o := 0) hv23 (Sep.m1 hS32) hb37 hx34 (fun _ => rfl) (Nat.le_of_ble_eq_true rfl)).trans rfl) ?_
  simp only [run_mv, run_ops_nil, x73_13, run_seq, run_draw, d1_fa, put1d_some, Nat.reduceAdd, Nat.zero_add, Nat.add_zero, xfa_ptr, d1_ld, B0, reduceIte, reduceEqDiff]
  refine ldd_ptr (Sep.ltk (Sep.m3 hS32)) ?_
  refine put1d_eq (v := pv0_1) ((xld_b (Sep.bk _ _ _ (Sep.m3 hS32))).trans rfl) ?_
  simp only [zf1, d1_mv, put1d_some, d4_buildS, evp, B0, reduceIte, reduceEqDiff]
  refine put2d_buildSF (n := 1) (f := cI) ([] : List Int) hS32 rfl rfl (fun v38 c39 h40 hv41 hS42 => ?_)
  simp only [d4_fa, put1d_some, Nat.reduceAdd, Nat.zero_add, Nat.add_zero, xfa_ref, d4_ld, B0, reduceIte, reduceEqDiff]
  refine put1d_eq (v := v21) rfl ?_
  obtain ⟨l44, hx45, hF46⟩ := bind_some' hF35
  simp only [d4_slc, Option.map_some, Option.map_none, B0, reduceIte, reduceEqDiff]
  obtain ⟨w47, i48, he49, hw50⟩ := SlF.win (f := cI) (ty := 3) (some (1 : Int)) none hv23 hx45 (Sep.m2 hS42)
  refine put1d_eq he49 ?_
  simp only [d2_appQ, B0, reduceIte, reduceEqDiff]
  obtain ⟨l51, hx52, hF53⟩ := bind_some' hF46
  refine q_app (disjR1 (fun z hz => Sep.dj (Sep.m1 (Sep.m4 hS42)) blkfp (SlF.rowfp hv41 z hz)) disjR0) ?_
  refine put2d_appF (f := cI) hv41 hS42 hW (fun _ => rfl) (fun _ => rfl) (SlW.first hw50 hv23 (Sep.m2 hS42) (fun _ => rfl)) hx52 (fun v54 c55 h56 hv57 hS58 => ?_)
  simp only [d4_ia, B0, reduceIte, reduceEqDiff]
  refine put1d_eq (SlG.ia hv17 hx10) ?_
  simp only [d4_fa, put1d_some, Nat.reduceAdd, Nat.zero_add, Nat.add_zero, xfa_ptr, d3_st, B0, reduceIte, reduceEqDiff]
  refine put2d_stGx (us := [v54]) (o := 2) (cs' := [.int .i64 x9.From, .int .i64 x9.To,
      v54]) (cells_one (SlF.one hv57)) hv17 rfl hx10 (Sep.m1 hS58) hW rfl (all_c (SlF.one hv57) all_n) (Nat.le_of_ble_eq_true rfl) rfl (fun c62 h60 hv63 hS61 => ?_)
  simp only [run_draw_nil, x73_12, run_seq, run_reg, run_mv, run_bin, put1_some, xgtr, run_ops_nil, x73_5, run_cond, B0, reduceIte, reduceEqDiff]
  refine cond_split (t := (decide ((0 : Int) < x33))) (fun hc64 => ?_) (fun hc64 => ?_)
  · rw [iteT hc64] at hF53
    simp only [x73_4, run_seq, run_reg, run_fa, put1_some, Nat.reduceAdd, Nat.zero_add, Nat.add_zero, xfa_ptr, run_ld, B0, reduceIte, reduceEqDiff]
    refine put1_eq (v := pv0_0) ((xld_b (Sep.bk _ _ _ (Sep.m4 hS61))).trans rfl) ?_
    simp only [run_fa, put1_some, Nat.reduceAdd, Nat.zero_add, Nat.add_zero, xfa_ref, run_ld, B0, reduceIte, reduceEqDiff]
    refine put1_eq (v := .int .i64 x9.To) rfl ?_
    obtain ⟨x65, hx66, hF67⟩ := bind_some' hF53
    simp only [run_ia, B0, reduceIte, reduceEqDiff]
    obtain ⟨b68, hb69⟩ := SlF.isrow ph0_0 (geti_ne hx66)
    refine put1_eq (SlF.ia ph0_0 hb69 hx66) ?_
    simp only [run_ld, B0, reduceIte, reduceEqDiff]
    refine put1_eq (v := .int .i64 x65) ((SlF.ld (o := 0) ph0_0 (Sep.m5 hS61) hb69 hx66 (fun _ => rfl) (Nat.le_of_ble_eq_true rfl)).trans rfl) ?_
    simp only [run_mv, run_bin, put1_some, xadd, run_ia, B0, reduceIte, reduceEqDiff]
    refine put1_eq (SlF.ia ph0_0 hb69 hx66) ?_
    simp only [run_st, B0, reduceIte, reduceEqDiff]
    refine put2_stF (f := cI) (x' := (IntKind.wrap .i64 (x65 + x33))) (o := 0) ph0_0 (Sep.m5 hS61) hW hb69 hx66 (fun _ => rfl) rfl rfl (Nat.le_of_ble_eq_true rfl) rfl
        (fun c72 h70 hv73 hS71 => ?_)
    have hx74 := geti_set (x' := (IntKind.wrap .i64 (x65 + x33))) hx66
    simp only [run_ops_nil, x73_3, run_seq, run_draw, d4_fa, put1d_some, Nat.reduceAdd, Nat.zero_add, Nat.add_zero, xfa_ptr, d4_ld, B0, reduceIte, reduceEqDiff]
    refine put1d_eq (v := pv0_2) ((xld_b (Sep.bk _ _ _ (Sep.m5 hS71))).trans rfl) ?_
    simp only [d4_fa, put1d_some, Nat.reduceAdd, Nat.zero_add, Nat.add_zero, xfa_ref, d4_ld, B0, reduceIte, reduceEqDiff]
    refine put1d_eq (v := .int .i64 x9.To) rfl ?_
    obtain ⟨x75, hx76, hF77⟩ := bind_some' hF67
    simp only [d4_ia, B0, reduceIte, reduceEqDiff]
    obtain ⟨b78, hb79⟩ := SlN.isrow ph0_2 (geti_ne hx76)
    refine put1d_eq (SlN.ia ph0_2 hb79 hx76) ?_
    obtain ⟨c80, cs81, os82, hv83, hR84, hS85⟩ := SlG.opn (SlN.toG ph0_2 hb79 Picture.RO.len) hx76 hk_nil Picture.RO.len (Sep.m6 hS71)
    obtain ⟨v87, c88, v91, c92, hv89, hv93, rfl, rfl⟩ := hR84
    have hS86 := Sep.no2 hS85
    simp only [d4_fa, put1d_some, Nat.reduceAdd, Nat.zero_add, Nat.add_zero, xfa_ptr, d4_ld, B0, reduceIte, reduceEqDiff]
    refine put1d_eq (v := .bool x75.Taken) ((SlG.ld (o := 0) hv83 rfl hx76 hS86 (Nat.le_of_ble_eq_true rfl)).trans rfl) ?_
    simp only [d4_mv, put1d_some, B0, reduceIte, reduceEqDiff]
    obtain ⟨v98, hx99, hF100⟩ := bind_some' hF77
    refine draw_j 13 (fun fr' h' => Sep h' lo ([Blk1 b1 [pv0_0, pv0_1, pv0_2, .int .i64 v_0.Sent, .int .i64 v_0.Total] 30] ++ ([Blk1 b5 [.nil, .nil, .nil, .int .i64 0,
        .int .i64 0] 30] ++ (c22 ++ (c72 ++ (c62 ++ (c80 ++ (c55 ++ (c88 ++ (c92 ++
        (S0)))))))))) ∧ fr' 60 = .bool v98 ∧ fr' 2 = .ptr b1 0 ∧ fr' 4 = .ptr b5 0 ∧ fr' 6 = .ref [.int .i64 x9.From, .int .i64 x9.To,
        v21] 0 ∧ fr' 7 = .int .i64 x33) rfl (fun Q95 hN96 => ?_) ?_
    · simp only [List.take_succ_cons, List.take_zero]
      simp only [run_guardd (g := 47), B0, reduceIte, reduceEqDiff]
      refine guardd_split (t := x75.Taken) (fun hg97 => ?_) (fun hg97 => ?_)
      · rw [iteT hg97] at hx99
        simp only [hg97, run_guardd (g := 47), guardd_true, d4_fa, put1d_some, Nat.reduceAdd, Nat.zero_add, Nat.add_zero, xfa_ptr, d4_ld, B0, reduceIte, reduceEqDiff]
        refine put1d_eq (v := pv0_2) ((xld_b (Sep.bk _ _ _ (Sep.m8 hS86))).trans rfl) ?_
        simp only [hg97, run_guardd (g := 47), guardd_true, d4_fa, put1d_some, Nat.reduceAdd, Nat.zero_add, Nat.add_zero, xfa_ref, d4_ld, B0, reduceIte, reduceEqDiff]
        refine put1d_eq (v := .int .i64 x9.To) rfl ?_
        simp only [hg97, run_guardd (g := 47), guardd_true, d4_ia, B0, reduceIte, reduceEqDiff]
        refine put1d_eq (SlG.ia hv83 hx76) ?_
        simp only [hg97, run_guardd (g := 47), guardd_true, d4_fa, put1d_some, Nat.reduceAdd, Nat.zero_add, Nat.add_zero, xfa_ptr, d4_ld, B0, reduceIte, reduceEqDiff]
        refine put1d_eq (v := v91) ((SlG.ld (o := 3) hv83 rfl hx76 hS86 (Nat.le_of_ble_eq_true rfl)).trans rfl) ?_
        simp only [hg97, run_guardd (g := 47), guardd_true, d4_fa, put1d_some, Nat.reduceAdd, Nat.zero_add, Nat.add_zero, xfa_ref, d4_ld, B0, reduceIte, reduceEqDiff]
        refine put1d_eq (v := .int .i64 x9.From) rfl ?_
        obtain ⟨x101, hx102, hF103⟩ := bind_some' hx99
        simp only [hg97, run_guardd (g := 47), guardd_true, d4_ia, B0, reduceIte, reduceEqDiff]
        obtain ⟨b104, hb105⟩ := SlF.isrow hv93 (geti_ne hx102)
        refine put1d_eq (SlF.ia hv93 hb105 hx102) ?_
        simp only [hg97, run_guardd (g := 47), guardd_true, d4_ld, B0, reduceIte, reduceEqDiff]
        refine put1d_eq (v := .bool x101) ((SlF.ld (o := 0) hv93 (Sep.m2 hS86) hb105 hx102 (fun _ => rfl) (Nat.le_of_ble_eq_true rfl)).trans rfl) ?_
        simp only [hg97, run_guardd (g := 47), guardd_true, d4_un, put1d_some, xnot, d4_pick, xpick_t, run_draw_nil, run_nil, B0, reduceIte, reduceEqDiff]
        have e106 := some_inj hF103
        exact hN96 _ _ ⟨(Sep.m8 (Sep.m7 (Sep.m6 (Sep.m5 (Sep.m5 (Sep.m3 (Sep.m5 (Sep.m2 (Sep.m2 hS86))))))))), by rw [← e106]; simp only [B0, reduceIte, reduceEqDiff], rfl, rfl,
            rfl, rfl⟩
      · rw [iteF hg97] at hx99
        simp only [hg97, run_guardd (g := 47), guardd_off, d4_pick, put1d_some, xpick_f, run_draw_nil, run_nil, B0, reduceIte, reduceEqDiff]
        have e107 := some_inj hx99
        exact hN96 _ _ ⟨(Sep.m8 (Sep.m7 (Sep.m6 (Sep.m5 (Sep.m5 (Sep.m3 (Sep.m5 (Sep.m2 (Sep.m2 hS86))))))))), by rw [← e107]; simp only [B0, reduceIte, reduceEqDiff], rfl, rfl,
            rfl, rfl⟩
    rintro fr108 h114 ⟨hS115, f109, f110, f111, f112, f113⟩
    simp only [List.drop_succ_cons, List.drop_zero]
    simp only [run_draw_nil, x73_2, f109, run_cond, B0, reduceIte, reduceEqDiff]
    obtain ⟨c116, hv117, hS118⟩ := SlG.cls (e' := (Chan.mk x9.From x9.To l51)) (c := c62) (os := c55) hv63 rfl hx10 hk_nil (Chan.RI (x := (Chan.mk x9.From x9.To l51)) hv57)
        (Sep.m5 (Sep.m6 hS115))
    have hx119 := geti_set (x' := (Chan.mk x9.From x9.To l51)) hx10
    have hv120 := SlG.toN hv117
    obtain ⟨c121, hv122, hS123⟩ := SlG.cls0 (c := c80) (os := c88 ++ (c92)) hv83 rfl hx76 hk_nil (Picture.RI (x := x75) hv89 hv93) (Sep.ni2 (c1 := c88) (c2 := c92) (Sep.m7
        (Sep.m7 (Sep.m7 hS118))))
    have hv124 := SlG.toN hv122
    obtain ⟨s125, hX129, hk130⟩ := bind_some' hF100
    refine cond_j (t := v98) (fun fr' h' => ∃ c126, fr' 2 = .ptr b1 0 ∧ fr' 4 = .ptr b5 0 ∧ SlN Picture.R 4 76 pv0_2 s125 c126 ∧ Sep h' lo ([Blk1 b1 [pv0_0, pv0_1, pv0_2,
        .int .i64 v_0.Sent, .int .i64 v_0.Total] 30] ++ ([Blk1 b5 [.nil, .nil, .nil, .int .i64 0,
        .int .i64 0] 30] ++ (c72 ++ (c116 ++ (c126 ++ (S0))))))) (fun Q131 hN132 hR133 hE134 => ⟨fun hc135 => ?_, fun hc135 => ?_⟩) ?_
    · rw [iteT hc135] at hX129
      simp only [x73_1, run_draw, f110, d4_fa, put1d_some, Nat.reduceAdd, Nat.zero_add, Nat.add_zero, xfa_ptr, d4_ld, B0, reduceIte, reduceEqDiff]
      refine put1d_eq (v := pv0_2) ((xld_b (Sep.bk _ _ _ (Sep.m2 hS123))).trans rfl) ?_
      simp only [f112, d4_fa, put1d_some, Nat.reduceAdd, Nat.zero_add, Nat.add_zero, xfa_ref, d4_ld, B0, reduceIte, reduceEqDiff]
      refine put1d_eq (v := .int .i64 x9.To) rfl ?_
      simp only [d4_ia, B0, reduceIte, reduceEqDiff]
      refine put1d_eq (SlN.ia hv124 hb79 hx76) ?_
      obtain ⟨c136, cs137, os138, hv139, hR140, hS141⟩ := SlG.opn (SlN.toG hv124 hb79 Picture.RO.len) hx76 hk_nil Picture.RO.len hS123
      obtain ⟨v143, c144, v147, c148, hv145, hv149, rfl, rfl⟩ := hR140
      have hS142 := Sep.no2 hS141
      simp only [d4_fa, put1d_some, Nat.reduceAdd, Nat.zero_add, Nat.add_zero, xfa_ptr, d4_ld, B0, reduceIte, reduceEqDiff]
      refine put1d_eq (v := v143) ((SlG.ld (o := 2) hv139 rfl hx76 hS142 (Nat.le_of_ble_eq_true rfl)).trans rfl) ?_
      simp only [f112, d4_fa, put1d_some, Nat.reduceAdd, Nat.zero_add, Nat.add_zero, xfa_ref, d4_ld, B0, reduceIte, reduceEqDiff]
      refine put1d_eq (v := .int .i64 x9.From) rfl ?_
      obtain ⟨x151, hx152, hF153⟩ := bind_some' hX129
      simp only [d4_ia, B0, reduceIte, reduceEqDiff]
      obtain ⟨b154, hb155⟩ := SlF.isrow hv145 (geti_ne hx152)
      refine put1d_eq (SlF.ia hv145 hb155 hx152) ?_
      simp only [d4_ld, B0, reduceIte, reduceEqDiff]
      refine put1d_eq (v := .int .i64 x151) ((SlF.ld (o := 0) hv145 (Sep.m1 hS142) hb155 hx152 (fun _ => rfl) (Nat.le_of_ble_eq_true rfl)).trans rfl) ?_
      simp only [f113, d4_mv, put1d_some, d4_bin, xadd, d4_ia, B0, reduceIte, reduceEqDiff]
      refine put1d_eq (SlF.ia hv145 hb155 hx152) ?_
      simp only [d3_st, B0, reduceIte, reduceEqDiff]
      refine put2d_stF (f := cI) (x' := (IntKind.wrap .i64 (x151 + x33))) (o := 0) hv145 (Sep.m1 hS142) hW hb155 hx152 (fun _ => rfl) rfl rfl (Nat.le_of_ble_eq_true rfl) rfl
          (fun c158 h156 hv159 hS157 => ?_)
      have hx160 := geti_set (x' := (IntKind.wrap .i64 (x151 + x33))) hx152
      simp only [run_draw_nil, run_nil, B0, reduceIte, reduceEqDiff]
      obtain ⟨c161, hv162, hS163⟩ := SlG.cls (e' := (Picture.mk x75.Taken x75.Amount (List.set x75.In x9.From.toNat (IntKind.wrap .i64 (x151 + x33))) x75.Closed)) (c := c136)
          (os := c158 ++ (c148)) hv139 rfl hx76 hk_nil (Picture.RI (x := (Picture.mk x75.Taken x75.Amount (List.set x75.In x9.From.toNat (IntKind.wrap .i64
          (x151 + x33))) x75.Closed)) hv159 hv149) (Sep.ni2 (c1 := c158) (c2 := c148) (Sep.m2 (Sep.m1 (Sep.m2 hS157))))
      have hx164 := geti_set (x' := (Picture.mk x75.Taken x75.Amount (List.set x75.In x9.From.toNat (IntKind.wrap .i64 (x151 + x33))) x75.Closed)) hx76
      have hv165 := SlG.toN hv162
      have e166 := some_inj hF153
      subst e166
      exact hN132 _ _ ⟨c161, f110, f111, hv165, (Sep.m4 (Sep.m4 (Sep.m4 (Sep.m1 (Sep.dc (Sep.m4 hS163))))))⟩
    · rw [iteF hc135] at hX129
      simp only [run_skip, run_nil, B0, reduceIte, reduceEqDiff]
      have e167 := some_inj hX129
      subst e167
      exact hN132 _ _ ⟨c121, f110, f111, hv124, (Sep.m4 (Sep.m4 (Sep.m4 (Sep.m1 (Sep.dc (Sep.m4 hS123))))))⟩
    rintro fr168 h169 ⟨c126, f171, f172, hv127, hS170⟩
    unfold spec_l8Come_j1 at hk130
    simp only [run_seq, run_reg, f171, run_ld, B0, reduceIte, reduceEqDiff]
    refine put1_eq (v := .agg [pv0_0, pv0_1, pv0_2, .int .i64 v_0.Sent, .int .i64 v_0.Total]) ((xld_bs (Sep.bk _ _ _ hS170)).trans rfl) ?_
    simp only [f172, run_st, B0, reduceIte, reduceEqDiff]
    refine put2_stCx (us := [pv0_0, pv0_1, pv0_2, .int .i64 v_0.Sent, .int .i64 v_0.Total]) rfl (cs' := [pv0_0, pv0_1, pv0_2, .int .i64 v_0.Sent,
        .int .i64 v_0.Total]) (Sep.m1 hS170) hW rfl (all_c (SlF.one hv73) (all_c (SlN.one hv120) (all_c (SlN.one hv127) (all_c rfl (all_c rfl all_n)))))
        (Nat.le_of_ble_eq_true rfl) rfl (fun h173 hS174 => ?_)
    simp only [run_mv, run_ops_nil, run_ret, B0, reduceIte, reduceEqDiff]
    have he := some_inj hk130
    subst he
    refine end_ret_m (mapM1 (res_cell (bb := b5) (oo := 0) (v := .agg [pv0_0, pv0_1, pv0_2, .int .i64 v_0.Sent,
        .int .i64 v_0.Total]) (f172) ((xld_bs (Sep.bk _ _ _ hS174)).trans rfl)) (mapM1 (res_t (v := .bool true) (rfl)) mapM0)) ?_
    exact ⟨c72, c116, c126, by first | trivial | rfl, hv73, hv120, hv127, (Sep.m2 (Sep.m2 (Sep.m2 (Sep.dc ((Sep.dc (hS174)))))))⟩
  rw [iteF hc64] at hF53
  simp only [run_skip, x73_11, run_seq, run_reg, run_fa, put1_some, Nat.reduceAdd, Nat.zero_add, Nat.add_zero, xfa_ptr, run_ld, B0, reduceIte, reduceEqDiff]
  refine put1_eq (v := pv0_2) ((xld_b (Sep.bk _ _ _ (Sep.m4 hS61))).trans rfl) ?_
  simp only [run_fa, put1_some, Nat.reduceAdd, Nat.zero_add, Nat.add_zero, xfa_ref, run_ld, B0, reduceIte, reduceEqDiff]
  refine put1_eq (v := .int .i64 x9.To) rfl ?_
  obtain ⟨x176, hx177, hF178⟩ := bind_some' hF53
  simp only [run_ia, B0, reduceIte, reduceEqDiff]
  obtain ⟨b179, hb180⟩ := SlN.isrow ph0_2 (geti_ne hx177)
  refine put1_eq (SlN.ia ph0_2 hb180 hx177) ?_
  obtain ⟨c181, cs182, os183, hv184, hR185, hS186⟩ := SlG.opn (SlN.toG ph0_2 hb180 Picture.RO.len) hx177 hk_nil Picture.RO.len (Sep.m6 hS61)
  obtain ⟨v188, c189, v192, c193, hv190, hv194, rfl, rfl⟩ := hR185
  have hS187 := Sep.no2 hS186
  simp only [run_fa, put1_some, Nat.reduceAdd, Nat.zero_add, Nat.add_zero, xfa_ptr, run_ld, B0, reduceIte, reduceEqDiff]
  refine put1_eq (v := .bool x176.Taken) ((SlG.ld (o := 0) hv184 rfl hx177 hS187 (Nat.le_of_ble_eq_true rfl)).trans rfl) ?_
  simp only [run_un, put1_some, xnot, run_ops_nil, x73_9, run_cond, B0, reduceIte, reduceEqDiff]
  obtain ⟨c196, hv197, hS198⟩ := SlG.cls0 (c := c181) (os := c189 ++ (c193)) hv184 rfl hx177 hk_nil (Picture.RI (x := x176) hv190 hv194) (Sep.ni2 (c1 := c189) (c2 := c193)
      (Sep.m2 (Sep.m2 (Sep.m2 hS187))))
  have hv199 := SlG.toN hv197
  obtain ⟨c200, hv201, hS202⟩ := SlG.cls (e' := (Chan.mk x9.From x9.To l51)) (c := c62) (os := c55) hv63 rfl hx10 hk_nil (Chan.RI (x := (Chan.mk x9.From x9.To l51)) hv57) (Sep.m2
      (Sep.m2 hS198))
  have hx203 := geti_set (x' := (Chan.mk x9.From x9.To l51)) hx10
  have hv204 := SlG.toN hv201
  obtain ⟨oc215, hX216, hk217⟩ := jn_some hF178
  refine cond_j (t := (!x176.Taken)) (fun fr' h' => ∃ s, oc215 = .nxt s ∧ ∃ c207 c210 c213, fr' 2 = .ptr b1 0 ∧ fr' 4 = .ptr b5 0 ∧ fr' 6 = .ref [.int .i64 x9.From,
      .int .i64 x9.To, v21] 0 ∧ SlF cI 1 3 pv0_0 s.2.1 c207 ∧ SlN Chan.R 3 74 pv0_1 s.2.2.1 c210 ∧ SlN Picture.R 4 76 pv0_2 s.2.2.2 c213 ∧ Sep h' lo ([Blk1 b1 [pv0_0, pv0_1,
      pv0_2, .int .i64 s.1.Sent, .int .i64 s.1.Total] 30] ++ ([Blk1 b5 [.nil, .nil, .nil, .int .i64 0,
      .int .i64 0] 30] ++ (c22 ++ (c207 ++ (c210 ++ (c213 ++ (S0)))))))) (fun Q218 hN219 hR220 hE221 => ⟨fun hc222 => ?_, fun hc222 => ?_⟩) ?_
  · rw [iteT hc222] at hX216
    simp only [x73_8, run_seq, run_reg, run_ld, B0, reduceIte, reduceEqDiff]
    refine put1_eq (v := .agg [pv0_0, pv0_1, pv0_2, .int .i64 v_0.Sent, .int .i64 v_0.Total]) ((xld_bs (Sep.bk _ _ _ (Sep.m4 hS202))).trans rfl) ?_
    simp only [run_fa, put1_some, Nat.reduceAdd, Nat.zero_add, Nat.add_zero, xfa_ref, run_ld, B0, reduceIte, reduceEqDiff]
    refine put1_eq (v := .int .i64 x9.To) rfl ?_
    obtain ⟨v223, hx224, hF225⟩ := bind_some' hX216
    simp only [run_call, B0, reduceIte, reduceEqDiff]
    refine call0 rfl (spec_l8Take_x hW (Snap.mk v_0.Amounts (List.set v_0.Chans v_1.toNat
        (Chan.mk x9.From x9.To l51)) v_0.Pictures v_0.Sent v_0.Total) pv0_0 pc0_0 ph0_0 pv0_1 c200 hv204 pv0_2 c196 hv199 x9.To v223 hx224 (Sep.m5 (Sep.m1 (Sep.m1 hS202)))) ?_
    rintro _ h232 ⟨c226, c228, c230, rfl, hv227, hv229, hv231, hS233⟩
    simp only [run_mv, run_ext, put1_some, xext_0, xext_1, run_new, B0, reduceIte, reduceEqDiff]
    refine put2_newC hS233 (fun b234 h235 hS236 => ?_)
    simp only [run_st, B0, reduceIte, reduceEqDiff]
    refine put2_stCx (us := [pv0_0, pv0_1, pv0_2, .int .i64 v223.1.Sent, .int .i64 v223.1.Total]) rfl (cs' := [pv0_0, pv0_1, pv0_2, .int .i64 v223.1.Sent,
        .int .i64 v223.1.Total]) hS236 hW rfl (all_c (SlF.one hv227) (all_c (SlN.one hv229) (all_c (SlN.one hv231) (all_c rfl (all_c rfl all_n)))))
        (Nat.le_of_ble_eq_true rfl) rfl (fun h238 hS239 => ?_)
    simp only [run_mv, run_ops_nil, B0, reduceIte, reduceEqDiff]
    refine frz_stepC hS239 hW (by simp only [B0, reduceIte, reduceEqDiff]) (fun h240 hS241 => ?_)
    simp only [run_frz_nil, x73_7, run_seq, run_reg, run_mv, run_un, put1_some, xnot, run_ops_nil, x73_6, run_cond, B0, reduceIte, reduceEqDiff]
    refine cond_split (t := (!v223.2)) (fun hc242 => ?_) (fun hc242 => ?_)
    · rw [iteT hc242] at hF225
      simp only [run_seq, run_reg, run_ld, B0, reduceIte, reduceEqDiff]
      refine put1_eq (v := .agg [pv0_0, pv0_1, pv0_2, .int .i64 v_0.Sent, .int .i64 v_0.Total]) ((xld_bs (Sep.bk _ _ _ (Sep.m5 hS241))).trans rfl) ?_
      simp only [run_st, B0, reduceIte, reduceEqDiff]
      refine put2_stCx (us := [pv0_0, pv0_1, pv0_2, .int .i64 v_0.Sent, .int .i64 v_0.Total]) rfl (cs' := [pv0_0, pv0_1, pv0_2, .int .i64 v_0.Sent,
          .int .i64 v_0.Total]) (Sep.m4 hS241) hW rfl (all_c (SlF.one hv227) (all_c (SlN.one hv229) (all_c (SlN.one hv231) (all_c rfl (all_c rfl all_n)))))
          (Nat.le_of_ble_eq_true rfl) rfl (fun h243 hS244 => ?_)
      simp only [run_mv, run_ops_nil, run_ret, B0, reduceIte, reduceEqDiff]
      have e245 := some_inj hF225
      subst e245
      have hk217' := hk217
      dsimp only [jnO] at hk217'
      apply hR220
      have he := some_inj hk217'
      subst he
      refine end_ret_m (mapM1 (res_cell (bb := b5) (oo := 0) (v := .agg [pv0_0, pv0_1, pv0_2, .int .i64 v_0.Sent,
          .int .i64 v_0.Total]) (rfl) ((xld_bs (Sep.bk _ _ _ hS244)).trans rfl)) (mapM1 (res_t (v := .bool false) (rfl)) mapM0)) ?_
      exact ⟨c226, c228, c230, by first | trivial | rfl, hv227, hv229, hv231, (Sep.m2 (Sep.m2 (Sep.m2 (Sep.dc (Sep.m3 (Sep.dc (Sep.m3 (Sep.dc (hS244)))))))))⟩
    rw [iteF hc242] at hF225
    simp only [run_skip, run_reg, run_ld, B0, reduceIte, reduceEqDiff]
    refine put1_eq (v := .agg [pv0_0, pv0_1, pv0_2, .int .i64 v223.1.Sent, .int .i64 v223.1.Total]) rfl ?_
    simp only [run_st, B0, reduceIte, reduceEqDiff]
    refine put2_stCx (us := [pv0_0, pv0_1, pv0_2, .int .i64 v223.1.Sent, .int .i64 v223.1.Total]) rfl (cs' := [pv0_0, pv0_1, pv0_2, .int .i64 v223.1.Sent,
        .int .i64 v223.1.Total]) (Sep.m5 hS241) hW rfl (all_c (SlF.one hv227) (all_c (SlN.one hv229) (all_c (SlN.one hv231) (all_c rfl (all_c rfl all_n)))))
        (Nat.le_of_ble_eq_true rfl) rfl (fun h246 hS247 => ?_)
    simp only [run_ops_nil, run_nil, B0, reduceIte, reduceEqDiff]
    have e248 := some_inj hF225
    exact hN219 _ _ ⟨_, e248.symm, c226, c228, c230, rfl, rfl, rfl, hv227, hv229, hv231, (Sep.m5 (Sep.m5 (Sep.m4 (Sep.m3 (Sep.m3 (Sep.m3 hS247))))))⟩
  · rw [iteF hc222] at hX216
    simp only [run_skip, run_nil, B0, reduceIte, reduceEqDiff]
    have e249 := some_inj hX216
    exact hN219 _ _ ⟨_, e249.symm, pc0_0, c200, c196, rfl, rfl, rfl, ph0_0, hv204, hv199, (Sep.m5 (Sep.m4 (Sep.m3 (Sep.m5 (Sep.m1 (Sep.m1 hS202))))))⟩
  rintro fr250 h251 ⟨⟨s205, s206, s209, s212⟩, rfl, c207, c210, c213, f253, f254, f255, hv208, hv211, hv214, hS252⟩
  dsimp only [jnO] at hk217
  dsimp only at *
  unfold spec_l8Come_j2 at hk217
  simp only [x73_10, run_seq, run_draw, f253, d4_fa, put1d_some, Nat.reduceAdd, Nat.zero_add, Nat.add_zero, xfa_ptr, d4_ld, B0, reduceIte, reduceEqDiff]
  refine put1d_eq (v := pv0_2) ((xld_b (Sep.bk _ _ _ hS252)).trans rfl) ?_
  simp only [f255, d4_fa, put1d_some, Nat.reduceAdd, Nat.zero_add, Nat.add_zero, xfa_ref, d4_ld, B0, reduceIte, reduceEqDiff]
  refine put1d_eq (v := .int .i64 x9.To) rfl ?_
  obtain ⟨x256, hx257, hF258⟩ := bind_some' hk217
  simp only [d4_ia, B0, reduceIte, reduceEqDiff]
  refine put1d_eq (SlN.ia hv214 hb180 hx257) ?_
  obtain ⟨c259, cs260, os261, hv262, hR263, hS264⟩ := SlG.opn (SlN.toG hv214 hb180 Picture.RO.len) hx257 hk_nil Picture.RO.len (Sep.m5 hS252)
  obtain ⟨v266, c267, v270, c271, hv268, hv272, rfl, rfl⟩ := hR263
  have hS265 := Sep.no2 hS264
  simp only [d4_fa, put1d_some, Nat.reduceAdd, Nat.zero_add, Nat.add_zero, xfa_ptr, d4_ld, B0, reduceIte, reduceEqDiff]
  refine put1d_eq (v := v270) ((SlG.ld (o := 3) hv262 rfl hx257 hS265 (Nat.le_of_ble_eq_true rfl)).trans rfl) ?_
  simp only [f255, d4_fa, put1d_some, Nat.reduceAdd, Nat.zero_add, Nat.add_zero, xfa_ref, d4_ld, B0, reduceIte, reduceEqDiff]
  refine put1d_eq (v := .int .i64 x9.From) rfl ?_
  obtain ⟨x274, hx275, hF276⟩ := bind_some' hF258
  simp only [d4_ia, B0, reduceIte, reduceEqDiff]
  obtain ⟨b277, hb278⟩ := SlF.isrow hv272 (geti_ne hx275)
  refine put1d_eq (SlF.ia hv272 hb278 hx275) ?_
  simp only [d3_st, B0, reduceIte, reduceEqDiff]
  refine put2d_stF (f := cB) (x' := true) (o := 0) hv272 (Sep.m2 hS265) hW hb278 hx275 (fun _ => rfl) rfl rfl (Nat.le_of_ble_eq_true rfl) rfl (fun c281 h279 hv282 hS280 => ?_)
  have hx283 := geti_set (x' := true) hx275
  simp only [run_draw_nil, run_seq, run_reg, f253, run_ld, B0, reduceIte, reduceEqDiff]
  refine put1_eq (v := .agg [pv0_0, pv0_1, pv0_2, .int .i64 s205.Sent, .int .i64 s205.Total]) ((xld_bs (Sep.bk _ _ _ (Sep.m3 hS280))).trans rfl) ?_
  simp only [f254, run_st, B0, reduceIte, reduceEqDiff]
  refine put2_stCx (us := [pv0_0, pv0_1, pv0_2, .int .i64 s205.Sent, .int .i64 s205.Total]) rfl (cs' := [pv0_0, pv0_1, pv0_2, .int .i64 s205.Sent,
      .int .i64 s205.Total]) (Sep.m4 hS280) hW rfl (all_c (SlF.one hv208) (all_c (SlN.one hv211) (all_c (SlG.one hv262) (all_c rfl (all_c rfl all_n)))))
      (Nat.le_of_ble_eq_true rfl) rfl (fun h284 hS285 => ?_)
  simp only [run_mv, run_ops_nil, run_ret, B0, reduceIte, reduceEqDiff]
  obtain ⟨c286, hv287, hS288⟩ := SlG.cls (e' := (Picture.mk x256.Taken x256.Amount x256.In (List.set x256.Closed x9.From.toNat true))) (c := c259) (os := c267 ++
      (c281)) hv262 rfl hx257 hk_nil (Picture.RI (x := (Picture.mk x256.Taken x256.Amount x256.In (List.set x256.Closed x9.From.toNat true))) hv268 hv282) (Sep.ni2 (c1 := c267)
      (c2 := c281) (Sep.m3 (Sep.m3 (Sep.m1 hS285))))
  have hx289 := geti_set (x' := (Picture.mk x256.Taken x256.Amount x256.In (List.set x256.Closed x9.From.toNat true))) hx257
  have hv290 := SlG.toN hv287
  have he := some_inj hF276
  subst he
  refine end_ret_m (mapM1 (res_cell (bb := b5) (oo := 0) (v := .agg [pv0_0, pv0_1, pv0_2, .int .i64 s205.Sent,
      .int .i64 s205.Total]) (f254) ((xld_bs (Sep.bk _ _ _ (Sep.m1 hS288))).trans rfl)) (mapM1 (res_t (v := .bool true) (rfl)) mapM0)) ?_
  exact ⟨c207, c210, c286, by first | trivial | rfl, hv208, hv211, hv290, (Sep.m2 (Sep.m2 (Sep.dc (Sep.m1 (Sep.dc (Sep.m1 (Sep.dc (Sep.m1 hS288))))))))⟩
end Go.Proofs.Ytpkiieniipenjaa.X
namespace Go.Proofs.Ytpkiieniipenjaa.X
open Go
open Nat (reduceEqDiff)
theorem spec_l8Step_x {W : Nat → Bool} {h : Heap} {lo : Nat → Prop} {S0 : List Obj} (hW : ∀ b,
    lo b → W b = true) (v_0 : Snap) (pv0_0 : XV) (pc0_0 : List Obj) (ph0_0 : SlF cI 1 3 pv0_0 v_0.Amounts pc0_0) (pv0_1 : XV) (pc0_1 : List Obj)
    (ph0_1 : SlN Chan.R 3 74 pv0_1 v_0.Chans pc0_1) (pv0_2 : XV) (pc0_2 : List Obj) (ph0_2 : SlN Picture.R 4 76 pv0_2 v_0.Pictures pc0_2) (v_1 : SnapStep) (r : Snap × Bool)
    (hF : spec_l8Step v_0 v_1 = some r) (hS : Sep h lo (pc0_0 ++ (pc0_1 ++ (pc0_2 ++ (S0))))) : Ret E W 42 [.agg [pv0_0, pv0_1, pv0_2, .int .i64 v_0.Sent, .int .i64 v_0.Total],
    .agg [.int .i64 v_1.Kind, .int .i64 v_1.K, .int .i64 v_1.N]] h (fun v h' => ∃ rc0_0 rc0_1 rc0_2, v = .tup [.agg [pv0_0, pv0_1, pv0_2, .int .i64 r.1.Sent, .int .i64 r.1.Total],
    .bool r.2] ∧ SlF cI 1 3 pv0_0 r.1.Amounts rc0_0 ∧ SlN Chan.R 3 74 pv0_1 r.1.Chans rc0_1 ∧ SlN Picture.R 4 76 pv0_2 r.1.Pictures rc0_2 ∧ Sep h' lo (rc0_0 ++ (rc0_1 ++
    (rc0_2 ++ (S0))))) := by
  refine Ret.of (fn := x42) rfl (Run.of ?_)
  unfold spec_l8Step at hF
  have zf0 : argFr [.agg [pv0_0, pv0_1, pv0_2, .int .i64 v_0.Sent, .int .i64 v_0.Total], .agg [.int .i64 v_1.Kind, .int .i64 v_1.K, .int .i64 v_1.N]] 0 = .agg [pv0_0, pv0_1,
      pv0_2, .int .i64 v_0.Sent, .int .i64 v_0.Total] := rfl
  have zf1 : argFr [.agg [pv0_0, pv0_1, pv0_2, .int .i64 v_0.Sent, .int .i64 v_0.Total], .agg [.int .i64 v_1.Kind, .int .i64 v_1.K, .int .i64 v_1.N]] 1 = .agg [.int .i64 v_1.Kind,
      .int .i64 v_1.K, .int .i64 v_1.N] := rfl
  generalize argFr [.agg [pv0_0, pv0_1, pv0_2, .int .i64 v_0.Sent, .int .i64 v_0.Total], .agg [.int .i64 v_1.Kind, .int .i64 v_1.K, .int .i64 v_1.N]] = fr0 at zf0 zf1 ⊢
  simp only [x42, run_seq, run_reg, run_box, zf0, B0, reduceIte, reduceEqDiff]
  refine put2_boxC (cs := [pv0_0, pv0_1, pv0_2, .int .i64 v_0.Sent,
      .int .i64 v_0.Total]) hS rfl rfl (all_c (SlF.one ph0_0) (all_c (SlN.one ph0_1) (all_c (SlN.one ph0_2) (all_c rfl (all_c rfl all_n))))) (fun b1 h2 hS3 => ?_)
  simp only [run_box, zf1, B0, reduceIte, reduceEqDiff]
  refine put2_boxC (cs := [.int .i64 v_1.Kind, .int .i64 v_1.K, .int .i64 v_1.N]) hS3 rfl rfl rfl (fun b5 h6 hS7 => ?_)
  simp only [run_new, B0, reduceIte, reduceEqDiff]
  refine put2_newC hS7 (fun b9 h10 hS11 => ?_)
  simp only [run_mv, run_ops_nil, B0, reduceIte, reduceEqDiff]
  refine frz_stepC (Sep.m1 hS11) hW (by simp only [B0, reduceIte, reduceEqDiff]) (fun h13 hS14 => ?_)
  simp only [run_frz_nil, x42_22, run_seq, run_reg, run_fa, put1_some, Nat.reduceAdd, Nat.zero_add, Nat.add_zero, xfa_ref, run_ld, B0, reduceIte, reduceEqDiff]
  refine put1_eq (v := .int .i64 v_1.Kind) rfl ?_
  simp only [run_bin, put1_some, xeql, run_ops_nil, x42_4, run_cond, B0, reduceIte, reduceEqDiff]
  refine cond_split (t := (decide (v_1.Kind = 3))) (fun hc15 => ?_) (fun hc15 => ?_)
  · rw [iteT hc15] at hF
    simp only [x42_3, run_seq, run_reg, run_fa, put1_some, Nat.reduceAdd, Nat.zero_add, Nat.add_zero, xfa_ref, run_ld, B0, reduceIte, reduceEqDiff]
    refine put1_eq (v := .int .i64 v_1.N) rfl ?_
    simp only [run_bin, put1_some, xneq, run_mv, B0, reduceIte, reduceEqDiff]
    refine ops_j 4 (fun fr' h' => Sep h' lo ([Blk1 b1 [pv0_0, pv0_1, pv0_2, .int .i64 v_0.Sent, .int .i64 v_0.Total] 30] ++ ([Blk1 b9 [.nil, .nil, .nil, .int .i64 0,
        .int .i64 0] 30] ++ (pc0_0 ++ (pc0_1 ++ (pc0_2 ++ (S0)))))) ∧ fr' 17 = .bool ((decide (v_1.N ≠ 0)) || (decide
        (v_1.K < 0))) ∧ fr' 2 = .ptr b1 0 ∧ fr' 3 = .ref [.int .i64 v_1.Kind, .int .i64 v_1.K, .int .i64 v_1.N] 0 ∧ fr' 4 = .ptr b9 0) (fun Q16 hN17 => ?_) ?_
    · simp only [List.take_succ_cons, List.take_zero]
      simp only [run_guard (g := 13), B0, reduceIte, reduceEqDiff]
      refine guard_split (t := (decide (v_1.N ≠ 0))) (fun hg18 => ?_) (fun hg18 => ?_)
      · simp only [hg18, run_guard (g := 13), guard_off', run_pick, put1_some, xpick_t, run_ops_nil, run_nil, B0, reduceIte, reduceEqDiff]
        exact hN17 _ _ ⟨(Sep.m4 (Sep.m3 (Sep.m4 (Sep.m4 (Sep.m4 hS14))))), by rw [orT hg18]; simp only [B0, reduceIte, reduceEqDiff], rfl, rfl, rfl⟩
      · simp only [hg18, run_guard (g := 13), guard_false, run_fa, put1_some, Nat.reduceAdd, Nat.zero_add, Nat.add_zero, xfa_ref, run_ld, B0, reduceIte, reduceEqDiff]
        refine put1_eq (v := .int .i64 v_1.K) rfl ?_
        simp only [hg18, run_guard (g := 13), guard_false, run_bin, put1_some, xlss, run_pick, xpick_f, run_ops_nil, run_nil, B0, reduceIte, reduceEqDiff]
        exact hN17 _ _ ⟨(Sep.m4 (Sep.m3 (Sep.m4 (Sep.m4 (Sep.m4 hS14))))), by rw [orF hg18]; simp only [B0, reduceIte, reduceEqDiff], rfl, rfl, rfl⟩
    rintro fr19 h24 ⟨hS25, f20, f21, f22, f23⟩
    simp only [List.drop_succ_cons, List.drop_zero]
    simp only [f20, run_mv, B0, reduceIte, reduceEqDiff]
    refine ops_j 7 (fun fr' h' => Sep h' lo ([Blk1 b1 [pv0_0, pv0_1, pv0_2, .int .i64 v_0.Sent, .int .i64 v_0.Total] 30] ++ ([Blk1 b9 [.nil, .nil, .nil, .int .i64 0,
        .int .i64 0] 30] ++ (pc0_0 ++ (pc0_1 ++ (pc0_2 ++ (S0)))))) ∧ fr' 25 = .bool (((decide (v_1.N ≠ 0)) || (decide (v_1.K < 0))) || (decide
        ((List.length v_0.Amounts : Int) ≤ v_1.K))) ∧ fr' 2 = .ptr b1 0 ∧ fr' 3 = .ref [.int .i64 v_1.Kind, .int .i64 v_1.K,
        .int .i64 v_1.N] 0 ∧ fr' 4 = .ptr b9 0) (fun Q26 hN27 => ?_) ?_
    · simp only [List.take_succ_cons, List.take_zero]
      simp only [run_guard (g := 18), B0, reduceIte, reduceEqDiff]
      refine guard_split (t := ((decide (v_1.N ≠ 0)) || (decide (v_1.K < 0)))) (fun hg28 => ?_) (fun hg28 => ?_)
      · simp only [hg28, run_guard (g := 18), guard_off', run_pick, put1_some, xpick_t, run_ops_nil, run_nil, B0, reduceIte, reduceEqDiff]
        exact hN27 _ _ ⟨(Sep.m4 (Sep.m4 (Sep.m4 (Sep.m4 (Sep.m4 hS25))))), by rw [orT hg28]; simp only [B0, reduceIte, reduceEqDiff], f21, f22, f23⟩
      · simp only [hg28, run_guard (g := 18), guard_false, f22, run_fa, put1_some, Nat.reduceAdd, Nat.zero_add, Nat.add_zero, xfa_ref, run_ld, B0, reduceIte, reduceEqDiff]
        refine put1_eq (v := .int .i64 v_1.K) rfl ?_
        simp only [hg28, run_guard (g := 18), guard_false, f21, run_fa, put1_some, Nat.reduceAdd, Nat.zero_add, Nat.add_zero, xfa_ptr, run_ld, B0, reduceIte, reduceEqDiff]
        refine put1_eq (v := pv0_0) ((xld_b (Sep.bk _ _ _ hS25)).trans rfl) ?_
        simp only [hg28, run_guard (g := 18), guard_false, run_len, put1_some, SlF.plen ph0_0, run_bin, xgeq, run_pick, xpick_f, run_ops_nil, run_nil, B0, reduceIte, reduceEqDiff]
        exact hN27 _ _ ⟨(Sep.m4 (Sep.m4 (Sep.m4 (Sep.m4 (Sep.m4 hS25))))), by rw [orF hg28]; simp only [B0, reduceIte, reduceEqDiff], f21, f22, f23⟩
    rintro fr29 h34 ⟨hS35, f30, f31, f32, f33⟩
    simp only [List.drop_succ_cons, List.drop_zero]
    simp only [f30, run_mv, B0, reduceIte, reduceEqDiff]
    obtain ⟨v39, hx40, hF41⟩ := bind_some' hF
    refine ops_j 8 (fun fr' h' => Sep h' lo ([Blk1 b1 [pv0_0, pv0_1, pv0_2, .int .i64 v_0.Sent, .int .i64 v_0.Total] 30] ++ ([Blk1 b9 [.nil, .nil, .nil, .int .i64 0,
        .int .i64 0] 30] ++ (pc0_0 ++ (pc0_1 ++ (pc0_2 ++ (S0)))))) ∧ fr' 34 = .bool v39 ∧ fr' 2 = .ptr b1 0 ∧ fr' 3 = .ref [.int .i64 v_1.Kind, .int .i64 v_1.K,
        .int .i64 v_1.N] 0 ∧ fr' 4 = .ptr b9 0) (fun Q36 hN37 => ?_) ?_
    · simp only [List.take_succ_cons, List.take_zero]
      simp only [run_guard (g := 26), B0, reduceIte, reduceEqDiff]
      refine guard_split (t := (((decide (v_1.N ≠ 0)) || (decide (v_1.K < 0))) || (decide ((List.length v_0.Amounts : Int) ≤ v_1.K)))) (fun hg38 => ?_) (fun hg38 => ?_)
      · rw [iteT hg38] at hx40
        simp only [hg38, run_guard (g := 26), guard_off', run_pick, put1_some, xpick_t, run_ops_nil, run_nil, B0, reduceIte, reduceEqDiff]
        have e42 := some_inj hx40
        exact hN37 _ _ ⟨(Sep.m4 (Sep.m4 (Sep.m4 (Sep.m4 (Sep.m4 hS35))))), by rw [← e42]; simp only [B0, reduceIte, reduceEqDiff], f31, f32, f33⟩
      · rw [iteF hg38] at hx40
        simp only [hg38, run_guard (g := 26), guard_false, f31, run_fa, put1_some, Nat.reduceAdd, Nat.zero_add, Nat.add_zero, xfa_ptr, run_ld, B0, reduceIte, reduceEqDiff]
        refine put1_eq (v := pv0_2) ((xld_b (Sep.bk _ _ _ hS35)).trans rfl) ?_
        simp only [hg38, run_guard (g := 26), guard_false, f32, run_fa, put1_some, Nat.reduceAdd, Nat.zero_add, Nat.add_zero, xfa_ref, run_ld, B0, reduceIte, reduceEqDiff]
        refine put1_eq (v := .int .i64 v_1.K) rfl ?_
        obtain ⟨x43, hx44, hF45⟩ := bind_some' hx40
        simp only [hg38, run_guard (g := 26), guard_false, run_ia, B0, reduceIte, reduceEqDiff]
        obtain ⟨b46, hb47⟩ := SlN.isrow ph0_2 (geti_ne hx44)
        refine put1_eq (SlN.ia ph0_2 hb47 hx44) ?_
        obtain ⟨c48, cs49, os50, hv51, hR52, hS53⟩ := SlG.opn (SlN.toG ph0_2 hb47 Picture.RO.len) hx44 hk_nil Picture.RO.len (Sep.m4 hS35)
        obtain ⟨v55, c56, v59, c60, hv57, hv61, rfl, rfl⟩ := hR52
        have hS54 := Sep.no2 hS53
        simp only [hg38, run_guard (g := 26), guard_false, run_fa, put1_some, Nat.reduceAdd, Nat.zero_add, Nat.add_zero, xfa_ptr, run_ld, B0, reduceIte, reduceEqDiff]
        refine put1_eq (v := .bool x43.Taken) ((SlG.ld (o := 0) hv51 rfl hx44 hS54 (Nat.le_of_ble_eq_true rfl)).trans rfl) ?_
        simp only [hg38, run_pick, put1_some, xpick_f, run_ops_nil, run_nil, B0, reduceIte, reduceEqDiff]
        have e63 := some_inj hF45
        exact hN37 _ _ ⟨(Sep.m4 (Sep.m4 (Sep.m4 (Sep.m4 (Sep.m4 hS35))))), by rw [← e63]; simp only [B0, reduceIte, reduceEqDiff], f31, f32, f33⟩
    rintro fr64 h69 ⟨hS70, f65, f66, f67, f68⟩
    simp only [List.drop_succ_cons, List.drop_zero]
    simp only [run_ops_nil, x42_1, f65, run_cond, B0, reduceIte, reduceEqDiff]
    refine cond_split (t := v39) (fun hc71 => ?_) (fun hc71 => ?_)
    · rw [iteT hc71] at hF41
      simp only [run_seq, run_reg, f66, run_ld, B0, reduceIte, reduceEqDiff]
      refine put1_eq (v := .agg [pv0_0, pv0_1, pv0_2, .int .i64 v_0.Sent, .int .i64 v_0.Total]) ((xld_bs (Sep.bk _ _ _ hS70)).trans rfl) ?_
      simp only [f68, run_st, B0, reduceIte, reduceEqDiff]
      refine put2_stCx (us := [pv0_0, pv0_1, pv0_2, .int .i64 v_0.Sent, .int .i64 v_0.Total]) rfl (cs' := [pv0_0, pv0_1, pv0_2, .int .i64 v_0.Sent,
          .int .i64 v_0.Total]) (Sep.m1 hS70) hW rfl (all_c (SlF.one ph0_0) (all_c (SlN.one ph0_1) (all_c (SlN.one ph0_2) (all_c rfl (all_c rfl all_n)))))
          (Nat.le_of_ble_eq_true rfl) rfl (fun h72 hS73 => ?_)
      simp only [run_mv, run_ops_nil, run_ret, B0, reduceIte, reduceEqDiff]
      have he := some_inj hF41
      subst he
      refine end_ret_m (mapM1 (res_cell (bb := b9) (oo := 0) (v := .agg [pv0_0, pv0_1, pv0_2, .int .i64 v_0.Sent,
          .int .i64 v_0.Total]) (f68) ((xld_bs (Sep.bk _ _ _ hS73)).trans rfl)) (mapM1 (res_t (v := .bool false) (rfl)) mapM0)) ?_
      exact ⟨pc0_0, pc0_1, pc0_2, by first | trivial | rfl, ph0_0, ph0_1, ph0_2, (Sep.m2 (Sep.m2 (Sep.m2 (Sep.dc ((Sep.dc (hS73)))))))⟩
    rw [iteF hc71] at hF41
    simp only [run_skip, x42_2, run_seq, run_reg, f66, run_ld, B0, reduceIte, reduceEqDiff]
    refine put1_eq (v := .agg [pv0_0, pv0_1, pv0_2, .int .i64 v_0.Sent, .int .i64 v_0.Total]) ((xld_bs (Sep.bk _ _ _ hS70)).trans rfl) ?_
    simp only [f67, run_fa, put1_some, Nat.reduceAdd, Nat.zero_add, Nat.add_zero, xfa_ref, run_ld, B0, reduceIte, reduceEqDiff]
    refine put1_eq (v := .int .i64 v_1.K) rfl ?_
    obtain ⟨v74, hx75, hF76⟩ := bind_some' hF41
    simp only [run_call, B0, reduceIte, reduceEqDiff]
    refine call0 rfl (spec_l8Take_x hW v_0 pv0_0 pc0_0 ph0_0 pv0_1 pc0_1 ph0_1 pv0_2 pc0_2 ph0_2 v_1.K v74 hx75 (Sep.m4 (Sep.m4 (Sep.m4 hS70)))) ?_
    rintro _ h83 ⟨c77, c79, c81, rfl, hv78, hv80, hv82, hS84⟩
    simp only [run_ext, put1_some, xext_0, xext_1, f68, run_st, B0, reduceIte, reduceEqDiff]
    refine put2_stCx (us := [pv0_0, pv0_1, pv0_2, .int .i64 v74.1.Sent, .int .i64 v74.1.Total]) rfl (cs' := [pv0_0, pv0_1, pv0_2, .int .i64 v74.1.Sent,
        .int .i64 v74.1.Total]) (Sep.m4 hS84) hW rfl (all_c (SlF.one hv78) (all_c (SlN.one hv80) (all_c (SlN.one hv82) (all_c rfl (all_c rfl all_n)))))
        (Nat.le_of_ble_eq_true rfl) rfl (fun h85 hS86 => ?_)
    simp only [run_mv, run_ops_nil, run_ret, B0, reduceIte, reduceEqDiff]
    have he := some_inj hF76
    subst he
    refine end_ret_m (mapM1 (res_cell (bb := b9) (oo := 0) (v := .agg [pv0_0, pv0_1, pv0_2, .int .i64 v74.1.Sent,
        .int .i64 v74.1.Total]) (f68) ((xld_bs (Sep.bk _ _ _ hS86)).trans rfl)) (mapM1 (res_t (v := .bool v74.2) (rfl)) mapM0)) ?_
    exact ⟨c77, c79, c81, by first | trivial | rfl, hv78, hv80, hv82, (Sep.m2 (Sep.m2 (Sep.m2 (Sep.dc (Sep.m3 (Sep.dc (hS86)))))))⟩
  rw [iteF hc15] at hF
  simp only [run_skip, x42_21, run_seq, run_reg, run_fa, put1_some, Nat.reduceAdd, Nat.zero_add, Nat.add_zero, xfa_ref, run_ld, B0, reduceIte, reduceEqDiff]
  refine put1_eq (v := .int .i64 v_1.K) rfl ?_
  simp only [run_bin, put1_some, xlss, run_mv, B0, reduceIte, reduceEqDiff]
  refine ops_j 7 (fun fr' h' => Sep h' lo ([Blk1 b1 [pv0_0, pv0_1, pv0_2, .int .i64 v_0.Sent, .int .i64 v_0.Total] 30] ++ ([Blk1 b9 [.nil, .nil, .nil, .int .i64 0,
      .int .i64 0] 30] ++ (pc0_0 ++ (pc0_1 ++ (pc0_2 ++ (S0)))))) ∧ fr' 52 = .bool ((decide (v_1.K < 0)) || (decide
      ((List.length v_0.Chans : Int) ≤ v_1.K))) ∧ fr' 2 = .ptr b1 0 ∧ fr' 3 = .ref [.int .i64 v_1.Kind, .int .i64 v_1.K,
      .int .i64 v_1.N] 0 ∧ fr' 4 = .ptr b9 0) (fun Q87 hN88 => ?_) ?_
  · simp only [List.take_succ_cons, List.take_zero]
    simp only [run_guard (g := 45), B0, reduceIte, reduceEqDiff]
    refine guard_split (t := (decide (v_1.K < 0))) (fun hg89 => ?_) (fun hg89 => ?_)
    · simp only [hg89, run_guard (g := 45), guard_off', run_pick, put1_some, xpick_t, run_ops_nil, run_nil, B0, reduceIte, reduceEqDiff]
      exact hN88 _ _ ⟨(Sep.m4 (Sep.m3 (Sep.m4 (Sep.m4 (Sep.m4 hS14))))), by rw [orT hg89]; simp only [B0, reduceIte, reduceEqDiff], rfl, rfl, rfl⟩
    · simp only [hg89, run_guard (g := 45), guard_false, run_fa, put1_some, Nat.reduceAdd, Nat.zero_add, Nat.add_zero, xfa_ref, run_ld, B0, reduceIte, reduceEqDiff]
      refine put1_eq (v := .int .i64 v_1.K) rfl ?_
      simp only [hg89, run_guard (g := 45), guard_false, run_fa, put1_some, Nat.reduceAdd, Nat.zero_add, Nat.add_zero, xfa_ptr, run_ld, B0, reduceIte, reduceEqDiff]
      refine put1_eq (v := pv0_1) ((xld_b (Sep.bk _ _ _ (Sep.m1 hS14))).trans rfl) ?_
      simp only [hg89, run_guard (g := 45), guard_false, run_len, put1_some, SlN.len ph0_1, run_bin, xgeq, run_pick, xpick_f, run_ops_nil, run_nil, B0, reduceIte, reduceEqDiff]
      exact hN88 _ _ ⟨(Sep.m4 (Sep.m3 (Sep.m4 (Sep.m4 (Sep.m4 hS14))))), by rw [orF hg89]; simp only [B0, reduceIte, reduceEqDiff], rfl, rfl, rfl⟩
  rintro fr90 h95 ⟨hS96, f91, f92, f93, f94⟩
  simp only [List.drop_succ_cons, List.drop_zero]
  simp only [run_ops_nil, x42_5, f91, run_cond, B0, reduceIte, reduceEqDiff]
  refine cond_split (t := ((decide (v_1.K < 0)) || (decide ((List.length v_0.Chans : Int) ≤ v_1.K)))) (fun hc97 => ?_) (fun hc97 => ?_)
  · rw [iteT hc97] at hF
    simp only [run_seq, run_reg, f92, run_ld, B0, reduceIte, reduceEqDiff]
    refine put1_eq (v := .agg [pv0_0, pv0_1, pv0_2, .int .i64 v_0.Sent, .int .i64 v_0.Total]) ((xld_bs (Sep.bk _ _ _ hS96)).trans rfl) ?_
    simp only [f94, run_st, B0, reduceIte, reduceEqDiff]
    refine put2_stCx (us := [pv0_0, pv0_1, pv0_2, .int .i64 v_0.Sent, .int .i64 v_0.Total]) rfl (cs' := [pv0_0, pv0_1, pv0_2, .int .i64 v_0.Sent,
        .int .i64 v_0.Total]) (Sep.m1 hS96) hW rfl (all_c (SlF.one ph0_0) (all_c (SlN.one ph0_1) (all_c (SlN.one ph0_2) (all_c rfl (all_c rfl all_n)))))
        (Nat.le_of_ble_eq_true rfl) rfl (fun h98 hS99 => ?_)
    simp only [run_mv, run_ops_nil, run_ret, B0, reduceIte, reduceEqDiff]
    have he := some_inj hF
    subst he
    refine end_ret_m (mapM1 (res_cell (bb := b9) (oo := 0) (v := .agg [pv0_0, pv0_1, pv0_2, .int .i64 v_0.Sent,
        .int .i64 v_0.Total]) (f94) ((xld_bs (Sep.bk _ _ _ hS99)).trans rfl)) (mapM1 (res_t (v := .bool false) (rfl)) mapM0)) ?_
    exact ⟨pc0_0, pc0_1, pc0_2, by first | trivial | rfl, ph0_0, ph0_1, ph0_2, (Sep.m2 (Sep.m2 (Sep.m2 (Sep.dc ((Sep.dc (hS99)))))))⟩
  rw [iteF hc97] at hF
  simp only [run_skip, x42_20, run_seq, run_reg, f92, run_fa, put1_some, Nat.reduceAdd, Nat.zero_add, Nat.add_zero, xfa_ptr, run_ld, B0, reduceIte, reduceEqDiff]
  refine put1_eq (v := pv0_1) ((xld_b (Sep.bk _ _ _ hS96)).trans rfl) ?_
  simp only [f93, run_fa, put1_some, Nat.reduceAdd, Nat.zero_add, Nat.add_zero, xfa_ref, run_ld, B0, reduceIte, reduceEqDiff]
  refine put1_eq (v := .int .i64 v_1.K) rfl ?_
  obtain ⟨x100, hx101, hF102⟩ := bind_some' hF
  simp only [run_ia, B0, reduceIte, reduceEqDiff]
  obtain ⟨b103, hb104⟩ := SlN.isrow ph0_1 (geti_ne hx101)
  refine put1_eq (SlN.ia ph0_1 hb104 hx101) ?_
  obtain ⟨c105, cs106, os107, hv108, hR109, hS110⟩ := SlG.opn (SlN.toG ph0_1 hb104 Chan.RO.len) hx101 hk_nil Chan.RO.len (Sep.m3 hS96)
  obtain ⟨v112, c113, hv114, rfl, rfl⟩ := hR109
  have hS111 := Sep.no1 hS110
  simp only [run_ld, B0, reduceIte, reduceEqDiff]
  refine put1_eq (v := .agg [.int .i64 x100.From, .int .i64 x100.To, v112]) ((SlG.lds (o := 0) hv108 rfl hx101 hS111 (Nat.le_of_ble_eq_true rfl)).trans rfl) ?_
  simp only [run_new, B0, reduceIte, reduceEqDiff]
  refine put2_newC hS111 (fun b116 h117 hS118 => ?_)
  simp only [run_st, B0, reduceIte, reduceEqDiff]
  refine put2_stCx (us := [.int .i64 x100.From, .int .i64 x100.To, v112]) rfl (cs' := [.int .i64 x100.From, .int .i64 x100.To,
      v112]) hS118 hW rfl (all_c rfl (all_c rfl (all_c (SlF.one hv114) all_n))) (Nat.le_of_ble_eq_true rfl) rfl (fun h120 hS121 => ?_)
  simp only [run_ops_nil, B0, reduceIte, reduceEqDiff]
  refine frz_stepC hS121 hW (by simp only [B0, reduceIte, reduceEqDiff]) (fun h122 hS123 => ?_)
  simp only [run_frz_nil, x42_19, run_seq, run_reg, f93, run_fa, put1_some, Nat.reduceAdd, Nat.zero_add, Nat.add_zero, xfa_ref, run_ld, B0, reduceIte, reduceEqDiff]
  refine put1_eq (v := .int .i64 v_1.Kind) rfl ?_
  simp only [run_ops_nil, x42_18, run_block, x42_17, run_seq, run_reg, run_bin, put1_some, xeql, run_mv, x42_16, run_cond, B0, reduceIte, reduceEqDiff]
  refine cond_split (t := (decide (v_1.Kind = 1))) (fun hc124 => ?_) (fun hc124 => ?_)
  · rw [iteT hc124] at hF102
    simp only [x42_10, run_seq, run_draw, f93, d4_fa, put1d_some, Nat.reduceAdd, Nat.zero_add, Nat.add_zero, xfa_ref, d4_ld, B0, reduceIte, reduceEqDiff]
    refine put1d_eq (v := .int .i64 v_1.N) rfl ?_
    simp only [d4_bin, put1d_some, xlss, d4_mv, B0, reduceIte, reduceEqDiff]
    obtain ⟨v128, hx129, hF130⟩ := bind_some' hF102
    refine draw_j 10 (fun fr' h' => Sep h' lo ([Blk1 b1 [pv0_0, pv0_1, pv0_2, .int .i64 v_0.Sent, .int .i64 v_0.Total] 30] ++ ([Blk1 b9 [.nil, .nil, .nil, .int .i64 0,
        .int .i64 0] 30] ++ (c113 ++ (pc0_0 ++ (c105 ++ (pc0_2 ++ (S0))))))) ∧ fr' 77 = .bool v128 ∧ fr' 2 = .ptr b1 0 ∧ fr' 3 = .ref [.int .i64 v_1.Kind, .int .i64 v_1.K,
        .int .i64 v_1.N] 0 ∧ fr' 4 = .ptr b9 0 ∧ fr' 6 = .ref [.int .i64 x100.From, .int .i64 x100.To, v112] 0) rfl (fun Q125 hN126 => ?_) ?_
    · simp only [List.take_succ_cons, List.take_zero]
      simp only [run_guardd (g := 67), B0, reduceIte, reduceEqDiff]
      refine guardd_split (t := (decide (v_1.N < 1))) (fun hg127 => ?_) (fun hg127 => ?_)
      · rw [iteT hg127] at hx129
        simp only [hg127, run_guardd (g := 67), guardd_off', d4_pick, put1d_some, xpick_t, run_draw_nil, run_nil, B0, reduceIte, reduceEqDiff]
        have e131 := some_inj hx129
        exact hN126 _ _ ⟨(Sep.m5 (Sep.m5 (Sep.m3 (Sep.m5 (Sep.m1 (Sep.m5 hS123)))))), by rw [← e131]; simp only [B0, reduceIte, reduceEqDiff], f92, f93, f94, rfl⟩
      · rw [iteF hg127] at hx129
        simp only [hg127, run_guardd (g := 67), guardd_false, f93, d4_fa, put1d_some, Nat.reduceAdd, Nat.zero_add, Nat.add_zero, xfa_ref, d4_ld, B0, reduceIte, reduceEqDiff]
        refine put1d_eq (v := .int .i64 v_1.N) rfl ?_
        simp only [hg127, run_guardd (g := 67), guardd_false, f92, d4_fa, put1d_some, Nat.reduceAdd, Nat.zero_add, Nat.add_zero, xfa_ptr, d4_ld, B0, reduceIte, reduceEqDiff]
        refine put1d_eq (v := pv0_0) ((xld_b (Sep.bk _ _ _ (Sep.m2 hS123))).trans rfl) ?_
        simp only [hg127, run_guardd (g := 67), guardd_false, d4_fa, put1d_some, Nat.reduceAdd, Nat.zero_add, Nat.add_zero, xfa_ref, d4_ld, B0, reduceIte, reduceEqDiff]
        refine put1d_eq (v := .int .i64 x100.From) rfl ?_
        obtain ⟨x132, hx133, hF134⟩ := bind_some' hx129
        simp only [hg127, run_guardd (g := 67), guardd_false, d4_ia, B0, reduceIte, reduceEqDiff]
        obtain ⟨b135, hb136⟩ := SlF.isrow ph0_0 (geti_ne hx133)
        refine put1d_eq (SlF.ia ph0_0 hb136 hx133) ?_
        simp only [hg127, run_guardd (g := 67), guardd_false, d4_ld, B0, reduceIte, reduceEqDiff]
        refine put1d_eq (v := .int .i64 x132) ((SlF.ld (o := 0) ph0_0 (Sep.m4 hS123) hb136 hx133 (fun _ => rfl) (Nat.le_of_ble_eq_true rfl)).trans rfl) ?_
        simp only [hg127, run_guardd (g := 67), guardd_false, d4_bin, put1d_some, xgtr, d4_pick, xpick_f, run_draw_nil, run_nil, B0, reduceIte, reduceEqDiff]
        have e137 := some_inj hF134
        exact hN126 _ _ ⟨(Sep.m5 (Sep.m5 (Sep.m3 (Sep.m5 (Sep.m1 (Sep.m5 hS123)))))), by rw [← e137]; simp only [B0, reduceIte, reduceEqDiff], f92, f93, f94, rfl⟩
    rintro fr138 h144 ⟨hS145, f139, f140, f141, f142, f143⟩
    simp only [List.drop_succ_cons, List.drop_zero]
    simp only [f139, d4_mv, put1d_some, B0, reduceIte, reduceEqDiff]
    refine draw_j 5 (fun fr' h' => Sep h' lo ([Blk1 b1 [pv0_0, pv0_1, pv0_2, .int .i64 v_0.Sent, .int .i64 v_0.Total] 30] ++ ([Blk1 b9 [.nil, .nil, .nil, .int .i64 0,
        .int .i64 0] 30] ++ (c113 ++ (pc0_0 ++ (c105 ++ (pc0_2 ++ (S0))))))) ∧ fr' 83 = .bool (v128 || (decide
        ((List.length x100.Way : Int) = 8))) ∧ fr' 2 = .ptr b1 0 ∧ fr' 3 = .ref [.int .i64 v_1.Kind, .int .i64 v_1.K,
        .int .i64 v_1.N] 0 ∧ fr' 4 = .ptr b9 0 ∧ fr' 6 = .ref [.int .i64 x100.From, .int .i64 x100.To, v112] 0) rfl (fun Q146 hN147 => ?_) ?_
    · simp only [List.take_succ_cons, List.take_zero]
      simp only [run_guardd (g := 78), B0, reduceIte, reduceEqDiff]
      refine guardd_split (t := v128) (fun hg148 => ?_) (fun hg148 => ?_)
      · simp only [hg148, run_guardd (g := 78), guardd_off', d4_pick, put1d_some, xpick_t, run_draw_nil, run_nil, B0, reduceIte, reduceEqDiff]
        exact hN147 _ _ ⟨(Sep.m5 (Sep.m5 (Sep.m5 (Sep.m5 (Sep.m5 (Sep.m5 hS145)))))), by rw [orT hg148]; simp only [B0, reduceIte, reduceEqDiff], f140, f141, f142, f143⟩
      · simp only [hg148, run_guardd (g := 78), guardd_false, f143, d4_fa, put1d_some, Nat.reduceAdd, Nat.zero_add, Nat.add_zero, xfa_ref, d4_ld, B0, reduceIte, reduceEqDiff]
        refine put1d_eq (v := v112) rfl ?_
        simp only [hg148, run_guardd (g := 78), guardd_false, d4_len, put1d_some, SlF.plen hv114, d4_bin, xeql, d4_pick, xpick_f, run_draw_nil, run_nil, B0, reduceIte,
            reduceEqDiff]
        exact hN147 _ _ ⟨(Sep.m5 (Sep.m5 (Sep.m5 (Sep.m5 (Sep.m5 (Sep.m5 hS145)))))), by rw [orF hg148]; simp only [B0, reduceIte, reduceEqDiff], f140, f141, f142, f143⟩
    rintro fr149 h155 ⟨hS156, f150, f151, f152, f153, f154⟩
    simp only [List.drop_succ_cons, List.drop_zero]
    simp only [f150, d4_mv, put1d_some, B0, reduceIte, reduceEqDiff]
    refine draw_j 4 (fun fr' h' => Sep h' lo ([Blk1 b1 [pv0_0, pv0_1, pv0_2, .int .i64 v_0.Sent, .int .i64 v_0.Total] 30] ++ ([Blk1 b9 [.nil, .nil, .nil, .int .i64 0,
        .int .i64 0] 30] ++ (c113 ++ (pc0_0 ++ (c105 ++ (pc0_2 ++ (S0))))))) ∧ fr' 88 = .bool ((v128 || (decide ((List.length x100.Way : Int) = 8))) || (decide
        (v_0.Sent = 1000))) ∧ fr' 2 = .ptr b1 0 ∧ fr' 3 = .ref [.int .i64 v_1.Kind, .int .i64 v_1.K, .int .i64 v_1.N] 0 ∧ fr' 4 = .ptr b9 0 ∧ fr' 6 = .ref [.int .i64 x100.From,
        .int .i64 x100.To, v112] 0) rfl (fun Q157 hN158 => ?_) ?_
    · simp only [List.take_succ_cons, List.take_zero]
      simp only [run_guardd (g := 84), B0, reduceIte, reduceEqDiff]
      refine guardd_split (t := (v128 || (decide ((List.length x100.Way : Int) = 8)))) (fun hg159 => ?_) (fun hg159 => ?_)
      · simp only [hg159, run_guardd (g := 84), guardd_off', d4_pick, put1d_some, xpick_t, run_draw_nil, run_nil, B0, reduceIte, reduceEqDiff]
        exact hN158 _ _ ⟨(Sep.m5 (Sep.m5 (Sep.m5 (Sep.m5 (Sep.m5 (Sep.m5 hS156)))))), by rw [orT hg159]; simp only [B0, reduceIte, reduceEqDiff], f151, f152, f153, f154⟩
      · simp only [hg159, run_guardd (g := 84), guardd_false, f151, d4_fa, put1d_some, Nat.reduceAdd, Nat.zero_add, Nat.add_zero, xfa_ptr, d4_ld, B0, reduceIte, reduceEqDiff]
        refine put1d_eq (v := .int .i64 v_0.Sent) ((xld_b (Sep.bk _ _ _ hS156)).trans rfl) ?_
        simp only [hg159, run_guardd (g := 84), guardd_false, d4_bin, put1d_some, xeql, d4_pick, xpick_f, run_draw_nil, run_nil, B0, reduceIte, reduceEqDiff]
        exact hN158 _ _ ⟨(Sep.m5 (Sep.m5 (Sep.m5 (Sep.m5 (Sep.m5 (Sep.m5 hS156)))))), by rw [orF hg159]; simp only [B0, reduceIte, reduceEqDiff], f151, f152, f153, f154⟩
    rintro fr160 h166 ⟨hS167, f161, f162, f163, f164, f165⟩
    simp only [List.drop_succ_cons, List.drop_zero]
    simp only [run_draw_nil, x42_6, f161, run_cond, B0, reduceIte, reduceEqDiff]
    refine cond_split (t := ((v128 || (decide ((List.length x100.Way : Int) = 8))) || (decide (v_0.Sent = 1000)))) (fun hc168 => ?_) (fun hc168 => ?_)
    · rw [iteT hc168] at hF130
      simp only [run_seq, run_reg, f162, run_ld, B0, reduceIte, reduceEqDiff]
      refine put1_eq (v := .agg [pv0_0, pv0_1, pv0_2, .int .i64 v_0.Sent, .int .i64 v_0.Total]) ((xld_bs (Sep.bk _ _ _ hS167)).trans rfl) ?_
      simp only [f164, run_st, B0, reduceIte, reduceEqDiff]
      refine put2_stCx (us := [pv0_0, pv0_1, pv0_2, .int .i64 v_0.Sent, .int .i64 v_0.Total]) rfl (cs' := [pv0_0, pv0_1, pv0_2, .int .i64 v_0.Sent,
          .int .i64 v_0.Total]) (Sep.m1 hS167) hW rfl (all_c (SlF.one ph0_0) (all_c (SlG.one hv108) (all_c (SlN.one ph0_2) (all_c rfl (all_c rfl all_n)))))
          (Nat.le_of_ble_eq_true rfl) rfl (fun h169 hS170 => ?_)
      simp only [run_mv, run_ops_nil, run_ret, B0, reduceIte, reduceEqDiff]
      obtain ⟨c171, hv172, hS173⟩ := SlG.cls0 (c := c105) (os := c113) hv108 rfl hx101 hk_nil (Chan.RI (x := x100) hv114) (Sep.m4 (Sep.m2 hS170))
      have hv174 := SlG.toN hv172
      have he := some_inj hF130
      subst he
      refine end_ret_m (mapM1 (res_cell (bb := b9) (oo := 0) (v := .agg [pv0_0, pv0_1, pv0_2, .int .i64 v_0.Sent,
          .int .i64 v_0.Total]) (f164) ((xld_bs (Sep.bk _ _ _ (Sep.m1 hS173))).trans rfl)) (mapM1 (res_t (v := .bool false) (rfl)) mapM0)) ?_
      exact ⟨pc0_0, c171, pc0_2, by first | trivial | rfl, ph0_0, hv174, ph0_2, (Sep.m2 (Sep.m1 (Sep.m2 (Sep.dc (Sep.m1 (Sep.dc (Sep.m1 hS173)))))))⟩
    rw [iteF hc168] at hF130
    simp only [run_skip, x42_9, run_seq, run_draw, f162, d4_fa, put1d_some, Nat.reduceAdd, Nat.zero_add, Nat.add_zero, xfa_ptr, d4_ld, B0, reduceIte, reduceEqDiff]
    refine put1d_eq (v := pv0_0) ((xld_b (Sep.bk _ _ _ hS167)).trans rfl) ?_
    simp only [f165, d4_fa, put1d_some, Nat.reduceAdd, Nat.zero_add, Nat.add_zero, xfa_ref, d4_ld, B0, reduceIte, reduceEqDiff]
    refine put1d_eq (v := .int .i64 x100.From) rfl ?_
    obtain ⟨x175, hx176, hF177⟩ := bind_some' hF130
    simp only [d4_ia, B0, reduceIte, reduceEqDiff]
    obtain ⟨b178, hb179⟩ := SlF.isrow ph0_0 (geti_ne hx176)
    refine put1d_eq (SlF.ia ph0_0 hb179 hx176) ?_
    simp only [d4_ld, B0, reduceIte, reduceEqDiff]
    refine put1d_eq (v := .int .i64 x175) ((SlF.ld (o := 0) ph0_0 (Sep.m3 hS167) hb179 hx176 (fun _ => rfl) (Nat.le_of_ble_eq_true rfl)).trans rfl) ?_
    simp only [f163, d4_fa, put1d_some, Nat.reduceAdd, Nat.zero_add, Nat.add_zero, xfa_ref, d4_ld, B0, reduceIte, reduceEqDiff]
    refine put1d_eq (v := .int .i64 v_1.N) rfl ?_
    simp only [d4_bin, put1d_some, xsub, d4_ia, B0, reduceIte, reduceEqDiff]
    refine put1d_eq (SlF.ia ph0_0 hb179 hx176) ?_
    simp only [d3_st, B0, reduceIte, reduceEqDiff]
    refine put2d_stF (f := cI) (x' := (IntKind.wrap .i64 (x175 - v_1.N))) (o := 0) ph0_0 (Sep.m3 hS167) hW hb179 hx176 (fun _ => rfl) rfl rfl (Nat.le_of_ble_eq_true rfl) rfl
        (fun c182 h180 hv183 hS181 => ?_)
    have hx184 := geti_set (x' := (IntKind.wrap .i64 (x175 - v_1.N))) hx176
    simp only [run_draw_nil, x42_8, run_seq, run_draw, f162, d1_fa, put1d_some, Nat.reduceAdd, Nat.zero_add, Nat.add_zero, xfa_ptr, d1_ld, B0, reduceIte, reduceEqDiff]
    refine ldd_ptr (Sep.ltk (Sep.m1 hS181)) ?_
    refine put1d_eq (v := pv0_1) ((xld_b (Sep.bk _ _ _ (Sep.m1 hS181))).trans rfl) ?_
    simp only [f163, d1_fa, put1d_some, Nat.reduceAdd, Nat.zero_add, Nat.add_zero, xfa_ref, d1_ld, ldd_ref, B0, reduceIte, reduceEqDiff]
    refine put1d_eq (v := .int .i64 v_1.K) rfl ?_
    simp only [f162, d4_fa, put1d_some, Nat.reduceAdd, Nat.zero_add, Nat.add_zero, xfa_ptr, d4_ld, B0, reduceIte, reduceEqDiff]
    refine put1d_eq (v := pv0_1) ((xld_b (Sep.bk _ _ _ (Sep.m1 hS181))).trans rfl) ?_
    simp only [f163, d4_fa, put1d_some, Nat.reduceAdd, Nat.zero_add, Nat.add_zero, xfa_ref, d4_ld, B0, reduceIte, reduceEqDiff]
    refine put1d_eq (v := .int .i64 v_1.K) rfl ?_
    simp only [d4_ia, B0, reduceIte, reduceEqDiff]
    refine put1d_eq (SlG.ia hv108 hx101) ?_
    simp only [d4_fa, put1d_some, Nat.reduceAdd, Nat.zero_add, Nat.add_zero, xfa_ptr, d4_ld, B0, reduceIte, reduceEqDiff]
    refine put1d_eq (v := v112) ((SlG.ld (o := 2) hv108 rfl hx101 (Sep.m4 hS181) (Nat.le_of_ble_eq_true rfl)).trans rfl) ?_
    simp only [f163, d4_fa, put1d_some, Nat.reduceAdd, Nat.zero_add, Nat.add_zero, xfa_ref, d4_ld, B0, reduceIte, reduceEqDiff]
    refine put1d_eq (v := .int .i64 v_1.N) rfl ?_
    simp only [d4_buildS, evp, B0, reduceIte, reduceEqDiff]
    refine put2d_buildSF (n := 1) (f := cI) [v_1.N] hS181 rfl rfl (fun v185 c186 h187 hv188 hS189 => ?_)
    simp only [d2_appQ, B0, reduceIte, reduceEqDiff]
    obtain ⟨l191, hx192, hF193⟩ := bind_some' hF177
    refine q_app (disjR1 (fun z hz => Sep.dj (Sep.m4 (Sep.m2 hS189)) blkfp (SlF.rowfp hv114 z hz)) disjR0) ?_
    refine put2d_appF (f := cI) hv114 (Sep.m4 hS189) hW (fun _ => rfl) (fun _ => rfl) (SlF.first hv188 hS189 (fun _ => rfl)) hx192 (fun v194 c195 h196 hv197 hS198 => ?_)
    simp only [d4_ia, B0, reduceIte, reduceEqDiff]
    refine put1d_eq (SlG.ia hv108 hx101) ?_
    simp only [d4_fa, put1d_some, Nat.reduceAdd, Nat.zero_add, Nat.add_zero, xfa_ptr, d3_st, B0, reduceIte, reduceEqDiff]
    refine put2d_stGx (us := [v194]) (o := 2) (cs' := [.int .i64 x100.From, .int .i64 x100.To,
        v194]) (cells_one (SlF.one hv197)) hv108 rfl hx101 (Sep.m5 hS198) hW rfl (all_c (SlF.one hv197) all_n) (Nat.le_of_ble_eq_true rfl) rfl (fun c202 h200 hv203 hS201 => ?_)
    simp only [run_draw_nil, x42_7, run_seq, run_reg, f162, run_fa, put1_some, Nat.reduceAdd, Nat.zero_add, Nat.add_zero, xfa_ptr, run_ld, B0, reduceIte, reduceEqDiff]
    refine put1_eq (v := .int .i64 v_0.Sent) ((xld_b (Sep.bk _ _ _ (Sep.m4 hS201))).trans rfl) ?_
    simp only [run_bin, put1_some, xadd, f162, run_fa, Nat.reduceAdd, Nat.zero_add, Nat.add_zero, xfa_ptr, run_st, B0, reduceIte, reduceEqDiff]
    refine put2_stCx (us := [.int .i64 (IntKind.wrap .i64 (v_0.Sent + 1))]) rfl (cs' := [pv0_0, pv0_1, pv0_2, .int .i64 (IntKind.wrap .i64 (v_0.Sent + 1)),
        .int .i64 v_0.Total]) (Sep.m4 hS201) hW rfl rfl (Nat.le_of_ble_eq_true rfl) rfl (fun h204 hS205 => ?_)
    simp only [run_ops_nil, run_seq, run_reg, f162, run_ld, B0, reduceIte, reduceEqDiff]
    refine put1_eq (v := .agg [pv0_0, pv0_1, pv0_2, .int .i64 (IntKind.wrap .i64 (v_0.Sent + 1)), .int .i64 v_0.Total]) ((xld_bs (Sep.bk _ _ _ hS205)).trans rfl) ?_
    simp only [f164, run_st, B0, reduceIte, reduceEqDiff]
    refine put2_stCx (us := [pv0_0, pv0_1, pv0_2, .int .i64 (IntKind.wrap .i64 (v_0.Sent + 1)), .int .i64 v_0.Total]) rfl (cs' := [pv0_0, pv0_1, pv0_2,
        .int .i64 (IntKind.wrap .i64 (v_0.Sent + 1)),
        .int .i64 v_0.Total]) (Sep.m5 hS205) hW rfl (all_c (SlF.one hv183) (all_c (SlG.one hv203) (all_c (SlN.one ph0_2) (all_c rfl (all_c rfl all_n)))))
        (Nat.le_of_ble_eq_true rfl) rfl (fun h206 hS207 => ?_)
    simp only [run_mv, run_ops_nil, run_ret, B0, reduceIte, reduceEqDiff]
    obtain ⟨c208, hv209, hS210⟩ := SlG.cls (e' := (Chan.mk x100.From x100.To l191)) (c := c202) (os := c195) hv203 rfl hx101 hk_nil (Chan.RI (x :=
        (Chan.mk x100.From x100.To l191)) hv197) (Sep.m3 (Sep.m3 hS207))
    have hx211 := geti_set (x' := (Chan.mk x100.From x100.To l191)) hx101
    have hv212 := SlG.toN hv209
    have he := some_inj hF193
    subst he
    refine end_ret_m (mapM1 (res_cell (bb := b9) (oo := 0) (v := .agg [pv0_0, pv0_1, pv0_2, .int .i64 (IntKind.wrap .i64 (v_0.Sent + 1)),
        .int .i64 v_0.Total]) (f164) ((xld_bs (Sep.bk _ _ _ (Sep.m1 hS210))).trans rfl)) (mapM1 (res_t (v := .bool true) (rfl)) mapM0)) ?_
    exact ⟨c182, c208, pc0_2, by first | trivial | rfl, hv183, hv212, ph0_2, (Sep.m2 (Sep.m1 (Sep.m2 (Sep.dc (Sep.m1 (Sep.dc (Sep.m1 (Sep.dc (Sep.m1 hS210)))))))))⟩
  rw [iteF hc124] at hF102
  simp only [x42_15, run_seq, run_reg, run_bin, put1_some, xeql, run_mv, run_ops_nil, x42_14, run_cond, B0, reduceIte, reduceEqDiff]
  refine cond_split (t := (decide (v_1.Kind = 2))) (fun hc213 => ?_) (fun hc213 => ?_)
  · rw [iteT hc213] at hF102
    simp only [x42_13, run_seq, run_reg, f93, run_fa, put1_some, Nat.reduceAdd, Nat.zero_add, Nat.add_zero, xfa_ref, run_ld, B0, reduceIte, reduceEqDiff]
    refine put1_eq (v := .int .i64 v_1.N) rfl ?_
    simp only [run_bin, put1_some, xneq, run_mv, B0, reduceIte, reduceEqDiff]
    refine ops_j 5 (fun fr' h' => Sep h' lo ([Blk1 b1 [pv0_0, pv0_1, pv0_2, .int .i64 v_0.Sent, .int .i64 v_0.Total] 30] ++ ([Blk1 b9 [.nil, .nil, .nil, .int .i64 0,
        .int .i64 0] 30] ++ (pc0_0 ++ (c105 ++ (pc0_2 ++ (c113 ++ (S0))))))) ∧ fr' 132 = .bool ((decide (v_1.N ≠ 0)) || (decide
        ((List.length x100.Way : Int) = 0))) ∧ fr' 2 = .ptr b1 0 ∧ fr' 3 = .ref [.int .i64 v_1.Kind, .int .i64 v_1.K,
        .int .i64 v_1.N] 0 ∧ fr' 4 = .ptr b9 0) (fun Q214 hN215 => ?_) ?_
    · simp only [List.take_succ_cons, List.take_zero]
      simp only [run_guard (g := 127), B0, reduceIte, reduceEqDiff]
      refine guard_split (t := (decide (v_1.N ≠ 0))) (fun hg216 => ?_) (fun hg216 => ?_)
      · simp only [hg216, run_guard (g := 127), guard_off', run_pick, put1_some, xpick_t, run_ops_nil, run_nil, B0, reduceIte, reduceEqDiff]
        exact hN215 _ _ ⟨(Sep.m5 (Sep.m5 (Sep.m5 (Sep.m2 (Sep.m5 (Sep.m1 hS123)))))), by rw [orT hg216]; simp only [B0, reduceIte, reduceEqDiff], f92, f93, f94⟩
      · simp only [hg216, run_guard (g := 127), guard_false, run_fa, put1_some, Nat.reduceAdd, Nat.zero_add, Nat.add_zero, xfa_ref, run_ld, B0, reduceIte, reduceEqDiff]
        refine put1_eq (v := v112) rfl ?_
        simp only [hg216, run_guard (g := 127), guard_false, run_len, put1_some, SlF.plen hv114, run_bin, xeql, run_pick, xpick_f, run_ops_nil, run_nil, B0, reduceIte,
            reduceEqDiff]
        exact hN215 _ _ ⟨(Sep.m5 (Sep.m5 (Sep.m5 (Sep.m2 (Sep.m5 (Sep.m1 hS123)))))), by rw [orF hg216]; simp only [B0, reduceIte, reduceEqDiff], f92, f93, f94⟩
    rintro fr217 h222 ⟨hS223, f218, f219, f220, f221⟩
    simp only [List.drop_succ_cons, List.drop_zero]
    simp only [run_ops_nil, x42_11, f218, run_cond, B0, reduceIte, reduceEqDiff]
    refine cond_split (t := ((decide (v_1.N ≠ 0)) || (decide ((List.length x100.Way : Int) = 0)))) (fun hc224 => ?_) (fun hc224 => ?_)
    · rw [iteT hc224] at hF102
      simp only [run_seq, run_reg, f219, run_ld, B0, reduceIte, reduceEqDiff]
      refine put1_eq (v := .agg [pv0_0, pv0_1, pv0_2, .int .i64 v_0.Sent, .int .i64 v_0.Total]) ((xld_bs (Sep.bk _ _ _ hS223)).trans rfl) ?_
      simp only [f221, run_st, B0, reduceIte, reduceEqDiff]
      refine put2_stCx (us := [pv0_0, pv0_1, pv0_2, .int .i64 v_0.Sent, .int .i64 v_0.Total]) rfl (cs' := [pv0_0, pv0_1, pv0_2, .int .i64 v_0.Sent,
          .int .i64 v_0.Total]) (Sep.m1 hS223) hW rfl (all_c (SlF.one ph0_0) (all_c (SlG.one hv108) (all_c (SlN.one ph0_2) (all_c rfl (all_c rfl all_n)))))
          (Nat.le_of_ble_eq_true rfl) rfl (fun h225 hS226 => ?_)
      simp only [run_mv, run_ops_nil, run_ret, B0, reduceIte, reduceEqDiff]
      obtain ⟨c227, hv228, hS229⟩ := SlG.cls0 (c := c105) (os := c113) hv108 rfl hx101 hk_nil (Chan.RI (x := x100) hv114) (Sep.m4 (Sep.m5 hS226))
      have hv230 := SlG.toN hv228
      have he := some_inj hF102
      subst he
      refine end_ret_m (mapM1 (res_cell (bb := b9) (oo := 0) (v := .agg [pv0_0, pv0_1, pv0_2, .int .i64 v_0.Sent,
          .int .i64 v_0.Total]) (f221) ((xld_bs (Sep.bk _ _ _ (Sep.m1 hS229))).trans rfl)) (mapM1 (res_t (v := .bool false) (rfl)) mapM0)) ?_
      exact ⟨pc0_0, c227, pc0_2, by first | trivial | rfl, ph0_0, hv230, ph0_2, (Sep.m2 (Sep.m1 (Sep.m2 (Sep.dc (Sep.m1 (Sep.dc (Sep.m1 hS229)))))))⟩
    rw [iteF hc224] at hF102
    simp only [run_skip, x42_12, run_seq, run_reg, f219, run_ld, B0, reduceIte, reduceEqDiff]
    refine put1_eq (v := .agg [pv0_0, pv0_1, pv0_2, .int .i64 v_0.Sent, .int .i64 v_0.Total]) ((xld_bs (Sep.bk _ _ _ hS223)).trans rfl) ?_
    simp only [f220, run_fa, put1_some, Nat.reduceAdd, Nat.zero_add, Nat.add_zero, xfa_ref, run_ld, B0, reduceIte, reduceEqDiff]
    refine put1_eq (v := .int .i64 v_1.K) rfl ?_
    obtain ⟨c231, hv232, hS233⟩ := SlG.cls0 (c := c105) (os := c113) hv108 rfl hx101 hk_nil (Chan.RI (x := x100) hv114) (Sep.m4 (Sep.m5 hS223))
    have hv234 := SlG.toN hv232
    obtain ⟨v235, hx236, hF237⟩ := bind_some' hF102
    simp only [run_call, B0, reduceIte, reduceEqDiff]
    refine call0 rfl (spec_l8Come_x hW v_0 pv0_0 pc0_0 ph0_0 pv0_1 c231 hv234 pv0_2 pc0_2 ph0_2 v_1.K v235 hx236 (Sep.m4 (Sep.m1 (Sep.m4 hS233)))) ?_
    rintro _ h244 ⟨c238, c240, c242, rfl, hv239, hv241, hv243, hS245⟩
    simp only [run_ext, put1_some, xext_0, xext_1, f221, run_st, B0, reduceIte, reduceEqDiff]
    refine put2_stCx (us := [pv0_0, pv0_1, pv0_2, .int .i64 v235.1.Sent, .int .i64 v235.1.Total]) rfl (cs' := [pv0_0, pv0_1, pv0_2, .int .i64 v235.1.Sent,
        .int .i64 v235.1.Total]) (Sep.m4 hS245) hW rfl (all_c (SlF.one hv239) (all_c (SlN.one hv241) (all_c (SlN.one hv243) (all_c rfl (all_c rfl all_n)))))
        (Nat.le_of_ble_eq_true rfl) rfl (fun h246 hS247 => ?_)
    simp only [run_mv, run_ops_nil, run_ret, B0, reduceIte, reduceEqDiff]
    have he := some_inj hF237
    subst he
    refine end_ret_m (mapM1 (res_cell (bb := b9) (oo := 0) (v := .agg [pv0_0, pv0_1, pv0_2, .int .i64 v235.1.Sent,
        .int .i64 v235.1.Total]) (f221) ((xld_bs (Sep.bk _ _ _ hS247)).trans rfl)) (mapM1 (res_t (v := .bool v235.2) (rfl)) mapM0)) ?_
    exact ⟨c238, c240, c242, by first | trivial | rfl, hv239, hv241, hv243, (Sep.m2 (Sep.m2 (Sep.m2 (Sep.dc (Sep.m3 (Sep.dc (hS247)))))))⟩
  rw [iteF hc213] at hF102
  simp only [run_skip, run_blk, run_seq, run_reg, f92, run_ld, B0, reduceIte, reduceEqDiff]
  refine put1_eq (v := .agg [pv0_0, pv0_1, pv0_2, .int .i64 v_0.Sent, .int .i64 v_0.Total]) ((xld_bs (Sep.bk _ _ _ (Sep.m2 hS123))).trans rfl) ?_
  simp only [f94, run_st, B0, reduceIte, reduceEqDiff]
  refine put2_stCx (us := [pv0_0, pv0_1, pv0_2, .int .i64 v_0.Sent, .int .i64 v_0.Total]) rfl (cs' := [pv0_0, pv0_1, pv0_2, .int .i64 v_0.Sent,
      .int .i64 v_0.Total]) (Sep.m3 hS123) hW rfl (all_c (SlF.one ph0_0) (all_c (SlG.one hv108) (all_c (SlN.one ph0_2) (all_c rfl (all_c rfl all_n)))))
      (Nat.le_of_ble_eq_true rfl) rfl (fun h248 hS249 => ?_)
  simp only [run_mv, run_ops_nil, run_ret, B0, reduceIte, reduceEqDiff]
  obtain ⟨c250, hv251, hS252⟩ := SlG.cls0 (c := c105) (os := c113) hv108 rfl hx101 hk_nil (Chan.RI (x := x100) hv114) (Sep.m2 (Sep.m2 hS249))
  have hv253 := SlG.toN hv251
  have he := some_inj hF102
  subst he
  refine end_ret_m (mapM1 (res_cell (bb := b9) (oo := 0) (v := .agg [pv0_0, pv0_1, pv0_2, .int .i64 v_0.Sent,
      .int .i64 v_0.Total]) (f94) ((xld_bs (Sep.bk _ _ _ (Sep.m1 hS252))).trans rfl)) (mapM1 (res_t (v := .bool false) (rfl)) mapM0)) ?_
  exact ⟨pc0_0, c250, pc0_2, by first | trivial | rfl, ph0_0, hv253, ph0_2, (Sep.m2 (Sep.m1 (Sep.m2 (Sep.dc (Sep.m1 (Sep.dc (Sep.m1 hS252)))))))⟩
theorem spec_l8Own_x {W : Nat → Bool} {h : Heap} (hW : ∀ b,
    (geL h.length) b → W b = true) (s_0 : Snap) (r : Snap) (hF : spec_l8Own s_0 = some r) : Ret E W 43 [.agg [lst cI s_0.Amounts, lst Chan.cells s_0.Chans,
    lst Picture.cells s_0.Pictures, .int .i64 s_0.Sent, .int .i64 s_0.Total]] h (fun v h' => ∃ rv0_0 rc0_0 rv0_1 rc0_1 rv0_2 rc0_2, v = .agg [rv0_0, rv0_1, rv0_2,
    .int .i64 r.Sent, .int .i64 r.Total] ∧ SlF cI 1 3 rv0_0 r.Amounts rc0_0 ∧ SlN Chan.R 3 74 rv0_1 r.Chans rc0_1 ∧ SlN Picture.R 4 76 rv0_2 r.Pictures rc0_2 ∧ Sep h'
    (geL h.length) (rc0_0 ++ (rc0_1 ++ (rc0_2 ++ ([]))))) := by
  refine Ret.of (fn := x43) rfl (Run.of ?_)
  unfold spec_l8Own at hF
  have zf0 : argFr [.agg [lst cI s_0.Amounts, lst Chan.cells s_0.Chans, lst Picture.cells s_0.Pictures, .int .i64 s_0.Sent, .int .i64 s_0.Total]] 0 = .agg [lst cI s_0.Amounts,
      lst Chan.cells s_0.Chans, lst Picture.cells s_0.Pictures, .int .i64 s_0.Sent, .int .i64 s_0.Total] := rfl
  generalize argFr [.agg [lst cI s_0.Amounts, lst Chan.cells s_0.Chans, lst Picture.cells s_0.Pictures, .int .i64 s_0.Sent, .int .i64 s_0.Total]] = fr0 at zf0 ⊢
  have hS : Sep h (geL h.length) [] := Sep.nil h
  simp only [x43, run_seq, run_reg, run_box, zf0, B0, reduceIte, reduceEqDiff]
  refine put2_boxC (cs := [lst cI s_0.Amounts, lst Chan.cells s_0.Chans, lst Picture.cells s_0.Pictures, .int .i64 s_0.Sent,
      .int .i64 s_0.Total]) hS rfl rfl rfl (fun b1 h2 hS3 => ?_)
  simp only [run_new, B0, reduceIte, reduceEqDiff]
  refine put2_newC hS3 (fun b5 h6 hS7 => ?_)
  simp only [run_ops_nil, B0, reduceIte, reduceEqDiff]
  refine frz_stepC (Sep.m1 hS7) hW (by simp only [B0, reduceIte, reduceEqDiff]) (fun h9 hS10 => ?_)
  simp only [run_frz_nil, x43_14, run_seq, run_draw, d4_buildS, evp, B0, reduceIte, reduceEqDiff]
  refine put2d_buildSF (n := 1) (f := cI) ([] : List Int) hS10 rfl rfl (fun v11 c12 h13 hv14 hS15 => ?_)
  simp only [d1_new, B0, reduceIte, reduceEqDiff]
  refine put2d_newC hS15 (fun b17 h18 hS19 => ?_)
  simp only [d4_fa, put1d_some, Nat.reduceAdd, Nat.zero_add, Nat.add_zero, xfa_ref, d4_ld, B0, reduceIte, reduceEqDiff]
  refine put1d_eq (v := lst cI s_0.Amounts) rfl ?_
  simp only [d2_appQ, B0, reduceIte, reduceEqDiff]
  obtain ⟨l21, hx22, hF23⟩ := bind_some' hF
  refine q_app disjR0 ?_
  refine put2d_appF (f := cI) hv14 (Sep.m1 hS19) hW (fun _ => rfl) (fun _ => rfl) (firstOf_lst (fun _ => rfl)) hx22 (fun v24 c25 h26 hv27 hS28 => ?_)
  simp only [d1_fa, put1d_some, Nat.reduceAdd, Nat.zero_add, Nat.add_zero, xfa_ref, d1_ld, ldd_ref, B0, reduceIte, reduceEqDiff]
  refine put1d_eq (v := .int .i64 s_0.Sent) rfl ?_
  simp only [d1_fa, put1d_some, Nat.reduceAdd, Nat.zero_add, Nat.add_zero, xfa_ref, d1_ld, ldd_ref, B0, reduceIte, reduceEqDiff]
  refine put1d_eq (v := .int .i64 s_0.Total) rfl ?_
  simp only [d4_build, evp, B0, reduceIte, reduceEqDiff]
  refine put1d_eq (v := .agg [v24, .nil, .nil, .int .i64 s_0.Sent, .int .i64 s_0.Total]) (pbuild_some (fill1 (us := [v24]) (vs := [v24, .nil, .nil, .int .i64 0,
      .int .i64 0]) (cells_one (SlF.one hv27)) rfl (Nat.le_of_ble_eq_true rfl) (all_c (SlF.one hv27) all_n) rfl (fill1 (us := [.int .i64 s_0.Sent]) (vs := [v24, .nil, .nil,
      .int .i64 s_0.Sent, .int .i64 0]) rfl rfl (Nat.le_of_ble_eq_true rfl) rfl rfl (fill1 (us := [.int .i64 s_0.Total]) (vs := [v24, .nil, .nil, .int .i64 s_0.Sent,
      .int .i64 s_0.Total]) rfl rfl (Nat.le_of_ble_eq_true rfl) rfl rfl fill0)))) ?_
  simp only [d3_st, B0, reduceIte, reduceEqDiff]
  refine put2d_stCx (us := [v24, .nil, .nil, .int .i64 s_0.Sent, .int .i64 s_0.Total]) rfl (cs' := [v24, .nil, .nil, .int .i64 s_0.Sent,
      .int .i64 s_0.Total]) (Sep.m1 hS28) hW rfl (all_c (SlF.one hv27) (all_c rfl (all_c rfl (all_c rfl (all_c rfl all_n))))) (Nat.le_of_ble_eq_true rfl) rfl (fun h30 hS31 => ?_)
  simp only [run_draw_nil, x43_13, run_seq, run_reg, run_fa, put1_some, Nat.reduceAdd, Nat.zero_add, Nat.add_zero, xfa_ref, run_ld, B0, reduceIte, reduceEqDiff]
  refine put1_eq (v := lst Chan.cells s_0.Chans) rfl ?_
  simp only [run_len, put1_some, xlen_lst, run_mv, run_ops_nil, B0, reduceIte, reduceEqDiff]
  obtain ⟨oc44, hX46, hk47⟩ := jn_some hF23
  simp only [x43_5]
  refine rangeL_j (σ := Snap) s_0.Chans (fun i42 x43 s107 => spec_l8Own_b1 l21 i42 x43 s107) (fun s fr' h' => ∃ v39 c40, fr' 1 = .ref [lst cI s_0.Amounts,
      lst Chan.cells s_0.Chans, lst Picture.cells s_0.Pictures, .int .i64 s_0.Sent,
      .int .i64 s_0.Total] 0 ∧ fr' 2 = .ptr b5 0 ∧ fr' 3 = .ptr b17 0 ∧ fr' 18 = lst Chan.cells s_0.Chans ∧ SlN Chan.R 3 74 v39 s.Chans c40 ∧ Sep h' (geL h.length)
      ([Blk1 b5 [.nil, .nil, .nil, .int .i64 0, .int .i64 0] 30] ++ ([Blk1 b17 [v24, v39, .nil, .int .i64 s.Sent, .int .i64 s.Total] 30] ++ (c25 ++ (c40 ++ ([])))))) hX46 ⟨.nil,
      [], rfl, rfl, rfl, rfl, SlN.nil, ((Sep.m2 (Sep.m1 (Sep.m1 hS31))) : Sep _ (geL h.length) ([Blk1 b5 [.nil, .nil, .nil, .int .i64 0, .int .i64 0] 30] ++ ([Blk1 b17 [v24, .nil,
      .nil, .int .i64 s_0.Sent, .int .i64 s_0.Total] 30] ++ (c25 ++ ([])))))⟩ (by simp only [B0, reduceIte, reduceEqDiff]) (by simp only [B0, reduceIte,
      reduceEqDiff]) (fun _ _ _ h => h) rfl rfl (fun _ _ _ _ h => h) (fun _ _ _ _ h => h) (fun _ _ _ _ h => h) (by decide) ?_ ?_
  · rintro i42 x43 s37 fr56 h57 hx63 ⟨v39, c40, f59, f60, f61, f62, hv41, hS58⟩ f64 f65 oc45 hF48 hr49 Q50 hN51 hB55 hK52 hR53 hE54
    unfold spec_l8Own_b1 at hF48
    simp only [x43_3, run_seq, run_reg, f62, f64, run_ia, B0, reduceIte, reduceEqDiff]
    refine put1_eq (v := .ref (Chan.cells x43) 0) (xia_lstN hx63 rfl) ?_
    simp only [run_ld, B0, reduceIte, reduceEqDiff]
    refine put1_eq (v := .agg [.int .i64 x43.From, .int .i64 x43.To, lst cI x43.Way]) rfl ?_
    simp only [run_new, B0, reduceIte, reduceEqDiff]
    refine put2_newC hS58 (fun b66 h67 hS68 => ?_)
    simp only [run_st, B0, reduceIte, reduceEqDiff]
    refine put2_stCx (us := [.int .i64 x43.From, .int .i64 x43.To, lst cI x43.Way]) rfl (cs' := [.int .i64 x43.From, .int .i64 x43.To,
        lst cI x43.Way]) hS68 hW rfl rfl (Nat.le_of_ble_eq_true rfl) rfl (fun h70 hS71 => ?_)
    simp only [run_ops_nil, x43_2, run_seq, run_reg, run_buildS, evp, B0, reduceIte, reduceEqDiff]
    refine put2_buildSF (n := 1) (f := cI) ([] : List Int) hS71 rfl rfl (fun v72 c73 h74 hv75 hS76 => ?_)
    simp only [run_fa, put1_some, Nat.reduceAdd, Nat.zero_add, Nat.add_zero, xfa_ptr, run_ld, B0, reduceIte, reduceEqDiff]
    refine put1_eq (v := lst cI x43.Way) ((xld_b (Sep.bk _ _ _ (Sep.m1 hS76))).trans rfl) ?_
    simp only [run_app, B0, reduceIte, reduceEqDiff]
    obtain ⟨l78, hx79, hF80⟩ := bind_some' hF48
    refine put2_appF (f := cI) hv75 hS76 hW (fun _ => rfl) (fun _ => rfl) (firstOf_lst (fun _ => rfl)) hx79 (fun v81 c82 h83 hv84 hS85 => ?_)
    simp only [run_fa, put1_some, Nat.reduceAdd, Nat.zero_add, Nat.add_zero, xfa_ptr, run_st, B0, reduceIte, reduceEqDiff]
    refine put2_stCx (us := [v81]) (cells_one (SlF.one hv84)) (cs' := [.int .i64 x43.From, .int .i64 x43.To,
        v81]) (Sep.m1 hS85) hW rfl (all_c (SlF.one hv84) all_n) (Nat.le_of_ble_eq_true rfl) rfl (fun h87 hS88 => ?_)
    simp only [run_ops_nil, x43_1, run_reg, f61, run_fa, put1_some, Nat.reduceAdd, Nat.zero_add, Nat.add_zero, xfa_ptr, run_ld, B0, reduceIte, reduceEqDiff]
    refine put1_eq (v := v39) ((xld_b (Sep.bk _ _ _ (Sep.m3 hS88))).trans rfl) ?_
    simp only [run_ld, B0, reduceIte, reduceEqDiff]
    refine put1_eq (v := .agg [.int .i64 x43.From, .int .i64 x43.To, v81]) ((xld_bs (Sep.bk _ _ _ hS88)).trans rfl) ?_
    simp only [run_buildS, evp, B0, reduceIte, reduceEqDiff]
    refine put2_buildSN (R := Chan.R) (n := 3) (cs := [.int .i64 x43.From, .int .i64 x43.To, v81]) (os := c82) (Sep.m1 hS88) (fill1 (us := [.int .i64 x43.From, .int .i64 x43.To,
        v81]) (vs := [.int .i64 x43.From, .int .i64 x43.To,
        v81]) rfl rfl (Nat.le_of_ble_eq_true rfl) (all_c rfl (all_c rfl (all_c (SlF.one hv84) all_n))) rfl fill0) (Chan.RI (x := (Chan.mk x43.From x43.To l78)) hv84) rfl
        (fun v89 c90 h91 hv92 hS93 => ?_)
    simp only [run_app, B0, reduceIte, reduceEqDiff]
    obtain ⟨l95, hx96, hF97⟩ := bind_some' hF80
    refine put2_appN (R := Chan.R) (c := c40) hv41 hv92 (Sep.m5 hS93) hW Chan.RO.len Chan.RO.one hx96 (fun v98 c99 h100 hv101 hS102 => ?_)
    simp only [f61, run_fa, put1_some, Nat.reduceAdd, Nat.zero_add, Nat.add_zero, xfa_ptr, run_st, B0, reduceIte, reduceEqDiff]
    refine put2_stCx (us := [v98]) (cells_one (SlN.one hv101)) (cs' := [v24, v98, .nil, .int .i64 s37.Sent,
        .int .i64 s37.Total]) (Sep.m3 hS102) hW rfl (all_c (SlN.one hv101) all_n) (Nat.le_of_ble_eq_true rfl) rfl (fun h104 hS105 => ?_)
    simp only [run_ops_nil, run_nil, B0, reduceIte, reduceEqDiff]
    have e106 := some_inj hF97
    exact hN51 _ _ _ e106.symm ⟨v98, c99, f59, f60, f61, f62, hv101, (Sep.m3 (Sep.m2 (Sep.m3 (Sep.m1 (Sep.dc (Sep.m2 hS105))))))⟩ (f64) (f65)
  rintro s108 fr113 h114 rfl ⟨v110, c111, f116, f117, f118, f119, hv112, hS115⟩
  dsimp only [jnO] at hk47
  unfold spec_l8Own_j2 at hk47
  simp only [x43_12, run_seq, run_reg, f116, run_fa, put1_some, Nat.reduceAdd, Nat.zero_add, Nat.add_zero, xfa_ref, run_ld, B0, reduceIte, reduceEqDiff]
  refine put1_eq (v := lst Picture.cells s_0.Pictures) rfl ?_
  simp only [run_len, put1_some, xlen_lst, run_mv, run_ops_nil, B0, reduceIte, reduceEqDiff]
  obtain ⟨oc132, hX134, hk135⟩ := jn_some hk47
  simp only [x43_11]
  refine rangeL_j (σ := Snap) s_0.Pictures (fun i130 x131 s211 => spec_l8Own_b2 l21 s108 i130 x131 s211) (fun s fr' h' => ∃ v127 c128,
      fr' 2 = .ptr b5 0 ∧ fr' 3 = .ptr b17 0 ∧ fr' 37 = lst Picture.cells s_0.Pictures ∧ SlN Picture.R 4 76 v127 s.Pictures c128 ∧ Sep h' (geL h.length) ([Blk1 b5 [.nil, .nil,
      .nil, .int .i64 0, .int .i64 0] 30] ++ ([Blk1 b17 [v24, v110, v127, .int .i64 s.Sent, .int .i64 s.Total] 30] ++ (c25 ++ (c111 ++ (c128 ++ ([]))))))) hX134 ⟨.nil, [], f117,
      f118, rfl, SlN.nil, ((Sep.m3 (Sep.m3 (Sep.m3 (Sep.m3 hS115)))) : Sep _ (geL h.length) ([Blk1 b5 [.nil, .nil, .nil, .int .i64 0, .int .i64 0] 30] ++ ([Blk1 b17 [v24, v110,
      .nil, .int .i64 s108.Sent, .int .i64 s108.Total] 30] ++ (c25 ++ (c111 ++ ([]))))))⟩ (by simp only [B0, reduceIte, reduceEqDiff]) (by simp only [B0, reduceIte,
      reduceEqDiff]) (fun _ _ _ h => h) rfl rfl (fun _ _ _ _ h => h) (fun _ _ _ _ h => h) (fun _ _ _ _ h => h) (by decide) ?_ ?_
  · rintro i130 x131 s125 fr144 h145 hx150 ⟨v127, c128, f147, f148, f149, hv129, hS146⟩ f151 f152 oc133 hF136 hr137 Q138 hN139 hB143 hK140 hR141 hE142
    unfold spec_l8Own_b2 at hF136
    simp only [x43_9, run_seq, run_reg, f149, f151, run_ia, B0, reduceIte, reduceEqDiff]
    refine put1_eq (v := .ref (Picture.cells x131) 0) (xia_lstN hx150 rfl) ?_
    simp only [run_ld, B0, reduceIte, reduceEqDiff]
    refine put1_eq (v := .agg [.bool x131.Taken, .int .i64 x131.Amount, lst cI x131.In, lst cB x131.Closed]) rfl ?_
    simp only [run_new, B0, reduceIte, reduceEqDiff]
    refine put2_newC hS146 (fun b153 h154 hS155 => ?_)
    simp only [run_st, B0, reduceIte, reduceEqDiff]
    refine put2_stCx (us := [.bool x131.Taken, .int .i64 x131.Amount, lst cI x131.In, lst cB x131.Closed]) rfl (cs' := [.bool x131.Taken, .int .i64 x131.Amount, lst cI x131.In,
        lst cB x131.Closed]) hS155 hW rfl rfl (Nat.le_of_ble_eq_true rfl) rfl (fun h157 hS158 => ?_)
    simp only [run_ops_nil, x43_8, run_seq, run_reg, run_buildS, evp, B0, reduceIte, reduceEqDiff]
    refine put2_buildSF (n := 1) (f := cI) ([] : List Int) hS158 rfl rfl (fun v159 c160 h161 hv162 hS163 => ?_)
    simp only [run_fa, put1_some, Nat.reduceAdd, Nat.zero_add, Nat.add_zero, xfa_ptr, run_ld, B0, reduceIte, reduceEqDiff]
    refine put1_eq (v := lst cI x131.In) ((xld_b (Sep.bk _ _ _ (Sep.m1 hS163))).trans rfl) ?_
    simp only [run_app, B0, reduceIte, reduceEqDiff]
    obtain ⟨l165, hx166, hF167⟩ := bind_some' hF136
    refine put2_appF (f := cI) hv162 hS163 hW (fun _ => rfl) (fun _ => rfl) (firstOf_lst (fun _ => rfl)) hx166 (fun v168 c169 h170 hv171 hS172 => ?_)
    simp only [run_fa, put1_some, Nat.reduceAdd, Nat.zero_add, Nat.add_zero, xfa_ptr, run_st, B0, reduceIte, reduceEqDiff]
    refine put2_stCx (us := [v168]) (cells_one (SlF.one hv171)) (cs' := [.bool x131.Taken, .int .i64 x131.Amount, v168,
        lst cB x131.Closed]) (Sep.m1 hS172) hW rfl (all_c (SlF.one hv171) all_n) (Nat.le_of_ble_eq_true rfl) rfl (fun h174 hS175 => ?_)
    simp only [run_ops_nil, x43_7, run_seq, run_reg, run_buildS, evp, B0, reduceIte, reduceEqDiff]
    refine put2_buildSF (n := 1) (f := cB) ([] : List Bool) hS175 rfl rfl (fun v176 c177 h178 hv179 hS180 => ?_)
    simp only [run_fa, put1_some, Nat.reduceAdd, Nat.zero_add, Nat.add_zero, xfa_ptr, run_ld, B0, reduceIte, reduceEqDiff]
    refine put1_eq (v := lst cB x131.Closed) ((xld_b (Sep.bk _ _ _ (Sep.m1 hS180))).trans rfl) ?_
    simp only [run_app, B0, reduceIte, reduceEqDiff]
    obtain ⟨l182, hx183, hF184⟩ := bind_some' hF167
    refine put2_appF (f := cB) hv179 hS180 hW (fun _ => rfl) (fun _ => rfl) (firstOf_lst (fun _ => rfl)) hx183 (fun v185 c186 h187 hv188 hS189 => ?_)
    simp only [run_fa, put1_some, Nat.reduceAdd, Nat.zero_add, Nat.add_zero, xfa_ptr, run_st, B0, reduceIte, reduceEqDiff]
    refine put2_stCx (us := [v185]) (cells_one (SlF.one hv188)) (cs' := [.bool x131.Taken, .int .i64 x131.Amount, v168,
        v185]) (Sep.m1 hS189) hW rfl (all_c (SlF.one hv188) all_n) (Nat.le_of_ble_eq_true rfl) rfl (fun h191 hS192 => ?_)
    simp only [run_ops_nil, x43_6, run_reg, f148, run_fa, put1_some, Nat.reduceAdd, Nat.zero_add, Nat.add_zero, xfa_ptr, run_ld, B0, reduceIte, reduceEqDiff]
    refine put1_eq (v := v127) ((xld_b (Sep.bk _ _ _ (Sep.m4 hS192))).trans rfl) ?_
    simp only [run_ld, B0, reduceIte, reduceEqDiff]
    refine put1_eq (v := .agg [.bool x131.Taken, .int .i64 x131.Amount, v168, v185]) ((xld_bs (Sep.bk _ _ _ hS192)).trans rfl) ?_
    simp only [run_buildS, evp, B0, reduceIte, reduceEqDiff]
    refine put2_buildSN (R := Picture.R) (n := 4) (cs := [.bool x131.Taken, .int .i64 x131.Amount, v168,
        v185]) (os := c169 ++ (c186)) (Sep.bi2 (c1 := c169) (c2 := c186) (Sep.m2 (Sep.m1 hS192))) (fill1 (us := [.bool x131.Taken, .int .i64 x131.Amount, v168,
        v185]) (vs := [.bool x131.Taken, .int .i64 x131.Amount, v168,
        v185]) rfl rfl (Nat.le_of_ble_eq_true rfl) (all_c rfl (all_c rfl (all_c (SlF.one hv171) (all_c (SlF.one hv188) all_n)))) rfl fill0) (Picture.RI (x :=
        (Picture.mk x131.Taken x131.Amount l165 l182)) hv171 hv188) rfl (fun v193 c194 h195 hv196 hS197 => ?_)
    simp only [run_app, B0, reduceIte, reduceEqDiff]
    obtain ⟨l199, hx200, hF201⟩ := bind_some' hF184
    refine put2_appN (R := Picture.R) (c := c128) hv129 hv196 (Sep.m6 hS197) hW Picture.RO.len Picture.RO.one hx200 (fun v202 c203 h204 hv205 hS206 => ?_)
    simp only [f148, run_fa, put1_some, Nat.reduceAdd, Nat.zero_add, Nat.add_zero, xfa_ptr, run_st, B0, reduceIte, reduceEqDiff]
    refine put2_stCx (us := [v202]) (cells_one (SlN.one hv205)) (cs' := [v24, v110, v202, .int .i64 s125.Sent,
        .int .i64 s125.Total]) (Sep.m3 hS206) hW rfl (all_c (SlN.one hv205) all_n) (Nat.le_of_ble_eq_true rfl) rfl (fun h208 hS209 => ?_)
    simp only [run_ops_nil, run_nil, B0, reduceIte, reduceEqDiff]
    have e210 := some_inj hF201
    exact hN139 _ _ _ e210.symm ⟨v202, c203, f147, f148, f149, hv205, (Sep.m4 (Sep.m3 (Sep.m4 (Sep.m4 (Sep.m1 (Sep.dc (Sep.m2 hS209)))))))⟩ (f151) (f152)
  rintro s212 fr217 h218 rfl ⟨v214, c215, f220, f221, f222, hv216, hS219⟩
  dsimp only [jnO] at hk135
  unfold spec_l8Own_j1 at hk135
  simp only [run_seq, run_reg, f221, run_ld, B0, reduceIte, reduceEqDiff]
  refine put1_eq (v := .agg [v24, v110, v214, .int .i64 s212.Sent, .int .i64 s212.Total]) ((xld_bs (Sep.bk _ _ _ (Sep.m1 hS219))).trans rfl) ?_
  simp only [f220, run_st, B0, reduceIte, reduceEqDiff]
  refine put2_stCx (us := [v24, v110, v214, .int .i64 s212.Sent, .int .i64 s212.Total]) rfl (cs' := [v24, v110, v214, .int .i64 s212.Sent,
      .int .i64 s212.Total]) hS219 hW rfl (all_c (SlF.one hv27) (all_c (SlN.one hv112) (all_c (SlN.one hv216) (all_c rfl (all_c rfl all_n))))) (Nat.le_of_ble_eq_true rfl) rfl
      (fun h223 hS224 => ?_)
  simp only [run_ops_nil, run_ret, B0, reduceIte, reduceEqDiff]
  have he := some_inj hk135
  subst he
  refine end_ret_cell (bb := b5) (oo := 0) (v := .agg [v24, v110, v214, .int .i64 s212.Sent, .int .i64 s212.Total]) (by simp only [f220, B0, reduceIte,
      reduceEqDiff]) ((xld_bs (Sep.bk _ _ _ hS224)).trans rfl) ?_
  exact ⟨v24, c25, v110, c111, v214, c215, by first | trivial | rfl, hv27, hv112, hv216, (Sep.m2 (Sep.m2 (Sep.m2 (Sep.dc ((Sep.dc (hS224)))))))⟩
end Go.Proofs.Ytpkiieniipenjaa.X
