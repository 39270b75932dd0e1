/- The functions' code comes to what the plain functions say (1). -/
import Derived.Test.YtpkiieniipenjaaXAF
import Derived.Test.YtpkiieniipenjaaXAD
set_option linter.unusedVariables false
set_option linter.unusedSimpArgs false
set_option maxRecDepth 100000
namespace Go.Proofs.Ytpkiieniipenjaa.X
open Go
open Nat (reduceEqDiff)
def Chan.R : Rep Chan := fun x cs os => ∃ (v2 : XV) (c2 : List Obj), SlF cI 1 3 v2 x.Way c2 ∧ cs = [.int .i64 x.From, .int .i64 x.To, v2] ∧ c2 = os
theorem Chan.RI {x : Chan} {v2 : XV} {c2 : List Obj} (h2 : SlF cI 1 3 v2 x.Way c2) : Chan.R x [.int .i64 x.From, .int .i64 x.To, v2] (c2) := ⟨v2, c2, h2, rfl, rfl⟩
theorem Chan.RO : RepOk E.sz Chan.R Chan.cells 3 where
  len := fun {x cs os} H => by
    obtain ⟨v2, c2, h2, rfl, rfl⟩ := H
    rfl
  flen := fun _ => rfl
  one := fun {x cs os} H => by
    obtain ⟨v2, c2, h2, rfl, rfl⟩ := H
    exact (all_c rfl (all_c rfl (all_c (SlF.one h2) all_n)))
  snap := fun {x cs os h lo S} m H hS => by
    obtain ⟨v2, c2, h2, rfl, rfl⟩ := H
    have hS2 : Sep h lo (c2 ++ S) := (by simpa only [List.append_assoc] using hS)
    exact (mapM1 snap_int (mapM1 snap_int (mapM1 (SlF.snap h2 hS2 rfl (fun _ => rfl) (fun _ => rfl)) mapM0)))
  cut := fun {x cs os h lo n0 keep S} m H hS hge => by
    obtain ⟨v2, c2, h2, rfl, rfl⟩ := H
    have hS2 : Sep h lo (c2 ++ S) := (by simpa only [List.append_assoc] using hS)
    exact (mapM1 rfl (mapM1 rfl (mapM1 (SlF.cut h2 hS2 hge rfl (fun _ => rfl) (fun _ => rfl)) mapM0)))
  free := fun {x cs os} H => by
    obtain ⟨v2, c2, h2, rfl, rfl⟩ := H
    exact (all_c rfl (all_c rfl (all_c (SlF.free1 h2) all_n)))
  pf := fun {x cs os} H => by
    obtain ⟨v2, c2, h2, rfl, rfl⟩ := H
    exact (SlF.pf h2 (fun _ => rfl))
def Picture.R : Rep Picture := fun x cs os => ∃ (v2 : XV) (c2 : List Obj) (v3 : XV) (c3 : List Obj), SlF cI 1 3 v2 x.In c2 ∧ SlF cB 1 4 v3 x.Closed c3 ∧ cs = [.bool x.Taken,
    .int .i64 x.Amount, v2, v3] ∧ c2 ++ (c3) = os
theorem Picture.RI {x : Picture} {v2 : XV} {c2 : List Obj} (h2 : SlF cI 1 3 v2 x.In c2) {v3 : XV} {c3 : List Obj} (h3 : SlF cB 1 4 v3 x.Closed c3) : Picture.R x [.bool x.Taken,
    .int .i64 x.Amount, v2, v3] (c2 ++ (c3)) := ⟨v2, c2, v3, c3, h2, h3, rfl, rfl⟩
theorem Picture.RO : RepOk E.sz Picture.R Picture.cells 4 where
  len := fun {x cs os} H => by
    obtain ⟨v2, c2, v3, c3, h2, h3, rfl, rfl⟩ := H
    rfl
  flen := fun _ => rfl
  one := fun {x cs os} H => by
    obtain ⟨v2, c2, v3, c3, h2, h3, rfl, rfl⟩ := H
    exact (all_c rfl (all_c rfl (all_c (SlF.one h2) (all_c (SlF.one h3) all_n))))
  snap := fun {x cs os h lo S} m H hS => by
    obtain ⟨v2, c2, v3, c3, h2, h3, rfl, rfl⟩ := H
    have hS2 : Sep h lo (c2 ++ (c3 ++ S)) := (by simpa only [List.append_assoc] using hS)
    exact (mapM1 snap_bool (mapM1 snap_int (mapM1 (SlF.snap h2 hS2 rfl (fun _ => rfl) (fun _ => rfl)) (mapM1 (SlF.snap h3 (Sep.m1 hS2) rfl (fun _ => rfl) (fun _ => rfl)) mapM0))))
  cut := fun {x cs os h lo n0 keep S} m H hS hge => by
    obtain ⟨v2, c2, v3, c3, h2, h3, rfl, rfl⟩ := H
    have hS2 : Sep h lo (c2 ++ (c3 ++ S)) := (by simpa only [List.append_assoc] using hS)
    exact (mapM1 rfl (mapM1 rfl (mapM1 (SlF.cut h2 hS2 hge rfl (fun _ => rfl) (fun _ => rfl)) (mapM1 (SlF.cut h3 (Sep.m1 hS2) hge rfl (fun _ => rfl) (fun _ => rfl)) mapM0))))
  free := fun {x cs os} H => by
    obtain ⟨v2, c2, v3, c3, h2, h3, rfl, rfl⟩ := H
    exact (all_c rfl (all_c rfl (all_c (SlF.free1 h2) (all_c (SlF.free1 h3) all_n))))
  pf := fun {x cs os} H => by
    obtain ⟨v2, c2, v3, c3, h2, h3, rfl, rfl⟩ := H
    exact (pf_app (SlF.pf h2 (fun _ => rfl)) (SlF.pf h3 (fun _ => rfl)))
theorem impl_in_x {W : Nat → Bool} {h : Heap} (hW : ∀ b,
    h.length ≤ b → W b = true) (n_0 : Int) (low_1 : Int) (high_2 : Int) (r : Bool) (hF : some (impl_in n_0 low_1 high_2) = some r) : Ret E W 39 [.int .i64 n_0, .int .i64 low_1,
    .int .i64 high_2] h (fun v h' => cut h.length h' E.sz false 9 v = some (.bool r)) := by
  refine Ret.of (fn := x39) rfl (Run.of ?_)
  unfold impl_in at hF
  have zf0 : argFr [.int .i64 n_0, .int .i64 low_1, .int .i64 high_2] 0 = .int .i64 n_0 := rfl
  have zf1 : argFr [.int .i64 n_0, .int .i64 low_1, .int .i64 high_2] 1 = .int .i64 low_1 := rfl
  have zf2 : argFr [.int .i64 n_0, .int .i64 low_1, .int .i64 high_2] 2 = .int .i64 high_2 := rfl
  generalize argFr [.int .i64 n_0, .int .i64 low_1, .int .i64 high_2] = fr0 at zf0 zf1 zf2 ⊢
  have hS : Sep h h.length [] := Sep.nil h
  simp only [x39, run_seq, run_reg, run_mv, run_ops_nil, x39_1, zf0, zf1, run_bin, put1_some, xgeq, B0, reduceIte, reduceEqDiff]
  refine ops_j 4 (fun fr' h' => Sep h' h.length ([]) ∧ fr' 14 = .bool ((decide (low_1 ≤ n_0)) && (decide (n_0 ≤ high_2)))) (fun Q1 hN2 => ?_) ?_
  · simp only [List.take_succ_cons, List.take_zero]
    simp only [run_guard (g := 10), B0, reduceIte, reduceEqDiff]
    refine guard_split (t := (decide (low_1 ≤ n_0))) (fun hg3 => ?_) (fun hg3 => ?_)
    · simp only [hg3, run_guard (g := 10), guard_true, zf0, run_mv, zf2, run_bin, put1_some, xleq, run_pick, xpick_t, run_ops_nil, run_nil, B0, reduceIte, reduceEqDiff]
      exact hN2 _ _ ⟨hS, by rw [andT hg3]; simp only [B0, reduceIte, reduceEqDiff]⟩
    · simp only [hg3, run_guard (g := 10), guard_off, run_pick, put1_some, xpick_f, run_ops_nil, run_nil, B0, reduceIte, reduceEqDiff]
      exact hN2 _ _ ⟨hS, by rw [andF hg3]; simp only [B0, reduceIte, reduceEqDiff]⟩
  rintro fr4 h6 ⟨hS7, f5⟩
  simp only [List.drop_succ_cons, List.drop_zero]
  simp only [f5, run_mv, run_ops_nil, run_ret, B0, reduceIte, reduceEqDiff]
  have he := some_inj hF
  subst he
  simp only [end_ret1, B0, reduceIte, reduceEqDiff]
  exact rfl
theorem impl_newSnap_x {W : Nat → Bool} {h : Heap} (hW : ∀ b,
    h.length ≤ b → W b = true) (procs_0 : Int) (amount_1 : Int) (r : Snap) (hF : impl_newSnap procs_0 amount_1 = some r) : Ret E W 40 [.int .i64 procs_0,
    .int .i64 amount_1] h (fun v h' => ∃ rv0_0 rc0_0 rv0_1 rc0_1 rv0_2 rc0_2, v = .agg [rv0_0, rv0_1, rv0_2, .int .i64 r.Sent,
    .int .i64 r.Total] ∧ SlF cI 1 3 rv0_0 r.Amounts rc0_0 ∧ SlN Chan.R 3 74 rv0_1 r.Chans rc0_1 ∧ SlN Picture.R 4 76 rv0_2 r.Pictures rc0_2 ∧ Sep h' h.length (rc0_0 ++ (rc0_1 ++
    (rc0_2 ++ ([]))))) := by
  refine Ret.of (fn := x40) rfl (Run.of ?_)
  unfold impl_newSnap at hF
  have zf0 : argFr [.int .i64 procs_0, .int .i64 amount_1] 0 = .int .i64 procs_0 := rfl
  have zf1 : argFr [.int .i64 procs_0, .int .i64 amount_1] 1 = .int .i64 amount_1 := rfl
  generalize argFr [.int .i64 procs_0, .int .i64 amount_1] = fr0 at zf0 zf1 ⊢
  have hS : Sep h h.length [] := Sep.nil h
  simp only [x40, run_seq, run_reg, run_new, B0, reduceIte, reduceEqDiff]
  refine put2_newC hS (fun b1 h2 hS3 => ?_)
  simp only [run_ops_nil, x40_14, run_seq, run_reg, zf0, run_mv, zf1, run_bin, put1_some, xmul, run_build, evp, B0, reduceIte, reduceEqDiff]
  refine put1_eq (v := .agg [.nil, .nil, .nil, .int .i64 0, .int .i64 (IntKind.wrap .i64 (procs_0 * amount_1))]) rfl ?_
  simp only [run_new, B0, reduceIte, reduceEqDiff]
  refine put2_newC hS3 (fun b5 h6 hS7 => ?_)
  simp only [run_st, B0, reduceIte, reduceEqDiff]
  refine put2_stCx (us := [.nil, .nil, .nil, .int .i64 0, .int .i64 (IntKind.wrap .i64 (procs_0 * amount_1))]) rfl (cs' := [.nil, .nil, .nil, .int .i64 0,
      .int .i64 (IntKind.wrap .i64 (procs_0 * amount_1))]) hS7 hW rfl rfl (Nat.le_of_ble_eq_true rfl) rfl (fun h9 hS10 => ?_)
  simp only [run_ops_nil, x40_13, run_seq, run_reg, zf0, run_mv, B0, reduceIte, reduceEqDiff]
  obtain ⟨oc39, hX41, hk42⟩ := jn_some hF
  simp only [x40_12]
  refine rangeN_j (σ := Snap) (fun i37 s188 => impl_newSnap_b2 procs_0 amount_1 i37 s188) (fun s fr' h' => ∃ v26 c27 v30 c31 v34 c35,
      fr' 0 = .int .i64 procs_0 ∧ fr' 1 = .int .i64 amount_1 ∧ fr' 4 = .ptr b1 0 ∧ fr' 5 = .ptr b5 0 ∧ SlF cI 1 3 v26 s.Amounts c27 ∧ SlN Chan.R 3 74 v30 s.Chans c31 ∧ SlN Picture.R 4 76 v34 s.Pictures c35 ∧ Sep h' h.length
      ([Blk1 b1 [.nil, .nil, .nil, .int .i64 0, .int .i64 0] 30] ++ ([Blk1 b5 [v26, v30, v34, .int .i64 s.Sent,
      .int .i64 s.Total] 30] ++ (c27 ++ (c31 ++ (c35 ++ ([]))))))) hX41 ⟨.nil, [], .nil, [], .nil, [], by simp only [zf0, B0, reduceIte, reduceEqDiff], by simp only [zf1, B0,
      reduceIte, reduceEqDiff], by simp only [B0, reduceIte, reduceEqDiff], by simp only [B0, reduceIte, reduceEqDiff], SlF.nil, SlN.nil, SlN.nil,
      ((Sep.m1 hS10) : Sep _ h.length ([Blk1 b1 [.nil, .nil, .nil, .int .i64 0, .int .i64 0] 30] ++ ([Blk1 b5 [.nil, .nil, .nil, .int .i64 0,
      .int .i64 (IntKind.wrap .i64 (procs_0 * amount_1))] 30] ++ ([]))))⟩ (by simp only [B0, reduceIte, reduceEqDiff]) (by simp only [B0, reduceIte,
      reduceEqDiff]) (fun _ _ _ h => h) rfl rfl (fun _ _ _ _ h => h) (fun _ _ _ _ h => h) (fun _ _ _ _ h => h) (by decide) ?_ ?_
  · rintro i37 s24 fr51 h52 hx58 ⟨v26, c27, v30, c31, v34, c35, f54, f55, f56, f57, hv28, hv32, hv36, hS53⟩ f59 f60 oc40 hF43 hr44 Q45 hN46 hB50 hK47 hR48 hE49
    unfold impl_newSnap_b2 at hF43
    simp only [x40_10, run_seq, run_reg, f59, run_mv, run_ops_nil, x40_9, f57, run_fa, put1_some, Nat.reduceAdd, Nat.zero_add, Nat.add_zero, xfa_ptr, run_ld, B0, reduceIte,
        reduceEqDiff]
    refine put1_eq (v := v26) ((xld_b (Sep.bk _ _ _ (Sep.m1 hS53))).trans rfl) ?_
    simp only [f55, run_mv, run_buildS, evp, B0, reduceIte, reduceEqDiff]
    refine put2_buildSF (n := 1) (f := cI) [amount_1] hS53 rfl rfl (fun v61 c62 h63 hv64 hS65 => ?_)
    simp only [run_app, B0, reduceIte, reduceEqDiff]
    obtain ⟨l67, hx68, hF69⟩ := bind_some' hF43
    refine put2_appF (f := cI) hv28 (Sep.m3 hS65) hW (fun _ => rfl) (fun _ => rfl) (SlF.first hv64 hS65 (fun _ => rfl)) hx68 (fun v70 c71 h72 hv73 hS74 => ?_)
    simp only [f57, run_fa, put1_some, Nat.reduceAdd, Nat.zero_add, Nat.add_zero, xfa_ptr, run_st, B0, reduceIte, reduceEqDiff]
    refine put2_stCx (us := [v70]) (cells_one (SlF.one hv73)) (cs' := [v70, v30, v34, .int .i64 s24.Sent,
        .int .i64 s24.Total]) (Sep.m3 hS74) hW rfl (all_c (SlF.one hv73) all_n) (Nat.le_of_ble_eq_true rfl) rfl (fun h76 hS77 => ?_)
    simp only [run_ops_nil, x40_8, run_seq, run_draw, f57, d4_fa, put1d_some, Nat.reduceAdd, Nat.zero_add, Nat.add_zero, xfa_ptr, d4_ld, B0, reduceIte, reduceEqDiff]
    refine put1d_eq (v := v34) ((xld_b (Sep.bk _ _ _ hS77)).trans rfl) ?_
    obtain ⟨l78, hx79, hF80⟩ := bind_some' hF69
    simp only [f54, d4_mv, put1d_some, d4_mkS, B0, reduceIte, reduceEqDiff]
    refine put2d_mkSF (f := cI) (z := (0 : Int)) hS77 hx79 rfl (fun v81 c82 h83 hv84 hS85 => ?_)
    obtain ⟨l87, hx88, hF89⟩ := bind_some' hF80
    simp only [f54, d4_mv, put1d_some, d4_mkS, B0, reduceIte, reduceEqDiff]
    refine put2d_mkSF (f := cB) (z := false) hS85 hx88 rfl (fun v90 c91 h92 hv93 hS94 => ?_)
    simp only [d4_build, evp, B0, reduceIte, reduceEqDiff]
    refine put1d_eq (v := .agg [.bool false, .int .i64 0, v81, v90]) (pbuild_some (fill1 (us := [v81]) (vs := [.bool false, .int .i64 0, v81,
        .nil]) (cells_one (SlF.one hv84)) rfl (Nat.le_of_ble_eq_true rfl) (all_c (SlF.one hv84) all_n) rfl (fill1 (us := [v90]) (vs := [.bool false, .int .i64 0, v81,
        v90]) (cells_one (SlF.one hv93)) rfl (Nat.le_of_ble_eq_true rfl) (all_c (SlF.one hv93) all_n) rfl fill0))) ?_
    simp only [d4_buildS, evp, B0, reduceIte, reduceEqDiff]
    refine put2d_buildSN (R := Picture.R) (n := 4) (cs := [.bool false, .int .i64 0, v81,
        v90]) (os := c82 ++ (c91)) (Sep.bi2 (c1 := c82) (c2 := c91) (Sep.m1 hS94)) (fill1 (us := [.bool false, .int .i64 0, v81, v90]) (vs := [.bool false, .int .i64 0, v81,
        v90]) rfl rfl (Nat.le_of_ble_eq_true rfl) (all_c rfl (all_c rfl (all_c (SlF.one hv84) (all_c (SlF.one hv93) all_n)))) rfl fill0) (Picture.RI (x :=
        (Picture.mk false 0 l78 l87)) hv84 hv93) rfl (fun v96 c97 h98 hv99 hS100 => ?_)
    simp only [d3_app, B0, reduceIte, reduceEqDiff]
    obtain ⟨l102, hx103, hF104⟩ := bind_some' hF89
    refine put2d_appN (R := Picture.R) (c := c35) hv36 hv99 (Sep.m6 hS100) hW Picture.RO.len Picture.RO.one hx103 (fun v105 c106 h107 hv108 hS109 => ?_)
    simp only [f57, d4_fa, put1d_some, Nat.reduceAdd, Nat.zero_add, Nat.add_zero, xfa_ptr, d3_st, B0, reduceIte, reduceEqDiff]
    refine put2d_stCx (us := [v105]) (cells_one (SlN.one hv108)) (cs' := [v70, v30, v105, .int .i64 s24.Sent,
        .int .i64 s24.Total]) (Sep.m1 hS109) hW rfl (all_c (SlN.one hv108) all_n) (Nat.le_of_ble_eq_true rfl) rfl (fun h111 hS112 => ?_)
    simp only [run_draw_nil, x40_7, run_seq, run_reg, f54, run_mv, run_ops_nil, B0, reduceIte, reduceEqDiff]
    obtain ⟨oc125, hX127, hk128⟩ := jn_some hF104
    simp only [x40_6]
    refine rangeN_j (σ := Snap) (fun i123 s170 => impl_newSnap_b1 i37 l67 l102 i123 s170) (fun s fr' h' => ∃ v120 c121,
        fr' 0 = .int .i64 procs_0 ∧ fr' 1 = .int .i64 amount_1 ∧ fr' 4 = .ptr b1 0 ∧ fr' 5 = .ptr b5 0 ∧ fr' 6 = .int .i64
        (i37 : Int) ∧ fr' 12 = .int .i64 procs_0 ∧ fr' 13 = .int .i64 (i37 : Int) ∧ SlN Chan.R 3 74 v120 s.Chans c121 ∧ Sep h' h.length ([Blk1 b1 [.nil, .nil, .nil, .int .i64 0,
        .int .i64 0] 30] ++ ([Blk1 b5 [v70, v120, v105, .int .i64 s.Sent, .int .i64 s.Total] 30] ++ (c71 ++ (c121 ++ (c106 ++ ([]))))))) hX127 ⟨v30, c31, by simp only [f54, B0,
        reduceIte, reduceEqDiff], by simp only [f55, B0, reduceIte, reduceEqDiff], by simp only [f56, B0, reduceIte, reduceEqDiff], by simp only [f57, B0, reduceIte,
        reduceEqDiff], by simp only [B0, reduceIte, reduceEqDiff], by simp only [f60, B0, reduceIte, reduceEqDiff], by simp only [f59, B0, reduceIte, reduceEqDiff], hv32,
        (Sep.m4 (Sep.m3 (Sep.m3 (Sep.m4 (Sep.m1 (Sep.dc (Sep.m3 hS112)))))))⟩ (by simp only [B0, reduceIte, reduceEqDiff]) (by simp only [B0, reduceIte,
        reduceEqDiff]) (fun _ _ _ h => h) rfl rfl (fun _ _ _ _ h => h) (fun _ _ _ _ h => h) (fun _ _ _ _ h => h) (by decide) ?_ ?_
    · rintro i123 s118 fr137 h138 hx147 ⟨v120, c121, f140, f141, f142, f143, f144, f145, f146, hv122, hS139⟩ f148 f149 oc126 hF129 hr130 Q131 hN132 hB136 hK133 hR134 hE135
      unfold impl_newSnap_b1 at hF129
      simp only [x40_4, run_seq, run_reg, f148, run_mv, run_ops_nil, x40_3, f144, run_bin, put1_some, xneq, x40_2, run_cond, B0, reduceIte, reduceEqDiff]
      refine cond_split (t := (decide ((i123 : Int) ≠ (i37 : Int)))) (fun hc150 => ?_) (fun hc150 => ?_)
      · rw [iteT hc150] at hF129
        simp only [x40_1, run_reg, f143, run_fa, put1_some, Nat.reduceAdd, Nat.zero_add, Nat.add_zero, xfa_ptr, run_ld, B0, reduceIte, reduceEqDiff]
        refine put1_eq (v := v120) ((xld_b (Sep.bk _ _ _ (Sep.m1 hS139))).trans rfl) ?_
        simp only [f144, run_mv, run_build, evp, B0, reduceIte, reduceEqDiff]
        refine put1_eq (v := .agg [.int .i64 (i37 : Int), .int .i64 (i123 : Int), .nil]) rfl ?_
        simp only [run_buildS, evp, B0, reduceIte, reduceEqDiff]
        refine put2_buildSN (R := Chan.R) (n := 3) (cs := [.int .i64 (i37 : Int), .int .i64 (i123 : Int), .nil]) (os := []) (Sep.bi1 (c1 := []) (S := ([Blk1 b1 [.nil, .nil, .nil,
            .int .i64 0, .int .i64 0] 30] ++ ([Blk1 b5 [v70, v120, v105, .int .i64 s118.Sent,
            .int .i64 s118.Total] 30] ++ (c71 ++ (c121 ++ (c106 ++ ([]))))))) (hS139 : Sep _ h.length ([Blk1 b1 [.nil, .nil, .nil, .int .i64 0, .int .i64 0] 30] ++ ([Blk1 b5 [v70,
            v120, v105, .int .i64 s118.Sent, .int .i64 s118.Total] 30] ++ (c71 ++ (c121 ++ (c106 ++ ([])))))))) rfl (Chan.RI (x := (Chan.mk (i37 : Int)
            (i123 : Int) [])) SlF.nil) rfl (fun v151 c152 h153 hv154 hS155 => ?_)
        simp only [run_app, B0, reduceIte, reduceEqDiff]
        obtain ⟨l157, hx158, hF159⟩ := bind_some' hF129
        refine put2_appN (R := Chan.R) (c := c121) hv122 hv154 (Sep.m4 hS155) hW Chan.RO.len Chan.RO.one hx158 (fun v160 c161 h162 hv163 hS164 => ?_)
        simp only [f143, run_fa, put1_some, Nat.reduceAdd, Nat.zero_add, Nat.add_zero, xfa_ptr, run_st, B0, reduceIte, reduceEqDiff]
        refine put2_stCx (us := [v160]) (cells_one (SlN.one hv163)) (cs' := [v70, v160, v105, .int .i64 s118.Sent,
            .int .i64 s118.Total]) (Sep.m2 hS164) hW rfl (all_c (SlN.one hv163) all_n) (Nat.le_of_ble_eq_true rfl) rfl (fun h166 hS167 => ?_)
        simp only [run_ops_nil, run_nil, B0, reduceIte, reduceEqDiff]
        have e168 := some_inj hF159
        exact hN132 _ _ _ e168.symm ⟨v160, c161, by simp only [f140, B0, reduceIte, reduceEqDiff], by simp only [f141, B0, reduceIte, reduceEqDiff], by simp only [f142, B0,
            reduceIte, reduceEqDiff], by simp only [f143, B0, reduceIte, reduceEqDiff], by simp only [f144, B0, reduceIte, reduceEqDiff], by simp only [f145, B0, reduceIte,
            reduceEqDiff], by simp only [f146, B0, reduceIte, reduceEqDiff], hv163, (Sep.m4 (Sep.m3 (Sep.m4 (Sep.m2 (Sep.m4 hS167)))))⟩ (by simp only [f148, B0, reduceIte,
            reduceEqDiff]) (by simp only [f149, B0, reduceIte, reduceEqDiff])
      rw [iteF hc150] at hF129
      simp only [run_skip, run_nil, B0, reduceIte, reduceEqDiff]
      have e169 := some_inj hF129
      exact hN132 _ _ _ e169.symm ⟨v120, c121, by simp only [f140, B0, reduceIte, reduceEqDiff], by simp only [f141, B0, reduceIte, reduceEqDiff], by simp only [f142, B0,
          reduceIte, reduceEqDiff], by simp only [f143, B0, reduceIte, reduceEqDiff], by simp only [f144, B0, reduceIte, reduceEqDiff], by simp only [f145, B0, reduceIte,
          reduceEqDiff], by simp only [f146, B0, reduceIte, reduceEqDiff], hv122, (Sep.m4 (Sep.m4 (Sep.m4 (Sep.m4 (Sep.m4 hS139)))))⟩ (by simp only [f148, B0, reduceIte,
          reduceEqDiff]) (by simp only [f149, B0, reduceIte, reduceEqDiff])
    rintro s171 fr176 h177 rfl ⟨v173, c174, f179, f180, f181, f182, f183, f184, f185, hv175, hS178⟩
    dsimp only [jnO] at hk128
    unfold impl_newSnap_j1 at hk128
    simp only [run_nil, B0, reduceIte, reduceEqDiff]
    have e186 := some_inj hk128
    exact hN46 _ _ _ e186.symm ⟨v70, c71, v173, c174, v105, c106, by simp only [f179, B0, reduceIte, reduceEqDiff], by simp only [f180, B0, reduceIte, reduceEqDiff],
        by simp only [f181, B0, reduceIte, reduceEqDiff], by simp only [f182, B0, reduceIte, reduceEqDiff], hv73, hv175, hv108,
        (Sep.m4 (Sep.m4 (Sep.m4 (Sep.m4 (Sep.m4 hS178)))))⟩ (by simp only [f185, B0, reduceIte, reduceEqDiff]) (by simp only [f184, B0, reduceIte, reduceEqDiff])
  rintro s189 fr202 h203 rfl ⟨v191, c192, v195, c196, v199, c200, f205, f206, f207, f208, hv193, hv197, hv201, hS204⟩
  dsimp only [jnO] at hk42
  unfold impl_newSnap_j2 at hk42
  simp only [run_seq, run_reg, f208, run_ld, B0, reduceIte, reduceEqDiff]
  refine put1_eq (v := .agg [v191, v195, v199, .int .i64 s189.Sent, .int .i64 s189.Total]) ((xld_bs (Sep.bk _ _ _ (Sep.m1 hS204))).trans rfl) ?_
  simp only [f207, run_st, B0, reduceIte, reduceEqDiff]
  refine put2_stCx (us := [v191, v195, v199, .int .i64 s189.Sent, .int .i64 s189.Total]) rfl (cs' := [v191, v195, v199, .int .i64 s189.Sent,
      .int .i64 s189.Total]) hS204 hW rfl (all_c (SlF.one hv193) (all_c (SlN.one hv197) (all_c (SlN.one hv201) (all_c rfl (all_c rfl all_n))))) (Nat.le_of_ble_eq_true rfl) rfl
      (fun h209 hS210 => ?_)
  simp only [run_ops_nil, run_ret, B0, reduceIte, reduceEqDiff]
  have he := some_inj hk42
  subst he
  refine end_ret_cell (bb := b1) (oo := 0) (v := .agg [v191, v195, v199, .int .i64 s189.Sent, .int .i64 s189.Total]) (by simp only [f207, B0, reduceIte,
      reduceEqDiff]) ((xld_bs (Sep.bk _ _ _ hS210)).trans rfl) ?_
  exact ⟨v191, c192, v195, c196, v199, c200, by first | trivial | rfl, hv193, hv197, hv201, (Sep.m2 (Sep.m2 (Sep.m2 (Sep.dc ((Sep.dc (hS210)))))))⟩
theorem impl_Snap_take_x {W : Nat → Bool} {h : Heap} {lo : Nat} {S0 : List Obj} (hW : ∀ b,
    lo ≤ b → W b = true) (pb0 : Nat) (v_0 : Snap) (pv0_0 : XV) (pc0_0 : List Obj) (ph0_0 : SlF cI 1 3 pv0_0 v_0.Amounts pc0_0) (pv0_1 : XV) (pc0_1 : List Obj)
    (ph0_1 : SlN Chan.R 3 74 pv0_1 v_0.Chans pc0_1) (pv0_2 : XV) (pc0_2 : List Obj) (ph0_2 : SlN Picture.R 4 76 pv0_2 v_0.Pictures pc0_2) (v_1 : Int) (r : Bool × Snap)
    (hF : impl_Snap_take v_0 v_1 = some r) (hS : Sep h lo ([Blk1 pb0 [pv0_0, pv0_1, pv0_2, .int .i64 v_0.Sent,
    .int .i64 v_0.Total] 30] ++ (pc0_0 ++ (pc0_1 ++ (pc0_2 ++ (S0)))))) : Ret E W 76 [.ptr pb0 0, .int .i64 v_1] h (fun v h' => ∃ ic0_0 ic0_1 ic0_2,
    v = .bool r.1 ∧ SlF cI 1 3 pv0_0 r.2.Amounts ic0_0 ∧ SlN Chan.R 3 74 pv0_1 r.2.Chans ic0_1 ∧ SlN Picture.R 4 76 pv0_2 r.2.Pictures ic0_2 ∧ Sep h' lo ([Blk1 pb0 [pv0_0, pv0_1,
    pv0_2, .int .i64 r.2.Sent, .int .i64 r.2.Total] 30] ++ (ic0_0 ++ (ic0_1 ++ (ic0_2 ++ (S0)))))) := by
  refine Ret.of (fn := x76) rfl (Run.of ?_)
  unfold impl_Snap_take at hF
  have zf0 : argFr [.ptr pb0 0, .int .i64 v_1] 0 = .ptr pb0 0 := rfl
  have zf1 : argFr [.ptr pb0 0, .int .i64 v_1] 1 = .int .i64 v_1 := rfl
  generalize argFr [.ptr pb0 0, .int .i64 v_1] = fr0 at zf0 zf1 ⊢
  simp only [x76, run_seq, run_reg, run_mv, run_ops_nil, x76_16, zf0, run_chk, put1_some, xchk_ptr, run_fa, Nat.reduceAdd, Nat.zero_add, Nat.add_zero, xfa_ptr, run_ld, B0,
      reduceIte, reduceEqDiff]
  refine put1_eq (v := pv0_1) ((xld_b (Sep.bk _ _ _ hS)).trans rfl) ?_
  simp only [run_len, put1_some, SlN.len ph0_1, run_mv, run_ops_nil, B0, reduceIte, reduceEqDiff]
  obtain ⟨oc9, hX11, hk12⟩ := jn_some hF
  simp only [x76_4]
  refine rangeN_j (σ := (List Chan)) (fun i7 s79 => impl_Snap_take_b1 v_0 v_1 i7 s79) (fun s fr' h' => ∃ c5,
      fr' 0 = .ptr pb0 0 ∧ fr' 1 = .int .i64 v_1 ∧ fr' 12 = pv0_1 ∧ SlN Chan.R 3 74 pv0_1 s c5 ∧ Sep h' lo ([Blk1 pb0 [pv0_0, pv0_1, pv0_2, .int .i64 v_0.Sent,
      .int .i64 v_0.Total] 30] ++ (c5 ++ (pc0_0 ++ (pc0_2 ++ (S0)))))) hX11 ⟨pc0_1, by simp only [zf0, B0, reduceIte, reduceEqDiff], by simp only [zf1, B0, reduceIte,
      reduceEqDiff], by simp only [B0, reduceIte, reduceEqDiff], ph0_1, (Sep.m3 (Sep.m3 (Sep.m2 (Sep.m3 hS))))⟩ (by simp only [B0, reduceIte, reduceEqDiff]) (by simp only [B0,
      reduceIte, reduceEqDiff]) (fun _ _ _ h => h) rfl rfl (fun _ _ _ _ h => h) (fun _ _ _ _ h => h) (fun _ _ _ _ h => h) (by decide) ?_ ?_
  · rintro i7 s4 fr21 h22 hx27 ⟨c5, f24, f25, f26, hv6, hS23⟩ f28 f29 oc10 hF13 hr14 Q15 hN16 hB20 hK17 hR18 hE19
    unfold impl_Snap_take_b1 at hF13
    obtain ⟨x30, hx31, hF32⟩ := bind_some' hF13
    simp only [x76_2, run_seq, run_reg, f26, f28, run_ia, B0, reduceIte, reduceEqDiff]
    obtain ⟨b33, hb34⟩ := SlN.isrow hv6 (geti_ne hx31)
    refine put1_eq (SlN.ia hv6 hb34 hx31) ?_
    obtain ⟨c35, cs36, os37, hv38, hR39, hS40⟩ := SlG.opn (SlN.toG hv6 hb34 Chan.RO.len) hx31 hk_nil Chan.RO.len (Sep.m1 hS23)
    obtain ⟨v42, c43, hv44, rfl, rfl⟩ := hR39
    have hS41 := Sep.no1 hS40
    simp only [run_ld, B0, reduceIte, reduceEqDiff]
    refine put1_eq (v := .agg [.int .i64 x30.From, .int .i64 x30.To, v42]) ((SlG.lds (o := 0) hv38 rfl hx31 hS41 (Nat.le_of_ble_eq_true rfl)).trans rfl) ?_
    simp only [run_new, B0, reduceIte, reduceEqDiff]
    refine put2_newC hS41 (fun b46 h47 hS48 => ?_)
    simp only [run_st, B0, reduceIte, reduceEqDiff]
    refine put2_stCx (us := [.int .i64 x30.From, .int .i64 x30.To, v42]) rfl (cs' := [.int .i64 x30.From, .int .i64 x30.To,
        v42]) hS48 hW rfl (all_c rfl (all_c rfl (all_c (SlF.one hv44) all_n))) (Nat.le_of_ble_eq_true rfl) rfl (fun h50 hS51 => ?_)
    simp only [run_ops_nil, B0, reduceIte, reduceEqDiff]
    refine frz_stepC hS51 hW (by simp only [B0, reduceIte, reduceEqDiff]) (fun h52 hS53 => ?_)
    simp only [run_frz_nil, x76_1, run_seq, run_reg, run_fa, put1_some, Nat.reduceAdd, Nat.zero_add, Nat.add_zero, xfa_ref, run_ld, B0, reduceIte, reduceEqDiff]
    refine put1_eq (v := .int .i64 x30.From) rfl ?_
    simp only [f25, run_mv, run_bin, put1_some, xeql, B0, reduceIte, reduceEqDiff]
    refine ops_j 5 (fun fr' h' => Sep h' lo ([Blk1 pb0 [pv0_0, pv0_1, pv0_2, .int .i64 v_0.Sent,
        .int .i64 v_0.Total] 30] ++ (c35 ++ (pc0_0 ++ (pc0_2 ++ (c43 ++ (S0)))))) ∧ fr' 27 = .bool ((decide (x30.From = v_1)) && (decide
        ((List.length x30.Way : Int) = 8))) ∧ fr' 0 = .ptr pb0 0 ∧ fr' 1 = .int .i64 v_1 ∧ fr' 12 = pv0_1 ∧ fr' 13 = .int .i64 (List.length v_0.Chans : Int) ∧ fr' 14 = .int .i64
        (i7 : Int)) (fun Q54 hN55 => ?_) ?_
    · simp only [List.take_succ_cons, List.take_zero]
      simp only [run_guard (g := 22), B0, reduceIte, reduceEqDiff]
      refine guard_split (t := (decide (x30.From = v_1))) (fun hg56 => ?_) (fun hg56 => ?_)
      · simp only [hg56, run_guard (g := 22), guard_true, run_fa, put1_some, Nat.reduceAdd, Nat.zero_add, Nat.add_zero, xfa_ref, run_ld, B0, reduceIte, reduceEqDiff]
        refine put1_eq (v := v42) rfl ?_
        simp only [hg56, run_guard (g := 22), guard_true, run_len, put1_some, SlF.plen hv44, run_bin, xeql, run_pick, xpick_t, run_ops_nil, run_nil, B0, reduceIte, reduceEqDiff]
        exact hN55 _ _ ⟨(Sep.m4 (Sep.m3 (Sep.m4 (Sep.m4 (Sep.m1 hS53))))), by rw [andT hg56]; simp only [B0, reduceIte, reduceEqDiff], by simp only [f24, B0, reduceIte,
            reduceEqDiff], by simp only [f25, B0, reduceIte, reduceEqDiff], by simp only [f26, B0, reduceIte, reduceEqDiff], by simp only [f29, B0, reduceIte, reduceEqDiff],
            by simp only [f28, B0, reduceIte, reduceEqDiff]⟩
      · simp only [hg56, run_guard (g := 22), guard_off, run_pick, put1_some, xpick_f, run_ops_nil, run_nil, B0, reduceIte, reduceEqDiff]
        exact hN55 _ _ ⟨(Sep.m4 (Sep.m3 (Sep.m4 (Sep.m4 (Sep.m1 hS53))))), by rw [andF hg56]; simp only [B0, reduceIte, reduceEqDiff], by simp only [f24, B0, reduceIte,
            reduceEqDiff], by simp only [f25, B0, reduceIte, reduceEqDiff], by simp only [f26, B0, reduceIte, reduceEqDiff], by simp only [f29, B0, reduceIte, reduceEqDiff],
            by simp only [f28, B0, reduceIte, reduceEqDiff]⟩
    rintro fr57 h64 ⟨hS65, f58, f59, f60, f61, f62, f63⟩
    simp only [List.drop_succ_cons, List.drop_zero]
    simp only [run_ops_nil, f58, run_cond, B0, reduceIte, reduceEqDiff]
    refine cond_split (t := ((decide (x30.From = v_1)) && (decide ((List.length x30.Way : Int) = 8)))) (fun hc66 => ?_) (fun hc66 => ?_)
    · rw [iteT hc66] at hF32
      simp only [run_seq, run_reg, run_mv, run_ops_nil, run_ret, B0, reduceIte, reduceEqDiff]
      have e67 := some_inj hF32
      subst e67
      have ho68 := hr14 _ rfl
      have hk69 := hk12
      rw [ho68] at hk69
      dsimp only [jnO] at hk69
      apply hR18
      obtain ⟨c70, hv71, hS72⟩ := SlG.cls0 (c := c35) (os := c43) hv38 rfl hx31 hk_nil (Chan.RI (x := x30) hv44) (Sep.m2 (Sep.m4 hS65))
      have hv73 := SlG.toN hv71
      have he := some_inj hk69
      subst he
      simp only [end_ret1, B0, reduceIte, reduceEqDiff]
      exact ⟨pc0_0, c70, pc0_2, by first | trivial | rfl, ph0_0, hv73, ph0_2, (Sep.m3 (Sep.m3 (Sep.m1 (Sep.m3 hS72))))⟩
    rw [iteF hc66] at hF32
    simp only [run_skip, run_nil, B0, reduceIte, reduceEqDiff]
    obtain ⟨c74, hv75, hS76⟩ := SlG.cls0 (c := c35) (os := c43) hv38 rfl hx31 hk_nil (Chan.RI (x := x30) hv44) (Sep.m2 (Sep.m4 hS65))
    have hv77 := SlG.toN hv75
    have e78 := some_inj hF32
    exact hN16 _ _ _ e78.symm ⟨c74, by simp only [f59, B0, reduceIte, reduceEqDiff], by simp only [f60, B0, reduceIte, reduceEqDiff], by simp only [f61, B0, reduceIte,
        reduceEqDiff], hv77, (Sep.m3 (Sep.m2 (Sep.m3 (Sep.m3 hS76))))⟩ (by simp only [f63, B0, reduceIte, reduceEqDiff]) (by simp only [f62, B0, reduceIte, reduceEqDiff])
  rintro s80 fr83 h84 rfl ⟨c81, f86, f87, f88, hv82, hS85⟩
  dsimp only [jnO] at hk12
  unfold impl_Snap_take_j2 at hk12
  simp only [x76_15, run_seq, run_reg, f86, run_mv, run_chk, put1_some, xchk_ptr, run_fa, Nat.reduceAdd, Nat.zero_add, Nat.add_zero, xfa_ptr, run_ld, B0, reduceIte, reduceEqDiff]
  refine put1_eq (v := pv0_1) ((xld_b (Sep.bk _ _ _ hS85)).trans rfl) ?_
  simp only [run_len, put1_some, SlN.len hv82, run_mv, run_ops_nil, B0, reduceIte, reduceEqDiff]
  obtain ⟨oc97, hX99, hk100⟩ := jn_some hk12
  simp only [x76_10]
  refine rangeN_j (σ := (List Chan)) (fun i95 s164 => impl_Snap_take_b2 v_1 i95 s164) (fun s fr' h' => ∃ c93,
      fr' 0 = .ptr pb0 0 ∧ fr' 1 = .int .i64 v_1 ∧ SlN Chan.R 3 74 pv0_1 s c93 ∧ Sep h' lo ([Blk1 pb0 [pv0_0, pv0_1, pv0_2, .int .i64 v_0.Sent,
      .int .i64 v_0.Total] 30] ++ (pc0_0 ++ (c93 ++ (pc0_2 ++ (S0)))))) hX99 ⟨c81, by simp only [f86, B0, reduceIte, reduceEqDiff], by simp only [f87, B0, reduceIte,
      reduceEqDiff], hv82, (Sep.m3 (Sep.m3 (Sep.m2 (Sep.m3 hS85))))⟩ (by simp only [B0, reduceIte, reduceEqDiff]) (by simp only [B0, reduceIte,
      reduceEqDiff]) (fun _ _ _ h => h) rfl rfl (fun _ _ _ _ h => h) (fun _ _ _ _ h => h) (fun _ _ _ _ h => h) (by decide) ?_ ?_
  · rintro i95 s92 fr109 h110 hx114 ⟨c93, f112, f113, hv94, hS111⟩ f115 f116 oc98 hF101 hr102 Q103 hN104 hB108 hK105 hR106 hE107
    unfold impl_Snap_take_b2 at hF101
    simp only [x76_8, run_seq, run_reg, f115, run_mv, run_ops_nil, x76_7, f112, run_chk, put1_some, xchk_ptr, run_fa, Nat.reduceAdd, Nat.zero_add, Nat.add_zero, xfa_ptr, run_ld,
        B0, reduceIte, reduceEqDiff]
    refine put1_eq (v := pv0_1) ((xld_b (Sep.bk _ _ _ hS111)).trans rfl) ?_
    obtain ⟨x117, hx118, hF119⟩ := bind_some' hF101
    simp only [run_mv, run_ia, B0, reduceIte, reduceEqDiff]
    obtain ⟨b120, hb121⟩ := SlN.isrow hv94 (geti_ne hx118)
    refine put1_eq (SlN.ia hv94 hb121 hx118) ?_
    obtain ⟨c122, cs123, os124, hv125, hR126, hS127⟩ := SlG.opn (SlN.toG hv94 hb121 Chan.RO.len) hx118 hk_nil Chan.RO.len (Sep.m2 hS111)
    obtain ⟨v129, c130, hv131, rfl, rfl⟩ := hR126
    have hS128 := Sep.no1 hS127
    simp only [run_fa, put1_some, Nat.reduceAdd, Nat.zero_add, Nat.add_zero, xfa_ptr, run_ld, B0, reduceIte, reduceEqDiff]
    refine put1_eq (v := .int .i64 x117.From) ((SlG.ld (o := 0) hv125 rfl hx118 hS128 (Nat.le_of_ble_eq_true rfl)).trans rfl) ?_
    simp only [f113, run_mv, run_bin, put1_some, xeql, run_ops_nil, x76_6, run_cond, B0, reduceIte, reduceEqDiff]
    refine cond_split (t := (decide (x117.From = v_1))) (fun hc133 => ?_) (fun hc133 => ?_)
    · rw [iteT hc133] at hF119
      simp only [x76_5, run_draw, f112, d1_mv, put1d_some, d1_chk, xchk_ptr, d1_fa, Nat.reduceAdd, Nat.zero_add, Nat.add_zero, xfa_ptr, d1_ld, B0, reduceIte, reduceEqDiff]
      refine ldd_ptr (Sep.ltk (Sep.m2 hS128)) ?_
      refine put1d_eq (v := pv0_1) ((xld_b (Sep.bk _ _ _ (Sep.m2 hS128))).trans rfl) ?_
      simp only [d1_mv, put1d_some, f112, d4_mv, d4_chk, xchk_ptr, d4_fa, Nat.reduceAdd, Nat.zero_add, Nat.add_zero, xfa_ptr, d4_ld, B0, reduceIte, reduceEqDiff]
      refine put1d_eq (v := pv0_1) ((xld_b (Sep.bk _ _ _ (Sep.m2 hS128))).trans rfl) ?_
      simp only [d4_mv, put1d_some, d4_ia, B0, reduceIte, reduceEqDiff]
      refine put1d_eq (SlG.ia hv125 hx118) ?_
      simp only [d4_fa, put1d_some, Nat.reduceAdd, Nat.zero_add, Nat.add_zero, xfa_ptr, d4_ld, B0, reduceIte, reduceEqDiff]
      refine put1d_eq (v := v129) ((SlG.ld (o := 2) hv125 rfl hx118 hS128 (Nat.le_of_ble_eq_true rfl)).trans rfl) ?_
      simp only [d4_buildS, evp, B0, reduceIte, reduceEqDiff]
      refine put2d_buildSF (n := 1) (f := cI) [0] hS128 rfl rfl (fun v134 c135 h136 hv137 hS138 => ?_)
      simp only [d2_appQ, B0, reduceIte, reduceEqDiff]
      obtain ⟨l140, hx141, hF142⟩ := bind_some' hF119
      refine q_app (disjR1 (fun z hz => Sep.dj (Sep.m3 (Sep.m3 hS138)) blkfp (SlF.rowfp hv131 z hz)) disjR0) ?_
      refine put2d_appF (f := cI) hv131 (Sep.m2 hS138) hW (fun _ => rfl) (fun _ => rfl) (SlF.first hv137 hS138 (fun _ => rfl)) hx141 (fun v143 c144 h145 hv146 hS147 => ?_)
      simp only [d4_ia, B0, reduceIte, reduceEqDiff]
      refine put1d_eq (SlG.ia hv125 hx118) ?_
      simp only [d4_fa, put1d_some, Nat.reduceAdd, Nat.zero_add, Nat.add_zero, xfa_ptr, d3_st, B0, reduceIte, reduceEqDiff]
      refine put2d_stGx (us := [v143]) (o := 2) (cs' := [.int .i64 x117.From, .int .i64 x117.To,
          v143]) (cells_one (SlF.one hv146)) hv125 rfl hx118 (Sep.m2 hS147) hW rfl (all_c (SlF.one hv146) all_n) (Nat.le_of_ble_eq_true rfl) rfl (fun c151 h149 hv152 hS150 => ?_)
      simp only [run_draw_nil, run_nil, B0, reduceIte, reduceEqDiff]
      obtain ⟨c153, hv154, hS155⟩ := SlG.cls (e' := (Chan.mk x117.From x117.To l140)) (c := c151) (os := c144) hv152 rfl hx118 hk_nil (Chan.RI (x :=
          (Chan.mk x117.From x117.To l140)) hv146) (Sep.m1 (Sep.m1 hS150))
      have hx156 := geti_set (x' := (Chan.mk x117.From x117.To l140)) hx118
      have hv157 := SlG.toN hv154
      have e158 := some_inj hF142
      exact hN104 _ _ _ e158.symm ⟨c153, by simp only [f112, B0, reduceIte, reduceEqDiff], by simp only [f113, B0, reduceIte, reduceEqDiff], hv157,
          (Sep.m3 (Sep.m3 (Sep.m1 (Sep.m3 (Sep.dc (Sep.m1 hS155))))))⟩ (by simp only [f115, B0, reduceIte, reduceEqDiff]) (by simp only [f116, B0, reduceIte, reduceEqDiff])
    rw [iteF hc133] at hF119
    simp only [run_skip, run_nil, B0, reduceIte, reduceEqDiff]
    obtain ⟨c159, hv160, hS161⟩ := SlG.cls0 (c := c122) (os := c130) hv125 rfl hx118 hk_nil (Chan.RI (x := x117) hv131) (Sep.m1 (Sep.m1 hS128))
    have hv162 := SlG.toN hv160
    have e163 := some_inj hF119
    exact hN104 _ _ _ e163.symm ⟨c159, by simp only [f112, B0, reduceIte, reduceEqDiff], by simp only [f113, B0, reduceIte, reduceEqDiff], hv162,
        (Sep.m3 (Sep.m3 (Sep.m1 (Sep.m3 hS161))))⟩ (by simp only [f115, B0, reduceIte, reduceEqDiff]) (by simp only [f116, B0, reduceIte, reduceEqDiff])
  rintro s165 fr168 h169 rfl ⟨c166, f171, f172, hv167, hS170⟩
  dsimp only [jnO] at hk100
  unfold impl_Snap_take_j1 at hk100
  simp only [x76_14, run_seq, run_reg, f171, run_mv, run_chk, put1_some, xchk_ptr, run_fa, Nat.reduceAdd, Nat.zero_add, Nat.add_zero, xfa_ptr, run_ld, B0, reduceIte, reduceEqDiff]
  refine put1_eq (v := pv0_2) ((xld_b (Sep.bk _ _ _ hS170)).trans rfl) ?_
  obtain ⟨x173, hx174, hF175⟩ := bind_some' hk100
  simp only [f172, run_mv, run_ia, B0, reduceIte, reduceEqDiff]
  obtain ⟨b176, hb177⟩ := SlN.isrow ph0_2 (geti_ne hx174)
  refine put1_eq (SlN.ia ph0_2 hb177 hx174) ?_
  obtain ⟨c180, cs181, os182, hv183, hR184, hS185⟩ := SlG.opn (SlN.toG ph0_2 hb177 Picture.RO.len) hx174 hk_nil Picture.RO.len (Sep.m3 hS170)
  obtain ⟨v187, c188, v191, c192, hv189, hv193, rfl, rfl⟩ := hR184
  have hS186 := Sep.no2 hS185
  simp only [run_mv, run_ops_nil, x76_13, run_seq, run_reg, run_chk, put1_some, xchk_ptr, run_fa, Nat.reduceAdd, Nat.zero_add, Nat.add_zero, xfa_ptr, run_st, B0, reduceIte,
      reduceEqDiff]
  refine put2_stGx (us := [.bool true]) (o := 0) (cs' := [.bool true, .int .i64 x173.Amount, v187,
      v191]) rfl hv183 rfl hx174 hS186 hW rfl rfl (Nat.le_of_ble_eq_true rfl) rfl (fun c195 h178 hv196 hS179 => ?_)
  simp only [run_ops_nil, x76_12, run_seq, run_reg, run_mv, f171, run_chk, put1_some, xchk_ptr, run_fa, Nat.reduceAdd, Nat.zero_add, Nat.add_zero, xfa_ptr, run_ld, B0, reduceIte,
      reduceEqDiff]
  refine put1_eq (v := pv0_0) ((xld_b (Sep.bk _ _ _ (Sep.m3 hS179))).trans rfl) ?_
  obtain ⟨x197, hx198, hF199⟩ := bind_some' hF175
  simp only [f172, run_mv, run_ia, B0, reduceIte, reduceEqDiff]
  obtain ⟨b200, hb201⟩ := SlF.isrow ph0_0 (geti_ne hx198)
  refine put1_eq (SlF.ia ph0_0 hb201 hx198) ?_
  simp only [run_ld, B0, reduceIte, reduceEqDiff]
  refine put1_eq (v := .int .i64 x197) ((SlF.ld (o := 0) ph0_0 (Sep.m4 hS179) hb201 hx198 (fun _ => rfl) (Nat.le_of_ble_eq_true rfl)).trans rfl) ?_
  simp only [run_chk, put1_some, xchk_ptr, run_fa, Nat.reduceAdd, Nat.zero_add, Nat.add_zero, xfa_ptr, run_st, B0, reduceIte, reduceEqDiff]
  refine put2_stGx (us := [.int .i64 x197]) (o := 1) (cs' := [.bool true, .int .i64 x197, v187,
      v191]) rfl hv196 rfl hx174 hS179 hW rfl rfl (Nat.le_of_ble_eq_true rfl) rfl (fun c204 h202 hv205 hS203 => ?_)
  simp only [run_ops_nil, x76_11, run_seq, run_reg, run_mv, run_chk, put1_some, xchk_ptr, run_fa, Nat.reduceAdd, Nat.zero_add, Nat.add_zero, xfa_ptr, run_ld, B0, reduceIte,
      reduceEqDiff]
  refine put1_eq (v := v191) ((SlG.ld (o := 3) hv205 rfl hx174 hS203 (Nat.le_of_ble_eq_true rfl)).trans rfl) ?_
  obtain ⟨x206, hx207, hF208⟩ := bind_some' hF199
  simp only [f172, run_mv, run_ia, B0, reduceIte, reduceEqDiff]
  obtain ⟨b209, hb210⟩ := SlF.isrow hv193 (geti_ne hx207)
  refine put1_eq (SlF.ia hv193 hb210 hx207) ?_
  simp only [run_st, B0, reduceIte, reduceEqDiff]
  refine put2_stF (f := cB) (x' := true) (o := 0) hv193 (Sep.m2 hS203) hW hb210 hx207 (fun _ => rfl) rfl rfl (Nat.le_of_ble_eq_true rfl) rfl (fun c213 h211 hv214 hS212 => ?_)
  have hx215 := geti_set (x' := true) hx207
  simp only [run_ops_nil, run_seq, run_reg, run_mv, run_ret, B0, reduceIte, reduceEqDiff]
  obtain ⟨c216, hv217, hS218⟩ := SlG.cls (e' := (Picture.mk true x197 x173.In (List.set x173.Closed v_1.toNat true))) (c := c204) (os := c188 ++ (c213)) hv205 rfl hx174 hk_nil
      (Picture.RI (x := (Picture.mk true x197 x173.In (List.set x173.Closed v_1.toNat true))) hv189 hv214) (Sep.ni2 (c1 := c188) (c2 := c213) (Sep.m2 (Sep.m2 hS212)))
  have hx219 := geti_set (x' := (Picture.mk true x197 x173.In (List.set x173.Closed v_1.toNat true))) hx174
  have hv220 := SlG.toN hv217
  have he := some_inj hF208
  subst he
  simp only [end_ret1, B0, reduceIte, reduceEqDiff]
  exact ⟨pc0_0, c166, c216, by first | trivial | rfl, ph0_0, hv167, hv220, (Sep.m3 (Sep.m3 (Sep.m3 hS218)))⟩
end Go.Proofs.Ytpkiieniipenjaa.X
namespace Go.Proofs.Ytpkiieniipenjaa.X
open Go
open Nat (reduceEqDiff)
theorem impl_Snap_step_x {W : Nat → Bool} {h : Heap} {lo : Nat} {S0 : List Obj} (hW : ∀ b,
    lo ≤ b → W b = true) (pb0 : Nat) (v_0 : Snap) (pv0_0 : XV) (pc0_0 : List Obj) (ph0_0 : SlF cI 1 3 pv0_0 v_0.Amounts pc0_0) (pv0_1 : XV) (pc0_1 : List Obj)
    (ph0_1 : SlN Chan.R 3 74 pv0_1 v_0.Chans pc0_1) (pv0_2 : XV) (pc0_2 : List Obj) (ph0_2 : SlN Picture.R 4 76 pv0_2 v_0.Pictures pc0_2) (v_1 : SnapStep) (r : Bool × Snap)
    (hF : impl_Snap_step v_0 v_1 = some r) (hS : Sep h lo ([Blk1 pb0 [pv0_0, pv0_1, pv0_2, .int .i64 v_0.Sent,
    .int .i64 v_0.Total] 30] ++ (pc0_0 ++ (pc0_1 ++ (pc0_2 ++ (S0)))))) : Ret E W 41 [.ptr pb0 0, .agg [.int .i64 v_1.Kind, .int .i64 v_1.K,
    .int .i64 v_1.N]] h (fun v h' => ∃ ic0_0 ic0_1 ic0_2,
    v = .bool r.1 ∧ SlF cI 1 3 pv0_0 r.2.Amounts ic0_0 ∧ SlN Chan.R 3 74 pv0_1 r.2.Chans ic0_1 ∧ SlN Picture.R 4 76 pv0_2 r.2.Pictures ic0_2 ∧ Sep h' lo ([Blk1 pb0 [pv0_0, pv0_1,
    pv0_2, .int .i64 r.2.Sent, .int .i64 r.2.Total] 30] ++ (ic0_0 ++ (ic0_1 ++ (ic0_2 ++ (S0)))))) := by
  refine Ret.of (fn := x41) rfl (Run.of ?_)
  unfold impl_Snap_step at hF
  have zf0 : argFr [.ptr pb0 0, .agg [.int .i64 v_1.Kind, .int .i64 v_1.K, .int .i64 v_1.N]] 0 = .ptr pb0 0 := rfl
  have zf1 : argFr [.ptr pb0 0, .agg [.int .i64 v_1.Kind, .int .i64 v_1.K, .int .i64 v_1.N]] 1 = .agg [.int .i64 v_1.Kind, .int .i64 v_1.K, .int .i64 v_1.N] := rfl
  generalize argFr [.ptr pb0 0, .agg [.int .i64 v_1.Kind, .int .i64 v_1.K, .int .i64 v_1.N]] = fr0 at zf0 zf1 ⊢
  simp only [x41, run_seq, run_reg, run_box, zf1, B0, reduceIte, reduceEqDiff]
  refine put2_boxC (cs := [.int .i64 v_1.Kind, .int .i64 v_1.K, .int .i64 v_1.N]) hS rfl rfl rfl (fun b1 h2 hS3 => ?_)
  simp only [run_mv, run_ops_nil, B0, reduceIte, reduceEqDiff]
  refine frz_stepC hS3 hW (by simp only [B0, reduceIte, reduceEqDiff]) (fun h5 hS6 => ?_)
  simp only [run_frz_nil, x41_29, run_seq, run_reg, run_fa, put1_some, Nat.reduceAdd, Nat.zero_add, Nat.add_zero, xfa_ref, run_ld, B0, reduceIte, reduceEqDiff]
  refine put1_eq (v := .int .i64 v_1.Kind) rfl ?_
  simp only [run_bin, put1_some, xneq, run_mv, B0, reduceIte, reduceEqDiff]
  refine ops_j 4 (fun fr' h' => Sep h' lo ([Blk1 pb0 [pv0_0, pv0_1, pv0_2, .int .i64 v_0.Sent,
      .int .i64 v_0.Total] 30] ++ (pc0_0 ++ (pc0_1 ++ (pc0_2 ++ (S0))))) ∧ fr' 16 = .bool ((decide (v_1.Kind ≠ 1)) && (decide
      (v_1.N ≠ 0))) ∧ fr' 0 = .ptr pb0 0 ∧ fr' 3 = .ref [.int .i64 v_1.Kind, .int .i64 v_1.K, .int .i64 v_1.N] 0) (fun Q7 hN8 => ?_) ?_
  · simp only [List.take_succ_cons, List.take_zero]
    simp only [run_guard (g := 12), B0, reduceIte, reduceEqDiff]
    refine guard_split (t := (decide (v_1.Kind ≠ 1))) (fun hg9 => ?_) (fun hg9 => ?_)
    · simp only [hg9, run_guard (g := 12), guard_true, run_fa, put1_some, Nat.reduceAdd, Nat.zero_add, Nat.add_zero, xfa_ref, run_ld, B0, reduceIte, reduceEqDiff]
      refine put1_eq (v := .int .i64 v_1.N) rfl ?_
      simp only [hg9, run_guard (g := 12), guard_true, run_bin, put1_some, xneq, run_pick, xpick_t, run_ops_nil, run_nil, B0, reduceIte, reduceEqDiff]
      exact hN8 _ _ ⟨(Sep.m3 (Sep.m3 (Sep.m3 (Sep.m3 hS6)))), by rw [andT hg9]; simp only [B0, reduceIte, reduceEqDiff], by simp only [zf0, B0, reduceIte, reduceEqDiff],
          by simp only [B0, reduceIte, reduceEqDiff]⟩
    · simp only [hg9, run_guard (g := 12), guard_off, run_pick, put1_some, xpick_f, run_ops_nil, run_nil, B0, reduceIte, reduceEqDiff]
      exact hN8 _ _ ⟨(Sep.m3 (Sep.m3 (Sep.m3 (Sep.m3 hS6)))), by rw [andF hg9]; simp only [B0, reduceIte, reduceEqDiff], by simp only [zf0, B0, reduceIte, reduceEqDiff],
          by simp only [B0, reduceIte, reduceEqDiff]⟩
  rintro fr10 h14 ⟨hS15, f11, f12, f13⟩
  simp only [List.drop_succ_cons, List.drop_zero]
  simp only [run_ops_nil, f11, run_cond, B0, reduceIte, reduceEqDiff]
  refine cond_split (t := ((decide (v_1.Kind ≠ 1)) && (decide (v_1.N ≠ 0)))) (fun hc16 => ?_) (fun hc16 => ?_)
  · rw [iteT hc16] at hF
    simp only [run_seq, run_reg, run_mv, run_ops_nil, run_ret, B0, reduceIte, reduceEqDiff]
    have he := some_inj hF
    subst he
    simp only [end_ret1, B0, reduceIte, reduceEqDiff]
    exact ⟨pc0_0, pc0_1, pc0_2, by first | trivial | rfl, ph0_0, ph0_1, ph0_2, (Sep.m3 (Sep.m3 (Sep.m3 (Sep.m3 hS15))))⟩
  rw [iteF hc16] at hF
  simp only [run_skip, x41_28, run_seq, run_reg, f13, run_fa, put1_some, Nat.reduceAdd, Nat.zero_add, Nat.add_zero, xfa_ref, run_ld, B0, reduceIte, reduceEqDiff]
  refine put1_eq (v := .int .i64 v_1.Kind) rfl ?_
  simp only [run_bin, put1_some, xeql, run_ops_nil, x41_2, run_cond, B0, reduceIte, reduceEqDiff]
  refine cond_split (t := (decide (v_1.Kind = 3))) (fun hc17 => ?_) (fun hc17 => ?_)
  · rw [iteT hc17] at hF
    simp only [x41_1, run_seq, run_draw, f13, d4_fa, put1d_some, Nat.reduceAdd, Nat.zero_add, Nat.add_zero, xfa_ref, d4_ld, B0, reduceIte, reduceEqDiff]
    refine put1d_eq (v := .int .i64 v_1.K) rfl ?_
    simp only [f12, d4_mv, put1d_some, d4_chk, xchk_ptr, d4_fa, Nat.reduceAdd, Nat.zero_add, Nat.add_zero, xfa_ptr, d4_ld, B0, reduceIte, reduceEqDiff]
    refine put1d_eq (v := pv0_0) ((xld_b (Sep.bk _ _ _ hS15)).trans rfl) ?_
    simp only [d4_len, put1d_some, SlF.plen ph0_0, d4_bin, xsub, run_d3_call, B0, reduceIte, reduceEqDiff]
    refine call1d rfl (mapM1 snap_int (mapM1 snap_int (mapM1 snap_int mapM0))) (impl_in_x (fun b hb => decide_eq_true hb) v_1.K 0 (IntKind.wrap .i64
        ((List.length v_0.Amounts : Int) - 1)) _ rfl) ?_
    simp only [d4_mv, put1d_some, B0, reduceIte, reduceEqDiff]
    obtain ⟨v21, hx22, hF23⟩ := bind_some' hF
    refine draw_j 11 (fun fr' h' => Sep h' lo ([Blk1 pb0 [pv0_0, pv0_1, pv0_2, .int .i64 v_0.Sent,
        .int .i64 v_0.Total] 30] ++ (pc0_0 ++ (pc0_1 ++ (pc0_2 ++ (S0))))) ∧ fr' 40 = .bool v21 ∧ fr' 0 = .ptr pb0 0 ∧ fr' 3 = .ref [.int .i64 v_1.Kind, .int .i64 v_1.K,
        .int .i64 v_1.N] 0) rfl (fun Q18 hN19 => ?_) ?_
    · simp only [List.take_succ_cons, List.take_zero]
      simp only [run_guardd (g := 29), B0, reduceIte, reduceEqDiff]
      refine guardd_split (t := (impl_in v_1.K 0 (IntKind.wrap .i64 ((List.length v_0.Amounts : Int) - 1)))) (fun hg20 => ?_) (fun hg20 => ?_)
      · rw [iteT hg20] at hx22
        simp only [hg20, run_guardd (g := 29), guardd_true, f12, d4_mv, put1d_some, d4_chk, xchk_ptr, d4_fa, Nat.reduceAdd, Nat.zero_add, Nat.add_zero, xfa_ptr, d4_ld, B0,
            reduceIte, reduceEqDiff]
        refine put1d_eq (v := pv0_2) ((xld_b (Sep.bk _ _ _ hS15)).trans rfl) ?_
        simp only [hg20, run_guardd (g := 29), guardd_true, f13, d4_fa, put1d_some, Nat.reduceAdd, Nat.zero_add, Nat.add_zero, xfa_ref, d4_ld, B0, reduceIte, reduceEqDiff]
        refine put1d_eq (v := .int .i64 v_1.K) rfl ?_
        obtain ⟨x24, hx25, hF26⟩ := bind_some' hx22
        simp only [hg20, run_guardd (g := 29), guardd_true, d4_ia, B0, reduceIte, reduceEqDiff]
        obtain ⟨b27, hb28⟩ := SlN.isrow ph0_2 (geti_ne hx25)
        refine put1d_eq (SlN.ia ph0_2 hb28 hx25) ?_
        obtain ⟨c29, cs30, os31, hv32, hR33, hS34⟩ := SlG.opn (SlN.toG ph0_2 hb28 Picture.RO.len) hx25 hk_nil Picture.RO.len (Sep.m3 hS15)
        obtain ⟨v36, c37, v40, c41, hv38, hv42, rfl, rfl⟩ := hR33
        have hS35 := Sep.no2 hS34
        simp only [hg20, run_guardd (g := 29), guardd_true, d4_fa, put1d_some, Nat.reduceAdd, Nat.zero_add, Nat.add_zero, xfa_ptr, d4_ld, B0, reduceIte, reduceEqDiff]
        refine put1d_eq (v := .bool x24.Taken) ((SlG.ld (o := 0) hv32 rfl hx25 hS35 (Nat.le_of_ble_eq_true rfl)).trans rfl) ?_
        simp only [hg20, run_guardd (g := 29), guardd_true, d4_un, put1d_some, xnot, d4_pick, xpick_t, run_draw_nil, run_nil, B0, reduceIte, reduceEqDiff]
        have e44 := some_inj hF26
        exact hN19 _ _ ⟨(Sep.m3 (Sep.m3 (Sep.m3 (Sep.m3 hS15)))), by rw [← e44]; simp only [B0, reduceIte, reduceEqDiff], by simp only [f12, B0, reduceIte, reduceEqDiff],
            by simp only [f13, B0, reduceIte, reduceEqDiff]⟩
      · rw [iteF hg20] at hx22
        simp only [hg20, run_guardd (g := 29), guardd_off, d4_pick, put1d_some, xpick_f, run_draw_nil, run_nil, B0, reduceIte, reduceEqDiff]
        have e45 := some_inj hx22
        exact hN19 _ _ ⟨(Sep.m3 (Sep.m3 (Sep.m3 (Sep.m3 hS15)))), by rw [← e45]; simp only [B0, reduceIte, reduceEqDiff], by simp only [f12, B0, reduceIte, reduceEqDiff],
            by simp only [f13, B0, reduceIte, reduceEqDiff]⟩
    rintro fr46 h50 ⟨hS51, f47, f48, f49⟩
    simp only [List.drop_succ_cons, List.drop_zero]
    simp only [f47, d4_mv, put1d_some, B0, reduceIte, reduceEqDiff]
    simp only [run_guardd (g := 41), B0, reduceIte, reduceEqDiff]
    refine guardd_split (t := v21) (fun hg52 => ?_) (fun hg52 => ?_)
    · rw [iteT hg52] at hF23
      simp only [hg52, run_guardd (g := 41), guardd_true, f48, d4_mv, put1d_some, f49, d4_fa, Nat.reduceAdd, Nat.zero_add, Nat.add_zero, xfa_ref, d4_ld, B0, reduceIte,
          reduceEqDiff]
      refine put1d_eq (v := .int .i64 v_1.K) rfl ?_
      obtain ⟨v53, hx54, hF55⟩ := bind_some' hF23
      simp only [hg52, run_guardd (g := 41), guardd_true, run_d3_call, B0, reduceIte, reduceEqDiff]
      refine call0d rfl (impl_Snap_take_x hW pb0 v_0 pv0_0 pc0_0 ph0_0 pv0_1 pc0_1 ph0_1 pv0_2 pc0_2 ph0_2 v_1.K v53 hx54 (Sep.m3 (Sep.m3 (Sep.m3 (Sep.m3 hS51))))) ?_
      rintro _ h62 ⟨c56, c58, c60, rfl, hv57, hv59, hv61, hS63⟩
      simp only [hg52, d4_pick, put1d_some, xpick_t, d4_mv, run_draw_nil, run_ret, B0, reduceIte, reduceEqDiff]
      have he := some_inj hF55
      subst he
      simp only [end_ret1, B0, reduceIte, reduceEqDiff]
      exact ⟨c56, c58, c60, by first | trivial | rfl, hv57, hv59, hv61, (Sep.m3 (Sep.m3 (Sep.m3 (Sep.m3 hS63))))⟩
    rw [iteF hg52] at hF23
    simp only [hg52, run_guardd (g := 41), guardd_off, d4_pick, put1d_some, xpick_f, d4_mv, run_draw_nil, run_ret, B0, reduceIte, reduceEqDiff]
    have he := some_inj hF23
    subst he
    simp only [end_ret1, B0, reduceIte, reduceEqDiff]
    exact ⟨pc0_0, pc0_1, pc0_2, by first | trivial | rfl, ph0_0, ph0_1, ph0_2, (Sep.m3 (Sep.m3 (Sep.m3 (Sep.m3 hS51))))⟩
  rw [iteF hc17] at hF
  simp only [run_skip, x41_27, run_seq, run_draw, f13, d4_fa, put1d_some, Nat.reduceAdd, Nat.zero_add, Nat.add_zero, xfa_ref, d4_ld, B0, reduceIte, reduceEqDiff]
  refine put1d_eq (v := .int .i64 v_1.K) rfl ?_
  simp only [f12, d4_mv, put1d_some, d4_chk, xchk_ptr, d4_fa, Nat.reduceAdd, Nat.zero_add, Nat.add_zero, xfa_ptr, d4_ld, B0, reduceIte, reduceEqDiff]
  refine put1d_eq (v := pv0_1) ((xld_b (Sep.bk _ _ _ hS15)).trans rfl) ?_
  simp only [d4_len, put1d_some, SlN.len ph0_1, d4_bin, xsub, run_d3_call, B0, reduceIte, reduceEqDiff]
  refine call1d rfl (mapM1 snap_int (mapM1 snap_int (mapM1 snap_int mapM0))) (impl_in_x (fun b hb => decide_eq_true hb) v_1.K 0 (IntKind.wrap .i64
      ((List.length v_0.Chans : Int) - 1)) _ rfl) ?_
  simp only [d4_un, put1d_some, xnot, run_draw_nil, run_cond, B0, reduceIte, reduceEqDiff]
  refine cond_split (t := (!(impl_in v_1.K 0 (IntKind.wrap .i64 ((List.length v_0.Chans : Int) - 1))))) (fun hc64 => ?_) (fun hc64 => ?_)
  · rw [iteT hc64] at hF
    simp only [run_seq, run_reg, run_mv, run_ops_nil, run_ret, B0, reduceIte, reduceEqDiff]
    have he := some_inj hF
    subst he
    simp only [end_ret1, B0, reduceIte, reduceEqDiff]
    exact ⟨pc0_0, pc0_1, pc0_2, by first | trivial | rfl, ph0_0, ph0_1, ph0_2, (Sep.m3 (Sep.m3 (Sep.m3 (Sep.m3 hS15))))⟩
  rw [iteF hc64] at hF
  simp only [run_skip, x41_26, run_seq, run_draw, f12, d4_mv, put1d_some, d4_chk, xchk_ptr, d4_fa, Nat.reduceAdd, Nat.zero_add, Nat.add_zero, xfa_ptr, d4_ld, B0, reduceIte,
      reduceEqDiff]
  refine put1d_eq (v := pv0_1) ((xld_b (Sep.bk _ _ _ hS15)).trans rfl) ?_
  simp only [f13, d4_fa, put1d_some, Nat.reduceAdd, Nat.zero_add, Nat.add_zero, xfa_ref, d4_ld, B0, reduceIte, reduceEqDiff]
  refine put1d_eq (v := .int .i64 v_1.K) rfl ?_
  obtain ⟨x65, hx66, hF67⟩ := bind_some' hF
  simp only [d4_ia, B0, reduceIte, reduceEqDiff]
  obtain ⟨b68, hb69⟩ := SlN.isrow ph0_1 (geti_ne hx66)
  refine put1d_eq (SlN.ia ph0_1 hb69 hx66) ?_
  simp only [d4_mv, put1d_some, run_draw_nil, x41_25, run_seq, run_draw, f12, d4_chk, xchk_ptr, d4_fa, Nat.reduceAdd, Nat.zero_add, Nat.add_zero, xfa_ptr, d4_ld, B0, reduceIte,
      reduceEqDiff]
  refine put1d_eq (v := pv0_2) ((xld_b (Sep.bk _ _ _ hS15)).trans rfl) ?_
  obtain ⟨c70, cs71, os72, hv73, hR74, hS75⟩ := SlG.opn (SlN.toG ph0_1 hb69 Chan.RO.len) hx66 hk_nil Chan.RO.len (Sep.m2 hS15)
  obtain ⟨v77, c78, hv79, rfl, rfl⟩ := hR74
  have hS76 := Sep.no1 hS75
  simp only [d4_mv, put1d_some, d4_chk, xchk_ptr, d4_fa, Nat.reduceAdd, Nat.zero_add, Nat.add_zero, xfa_ptr, d4_ld, B0, reduceIte, reduceEqDiff]
  refine put1d_eq (v := .int .i64 x65.To) ((SlG.ld (o := 1) hv73 rfl hx66 hS76 (Nat.le_of_ble_eq_true rfl)).trans rfl) ?_
  obtain ⟨x81, hx82, hF83⟩ := bind_some' hF67
  simp only [d4_ia, B0, reduceIte, reduceEqDiff]
  obtain ⟨b84, hb85⟩ := SlN.isrow ph0_2 (geti_ne hx82)
  refine put1d_eq (SlN.ia ph0_2 hb85 hx82) ?_
  simp only [d4_mv, put1d_some, run_draw_nil, x41_24, run_seq, run_reg, f13, run_fa, put1_some, Nat.reduceAdd, Nat.zero_add, Nat.add_zero, xfa_ref, run_ld, B0, reduceIte,
      reduceEqDiff]
  refine put1_eq (v := .int .i64 v_1.Kind) rfl ?_
  simp only [run_ops_nil, x41_23, run_block, x41_22, run_seq, run_reg, run_bin, put1_some, xeql, run_mv, x41_21, run_cond, B0, reduceIte, reduceEqDiff]
  refine cond_split (t := (decide (v_1.Kind = 1))) (fun hc86 => ?_) (fun hc86 => ?_)
  · rw [iteT hc86] at hF83
    simp only [x41_6, run_seq, run_draw, f13, d4_fa, put1d_some, Nat.reduceAdd, Nat.zero_add, Nat.add_zero, xfa_ref, d4_ld, B0, reduceIte, reduceEqDiff]
    refine put1d_eq (v := .int .i64 v_1.N) rfl ?_
    simp only [f12, d4_mv, put1d_some, d4_chk, xchk_ptr, d4_fa, Nat.reduceAdd, Nat.zero_add, Nat.add_zero, xfa_ptr, d4_ld, B0, reduceIte, reduceEqDiff]
    refine put1d_eq (v := pv0_0) ((xld_b (Sep.bk _ _ _ (Sep.m2 hS76))).trans rfl) ?_
    simp only [d4_mv, put1d_some, d4_chk, xchk_ptr, d4_fa, Nat.reduceAdd, Nat.zero_add, Nat.add_zero, xfa_ptr, d4_ld, B0, reduceIte, reduceEqDiff]
    refine put1d_eq (v := .int .i64 x65.From) ((SlG.ld (o := 0) hv73 rfl hx66 hS76 (Nat.le_of_ble_eq_true rfl)).trans rfl) ?_
    obtain ⟨x87, hx88, hF89⟩ := bind_some' hF83
    simp only [d4_ia, B0, reduceIte, reduceEqDiff]
    obtain ⟨b90, hb91⟩ := SlF.isrow ph0_0 (geti_ne hx88)
    refine put1d_eq (SlF.ia ph0_0 hb91 hx88) ?_
    simp only [d4_ld, B0, reduceIte, reduceEqDiff]
    refine put1d_eq (v := .int .i64 x87) ((SlF.ld (o := 0) ph0_0 (Sep.m3 hS76) hb91 hx88 (fun _ => rfl) (Nat.le_of_ble_eq_true rfl)).trans rfl) ?_
    simp only [run_d3_call, B0, reduceIte, reduceEqDiff]
    refine call1d rfl (mapM1 snap_int (mapM1 snap_int (mapM1 snap_int mapM0))) (impl_in_x (fun b hb => decide_eq_true hb) v_1.N 1 x87 _ rfl) ?_
    simp only [d4_un, put1d_some, xnot, d4_mv, B0, reduceIte, reduceEqDiff]
    refine draw_j 7 (fun fr' h' => Sep h' lo ([Blk1 pb0 [pv0_0, pv0_1, pv0_2, .int .i64 v_0.Sent,
        .int .i64 v_0.Total] 30] ++ (c70 ++ (pc0_0 ++ (pc0_2 ++ (c78 ++ (S0)))))) ∧ fr' 98 = .bool ((!(impl_in v_1.N 1 x87)) || (decide
        ((List.length x65.Way : Int) = 8))) ∧ fr' 0 = .ptr pb0 0 ∧ fr' 3 = .ref [.int .i64 v_1.Kind, .int .i64 v_1.K,
        .int .i64 v_1.N] 0 ∧ fr' 5 = .ptr b68 (v_1.K.toNat * 3)) rfl (fun Q92 hN93 => ?_) ?_
    · simp only [List.take_succ_cons, List.take_zero]
      simp only [run_guardd (g := 91), B0, reduceIte, reduceEqDiff]
      refine guardd_split (t := (!(impl_in v_1.N 1 x87))) (fun hg94 => ?_) (fun hg94 => ?_)
      · simp only [hg94, run_guardd (g := 91), guardd_off', d4_pick, put1d_some, xpick_t, run_draw_nil, run_nil, B0, reduceIte, reduceEqDiff]
        exact hN93 _ _ ⟨(Sep.m4 (Sep.m3 (Sep.m4 (Sep.m4 (Sep.m1 hS76))))), by rw [orT hg94]; simp only [B0, reduceIte, reduceEqDiff], by simp only [f12, B0, reduceIte,
            reduceEqDiff], by simp only [f13, B0, reduceIte, reduceEqDiff], by simp only [B0, reduceIte, reduceEqDiff]⟩
      · simp only [hg94, run_guardd (g := 91), guardd_false, d4_mv, put1d_some, d4_chk, xchk_ptr, d4_fa, Nat.reduceAdd, Nat.zero_add, Nat.add_zero, xfa_ptr, d4_ld, B0, reduceIte,
          reduceEqDiff]
        refine put1d_eq (v := v77) ((SlG.ld (o := 2) hv73 rfl hx66 hS76 (Nat.le_of_ble_eq_true rfl)).trans rfl) ?_
        simp only [hg94, run_guardd (g := 91), guardd_false, d4_len, put1d_some, SlF.plen hv79, d4_bin, xeql, d4_pick, xpick_f, run_draw_nil, run_nil, B0, reduceIte, reduceEqDiff]
        exact hN93 _ _ ⟨(Sep.m4 (Sep.m3 (Sep.m4 (Sep.m4 (Sep.m1 hS76))))), by rw [orF hg94]; simp only [B0, reduceIte, reduceEqDiff], by simp only [f12, B0, reduceIte,
            reduceEqDiff], by simp only [f13, B0, reduceIte, reduceEqDiff], by simp only [B0, reduceIte, reduceEqDiff]⟩
    rintro fr95 h100 ⟨hS101, f96, f97, f98, f99⟩
    simp only [List.drop_succ_cons, List.drop_zero]
    simp only [f96, d4_mv, put1d_some, B0, reduceIte, reduceEqDiff]
    refine draw_j 6 (fun fr' h' => Sep h' lo ([Blk1 pb0 [pv0_0, pv0_1, pv0_2, .int .i64 v_0.Sent,
        .int .i64 v_0.Total] 30] ++ (c70 ++ (pc0_0 ++ (pc0_2 ++ (c78 ++ (S0)))))) ∧ fr' 105 = .bool (((!(impl_in v_1.N 1 x87)) || (decide ((List.length x65.Way : Int) = 8))) ||
        (decide (v_0.Sent = 1000))) ∧ fr' 0 = .ptr pb0 0 ∧ fr' 3 = .ref [.int .i64 v_1.Kind, .int .i64 v_1.K,
        .int .i64 v_1.N] 0 ∧ fr' 5 = .ptr b68 (v_1.K.toNat * 3)) rfl (fun Q102 hN103 => ?_) ?_
    · simp only [List.take_succ_cons, List.take_zero]
      simp only [run_guardd (g := 99), B0, reduceIte, reduceEqDiff]
      refine guardd_split (t := ((!(impl_in v_1.N 1 x87)) || (decide ((List.length x65.Way : Int) = 8)))) (fun hg104 => ?_) (fun hg104 => ?_)
      · simp only [hg104, run_guardd (g := 99), guardd_off', d4_pick, put1d_some, xpick_t, run_draw_nil, run_nil, B0, reduceIte, reduceEqDiff]
        exact hN103 _ _ ⟨(Sep.m4 (Sep.m4 (Sep.m4 (Sep.m4 (Sep.m4 hS101))))), by rw [orT hg104]; simp only [B0, reduceIte, reduceEqDiff], by simp only [f97, B0, reduceIte,
            reduceEqDiff], by simp only [f98, B0, reduceIte, reduceEqDiff], by simp only [f99, B0, reduceIte, reduceEqDiff]⟩
      · simp only [hg104, run_guardd (g := 99), guardd_false, f97, d4_mv, put1d_some, d4_chk, xchk_ptr, d4_fa, Nat.reduceAdd, Nat.zero_add, Nat.add_zero, xfa_ptr, d4_ld, B0,
          reduceIte, reduceEqDiff]
        refine put1d_eq (v := .int .i64 v_0.Sent) ((xld_b (Sep.bk _ _ _ hS101)).trans rfl) ?_
        simp only [hg104, run_guardd (g := 99), guardd_false, d4_bin, put1d_some, xeql, d4_pick, xpick_f, run_draw_nil, run_nil, B0, reduceIte, reduceEqDiff]
        exact hN103 _ _ ⟨(Sep.m4 (Sep.m4 (Sep.m4 (Sep.m4 (Sep.m4 hS101))))), by rw [orF hg104]; simp only [B0, reduceIte, reduceEqDiff], by simp only [f97, B0, reduceIte,
            reduceEqDiff], by simp only [f98, B0, reduceIte, reduceEqDiff], by simp only [f99, B0, reduceIte, reduceEqDiff]⟩
    rintro fr105 h110 ⟨hS111, f106, f107, f108, f109⟩
    simp only [List.drop_succ_cons, List.drop_zero]
    simp only [run_draw_nil, f106, run_cond, B0, reduceIte, reduceEqDiff]
    refine cond_split (t := (((!(impl_in v_1.N 1 x87)) || (decide ((List.length x65.Way : Int) = 8))) || (decide (v_0.Sent = 1000)))) (fun hc112 => ?_) (fun hc112 => ?_)
    · rw [iteT hc112] at hF89
      simp only [run_seq, run_reg, run_mv, run_ops_nil, run_ret, B0, reduceIte, reduceEqDiff]
      obtain ⟨c113, hv114, hS115⟩ := SlG.cls0 (c := c70) (os := c78) hv73 rfl hx66 hk_nil (Chan.RI (x := x65) hv79) (Sep.m2 (Sep.m4 hS111))
      have hv116 := SlG.toN hv114
      have he := some_inj hF89
      subst he
      simp only [end_ret1, B0, reduceIte, reduceEqDiff]
      exact ⟨pc0_0, c113, pc0_2, by first | trivial | rfl, ph0_0, hv116, ph0_2, (Sep.m3 (Sep.m3 (Sep.m1 (Sep.m3 hS115))))⟩
    rw [iteF hc112] at hF89
    simp only [run_skip, x41_5, run_seq, run_draw, f107, d4_mv, put1d_some, d4_chk, xchk_ptr, d4_fa, Nat.reduceAdd, Nat.zero_add, Nat.add_zero, xfa_ptr, d4_ld, B0, reduceIte,
        reduceEqDiff]
    refine put1d_eq (v := pv0_0) ((xld_b (Sep.bk _ _ _ hS111)).trans rfl) ?_
    simp only [f109, d4_mv, put1d_some, d4_chk, xchk_ptr, d4_fa, Nat.reduceAdd, Nat.zero_add, Nat.add_zero, xfa_ptr, d4_ld, B0, reduceIte, reduceEqDiff]
    refine put1d_eq (v := .int .i64 x65.From) ((SlG.ld (o := 0) hv73 rfl hx66 (Sep.m1 hS111) (Nat.le_of_ble_eq_true rfl)).trans rfl) ?_
    simp only [d4_ia, B0, reduceIte, reduceEqDiff]
    refine put1d_eq (SlF.ia ph0_0 hb91 hx88) ?_
    simp only [d4_ld, B0, reduceIte, reduceEqDiff]
    refine put1d_eq (v := .int .i64 x87) ((SlF.ld (o := 0) ph0_0 (Sep.m2 hS111) hb91 hx88 (fun _ => rfl) (Nat.le_of_ble_eq_true rfl)).trans rfl) ?_
    simp only [f108, d4_fa, put1d_some, Nat.reduceAdd, Nat.zero_add, Nat.add_zero, xfa_ref, d4_ld, B0, reduceIte, reduceEqDiff]
    refine put1d_eq (v := .int .i64 v_1.N) rfl ?_
    simp only [d4_bin, put1d_some, xsub, d4_ia, B0, reduceIte, reduceEqDiff]
    refine put1d_eq (SlF.ia ph0_0 hb91 hx88) ?_
    simp only [d3_st, B0, reduceIte, reduceEqDiff]
    refine put2d_stF (f := cI) (x' := (IntKind.wrap .i64 (x87 - v_1.N))) (o := 0) ph0_0 (Sep.m2 hS111) hW hb91 hx88 (fun _ => rfl) rfl rfl (Nat.le_of_ble_eq_true rfl) rfl
        (fun c119 h117 hv120 hS118 => ?_)
    have hx121 := geti_set (x' := (IntKind.wrap .i64 (x87 - v_1.N))) hx88
    simp only [run_draw_nil, x41_4, run_seq, run_draw, f109, d1_mv, put1d_some, d4_mv, d4_chk, xchk_ptr, d4_fa, Nat.reduceAdd, Nat.zero_add, Nat.add_zero, xfa_ptr, d4_ld, B0,
        reduceIte, reduceEqDiff]
    refine put1d_eq (v := v77) ((SlG.ld (o := 2) hv73 rfl hx66 (Sep.m2 hS118) (Nat.le_of_ble_eq_true rfl)).trans rfl) ?_
    simp only [f108, d4_fa, put1d_some, Nat.reduceAdd, Nat.zero_add, Nat.add_zero, xfa_ref, d4_ld, B0, reduceIte, reduceEqDiff]
    refine put1d_eq (v := .int .i64 v_1.N) rfl ?_
    simp only [d4_buildS, evp, B0, reduceIte, reduceEqDiff]
    refine put2d_buildSF (n := 1) (f := cI) [v_1.N] hS118 rfl rfl (fun v122 c123 h124 hv125 hS126 => ?_)
    simp only [d3_app, B0, reduceIte, reduceEqDiff]
    obtain ⟨l128, hx129, hF130⟩ := bind_some' hF89
    refine put2d_appF (f := cI) hv79 (Sep.m5 hS126) hW (fun _ => rfl) (fun _ => rfl) (SlF.first hv125 hS126 (fun _ => rfl)) hx129 (fun v131 c132 h133 hv134 hS135 => ?_)
    simp only [d4_chk, put1d_some, xchk_ptr, d4_fa, Nat.reduceAdd, Nat.zero_add, Nat.add_zero, xfa_ptr, d3_st, B0, reduceIte, reduceEqDiff]
    refine put2d_stGx (us := [v131]) (o := 2) (cs' := [.int .i64 x65.From, .int .i64 x65.To,
        v131]) (cells_one (SlF.one hv134)) hv73 rfl hx66 (Sep.m4 hS135) hW rfl (all_c (SlF.one hv134) all_n) (Nat.le_of_ble_eq_true rfl) rfl (fun c139 h137 hv140 hS138 => ?_)
    simp only [run_draw_nil, x41_3, run_seq, run_reg, f107, run_mv, run_chk, put1_some, xchk_ptr, run_fa, Nat.reduceAdd, Nat.zero_add, Nat.add_zero, xfa_ptr, run_ld, B0,
        reduceIte, reduceEqDiff]
    refine put1_eq (v := .int .i64 v_0.Sent) ((xld_b (Sep.bk _ _ _ (Sep.m4 hS138))).trans rfl) ?_
    simp only [run_bin, put1_some, xadd, run_chk, xchk_ptr, run_fa, Nat.reduceAdd, Nat.zero_add, Nat.add_zero, xfa_ptr, run_st, B0, reduceIte, reduceEqDiff]
    refine put2_stCx (us := [.int .i64 (IntKind.wrap .i64 (v_0.Sent + 1))]) rfl (cs' := [pv0_0, pv0_1, pv0_2, .int .i64 (IntKind.wrap .i64 (v_0.Sent + 1)),
        .int .i64 v_0.Total]) (Sep.m4 hS138) hW rfl rfl (Nat.le_of_ble_eq_true rfl) rfl (fun h141 hS142 => ?_)
    simp only [run_ops_nil, run_seq, run_reg, run_mv, run_ret, B0, reduceIte, reduceEqDiff]
    obtain ⟨c143, hv144, hS145⟩ := SlG.cls (e' := (Chan.mk x65.From x65.To l128)) (c := c139) (os := c132) hv140 rfl hx66 hk_nil (Chan.RI (x :=
        (Chan.mk x65.From x65.To l128)) hv134) (Sep.m2 (Sep.m2 hS142))
    have hx146 := geti_set (x' := (Chan.mk x65.From x65.To l128)) hx66
    have hv147 := SlG.toN hv144
    have he := some_inj hF130
    subst he
    simp only [end_ret1, B0, reduceIte, reduceEqDiff]
    exact ⟨c119, c143, pc0_2, by first | trivial | rfl, hv120, hv147, ph0_2, (Sep.m3 (Sep.m3 (Sep.m1 (Sep.m3 (Sep.dc (Sep.m2 hS145))))))⟩
  rw [iteF hc86] at hF83
  simp only [x41_20, run_seq, run_reg, run_bin, put1_some, xeql, run_mv, run_ops_nil, x41_19, run_cond, B0, reduceIte, reduceEqDiff]
  refine cond_split (t := (decide (v_1.Kind = 2))) (fun hc148 => ?_) (fun hc148 => ?_)
  · rw [iteT hc148] at hF83
    simp only [x41_18, run_seq, run_reg, run_mv, run_chk, put1_some, xchk_ptr, run_fa, Nat.reduceAdd, Nat.zero_add, Nat.add_zero, xfa_ptr, run_ld, B0, reduceIte, reduceEqDiff]
    refine put1_eq (v := v77) ((SlG.ld (o := 2) hv73 rfl hx66 hS76 (Nat.le_of_ble_eq_true rfl)).trans rfl) ?_
    simp only [run_len, put1_some, SlF.plen hv79, run_bin, xeql, run_ops_nil, run_cond, B0, reduceIte, reduceEqDiff]
    refine cond_split (t := (decide ((List.length x65.Way : Int) = 0))) (fun hc149 => ?_) (fun hc149 => ?_)
    · rw [iteT hc149] at hF83
      simp only [run_seq, run_reg, run_mv, run_ops_nil, run_ret, B0, reduceIte, reduceEqDiff]
      obtain ⟨c150, hv151, hS152⟩ := SlG.cls0 (c := c70) (os := c78) hv73 rfl hx66 hk_nil (Chan.RI (x := x65) hv79) (Sep.m1 (Sep.m1 hS76))
      have hv153 := SlG.toN hv151
      have he := some_inj hF83
      subst he
      simp only [end_ret1, B0, reduceIte, reduceEqDiff]
      exact ⟨pc0_0, c150, pc0_2, by first | trivial | rfl, ph0_0, hv153, ph0_2, (Sep.m3 (Sep.m3 (Sep.m1 (Sep.m3 hS152))))⟩
    rw [iteF hc149] at hF83
    simp only [run_skip, x41_17, run_seq, run_reg, run_mv, run_chk, put1_some, xchk_ptr, run_fa, Nat.reduceAdd, Nat.zero_add, Nat.add_zero, xfa_ptr, run_ld, B0, reduceIte,
        reduceEqDiff]
    refine put1_eq (v := v77) ((SlG.ld (o := 2) hv73 rfl hx66 hS76 (Nat.le_of_ble_eq_true rfl)).trans rfl) ?_
    obtain ⟨x154, hx155, hF156⟩ := bind_some' hF83
    simp only [run_ia, B0, reduceIte, reduceEqDiff]
    obtain ⟨b157, hb158⟩ := SlF.isrow hv79 (geti_ne hx155)
    refine put1_eq (SlF.ia hv79 hb158 hx155) ?_
    simp only [run_ld, B0, reduceIte, reduceEqDiff]
    refine put1_eq (v := .int .i64 x154) ((SlF.ld (o := 0) hv79 (Sep.m1 hS76) hb158 hx155 (fun _ => rfl) (Nat.le_of_ble_eq_true rfl)).trans rfl) ?_
    simp only [run_mv, run_ops_nil, x41_16, run_seq, run_draw, d4_mv, put1d_some, d4_bin, xgtr, B0, reduceIte, reduceEqDiff]
    refine draw_j 5 (fun fr' h' => Sep h' lo ([Blk1 pb0 [pv0_0, pv0_1, pv0_2, .int .i64 v_0.Sent,
        .int .i64 v_0.Total] 30] ++ (c70 ++ (pc0_2 ++ (pc0_0 ++ (c78 ++ (S0)))))) ∧ fr' 159 = .bool ((decide
        ((0 : Int) < x154)) && x81.Taken) ∧ fr' 0 = .ptr pb0 0 ∧ fr' 5 = .ptr b68 (v_1.K.toNat * 3) ∧ fr' 6 = .ptr b84 (x65.To.toNat * 4) ∧ fr' 7 = .int .i64 x154) rfl
        (fun Q159 hN160 => ?_) ?_
    · simp only [List.take_succ_cons, List.take_zero]
      simp only [run_guardd (g := 154), B0, reduceIte, reduceEqDiff]
      refine guardd_split (t := (decide ((0 : Int) < x154))) (fun hg161 => ?_) (fun hg161 => ?_)
      · obtain ⟨c162, cs163, os164, hv165, hR166, hS167⟩ := SlG.opn (SlN.toG ph0_2 hb85 Picture.RO.len) hx82 hk_nil Picture.RO.len (Sep.m4 hS76)
        obtain ⟨v169, c170, v173, c174, hv171, hv175, rfl, rfl⟩ := hR166
        have hS168 := Sep.no2 hS167
        simp only [hg161, run_guardd (g := 154), guardd_true, d4_mv, put1d_some, d4_chk, xchk_ptr, d4_fa, Nat.reduceAdd, Nat.zero_add, Nat.add_zero, xfa_ptr, d4_ld, B0, reduceIte,
            reduceEqDiff]
        refine put1d_eq (v := .bool x81.Taken) ((SlG.ld (o := 0) hv165 rfl hx82 hS168 (Nat.le_of_ble_eq_true rfl)).trans rfl) ?_
        simp only [hg161, d4_pick, put1d_some, xpick_t, run_draw_nil, run_nil, B0, reduceIte, reduceEqDiff]
        exact hN160 _ _ ⟨(Sep.m4 (Sep.m3 (Sep.m4 (Sep.m3 (Sep.m1 hS76))))), by rw [andT hg161]; simp only [B0, reduceIte, reduceEqDiff], by simp only [f12, B0, reduceIte,
            reduceEqDiff], by simp only [B0, reduceIte, reduceEqDiff], by simp only [B0, reduceIte, reduceEqDiff], by simp only [B0, reduceIte, reduceEqDiff]⟩
      · simp only [hg161, run_guardd (g := 154), guardd_off, d4_pick, put1d_some, xpick_f, run_draw_nil, run_nil, B0, reduceIte, reduceEqDiff]
        exact hN160 _ _ ⟨(Sep.m4 (Sep.m3 (Sep.m4 (Sep.m3 (Sep.m1 hS76))))), by rw [andF hg161]; simp only [B0, reduceIte, reduceEqDiff], by simp only [f12, B0, reduceIte,
            reduceEqDiff], by simp only [B0, reduceIte, reduceEqDiff], by simp only [B0, reduceIte, reduceEqDiff], by simp only [B0, reduceIte, reduceEqDiff]⟩
    rintro fr177 h183 ⟨hS184, f178, f179, f180, f181, f182⟩
    simp only [List.drop_succ_cons, List.drop_zero]
    simp only [f178, d4_mv, put1d_some, B0, reduceIte, reduceEqDiff]
    obtain ⟨v188, hx189, hF190⟩ := bind_some' hF156
    refine draw_j 12 (fun fr' h' => Sep h' lo ([Blk1 pb0 [pv0_0, pv0_1, pv0_2, .int .i64 v_0.Sent,
        .int .i64 v_0.Total] 30] ++ (c70 ++ (pc0_2 ++ (pc0_0 ++ (c78 ++ (S0)))))) ∧ fr' 172 = .bool v188 ∧ fr' 0 = .ptr pb0 0 ∧ fr' 5 = .ptr b68
        (v_1.K.toNat * 3) ∧ fr' 6 = .ptr b84 (x65.To.toNat * 4) ∧ fr' 7 = .int .i64 x154) rfl (fun Q185 hN186 => ?_) ?_
    · simp only [List.take_succ_cons, List.take_zero]
      simp only [run_guardd (g := 160), B0, reduceIte, reduceEqDiff]
      refine guardd_split (t := ((decide ((0 : Int) < x154)) && x81.Taken)) (fun hg187 => ?_) (fun hg187 => ?_)
      · rw [iteT hg187] at hx189
        obtain ⟨c191, cs192, os193, hv194, hR195, hS196⟩ := SlG.opn (SlN.toG ph0_2 hb85 Picture.RO.len) hx82 hk_nil Picture.RO.len (Sep.m2 hS184)
        obtain ⟨v198, c199, v202, c203, hv200, hv204, rfl, rfl⟩ := hR195
        have hS197 := Sep.no2 hS196
        simp only [hg187, run_guardd (g := 160), guardd_true, f181, d4_mv, put1d_some, d4_chk, xchk_ptr, d4_fa, Nat.reduceAdd, Nat.zero_add, Nat.add_zero, xfa_ptr, d4_ld, B0,
            reduceIte, reduceEqDiff]
        refine put1d_eq (v := v202) ((SlG.ld (o := 3) hv194 rfl hx82 hS197 (Nat.le_of_ble_eq_true rfl)).trans rfl) ?_
        simp only [hg187, run_guardd (g := 160), guardd_true, f180, d4_mv, put1d_some, d4_chk, xchk_ptr, d4_fa, Nat.reduceAdd, Nat.zero_add, Nat.add_zero, xfa_ptr, d4_ld, B0,
            reduceIte, reduceEqDiff]
        refine put1d_eq (v := .int .i64 x65.From) ((SlG.ld (o := 0) hv73 rfl hx66 (Sep.m4 hS197) (Nat.le_of_ble_eq_true rfl)).trans rfl) ?_
        obtain ⟨x206, hx207, hF208⟩ := bind_some' hx189
        simp only [hg187, run_guardd (g := 160), guardd_true, d4_ia, B0, reduceIte, reduceEqDiff]
        obtain ⟨b209, hb210⟩ := SlF.isrow hv204 (geti_ne hx207)
        refine put1d_eq (SlF.ia hv204 hb210 hx207) ?_
        simp only [hg187, run_guardd (g := 160), guardd_true, d4_ld, B0, reduceIte, reduceEqDiff]
        refine put1d_eq (v := .bool x206) ((SlF.ld (o := 0) hv204 (Sep.m2 hS197) hb210 hx207 (fun _ => rfl) (Nat.le_of_ble_eq_true rfl)).trans rfl) ?_
        simp only [hg187, run_guardd (g := 160), guardd_true, d4_un, put1d_some, xnot, d4_pick, xpick_t, run_draw_nil, run_nil, B0, reduceIte, reduceEqDiff]
        have e211 := some_inj hF208
        exact hN186 _ _ ⟨(Sep.m4 (Sep.m4 (Sep.m4 (Sep.m4 (Sep.m4 hS184))))), by rw [← e211]; simp only [B0, reduceIte, reduceEqDiff], by simp only [f179, B0, reduceIte,
            reduceEqDiff], by simp only [f180, B0, reduceIte, reduceEqDiff], by simp only [f181, B0, reduceIte, reduceEqDiff], by simp only [f182, B0, reduceIte, reduceEqDiff]⟩
      · rw [iteF hg187] at hx189
        simp only [hg187, run_guardd (g := 160), guardd_off, d4_pick, put1d_some, xpick_f, run_draw_nil, run_nil, B0, reduceIte, reduceEqDiff]
        have e212 := some_inj hx189
        exact hN186 _ _ ⟨(Sep.m4 (Sep.m4 (Sep.m4 (Sep.m4 (Sep.m4 hS184))))), by rw [← e212]; simp only [B0, reduceIte, reduceEqDiff], by simp only [f179, B0, reduceIte,
            reduceEqDiff], by simp only [f180, B0, reduceIte, reduceEqDiff], by simp only [f181, B0, reduceIte, reduceEqDiff], by simp only [f182, B0, reduceIte, reduceEqDiff]⟩
    rintro fr213 h219 ⟨hS220, f214, f215, f216, f217, f218⟩
    simp only [List.drop_succ_cons, List.drop_zero]
    simp only [f214, d4_mv, put1d_some, run_draw_nil, x41_15, run_seq, run_draw, B0, reduceIte, reduceEqDiff]
    obtain ⟨v224, hx225, hF226⟩ := bind_some' hF190
    refine draw_j 14 (fun fr' h' => Sep h' lo ([Blk1 pb0 [pv0_0, pv0_1, pv0_2, .int .i64 v_0.Sent,
        .int .i64 v_0.Total] 30] ++ (c70 ++ (pc0_2 ++ (pc0_0 ++ (c78 ++ (S0)))))) ∧ fr' 188 = .bool v224 ∧ fr' 0 = .ptr pb0 0 ∧ fr' 5 = .ptr b68
        (v_1.K.toNat * 3) ∧ fr' 6 = .ptr b84 (x65.To.toNat * 4) ∧ fr' 7 = .int .i64 x154 ∧ fr' 8 = .bool v188) rfl (fun Q221 hN222 => ?_) ?_
    · simp only [List.take_succ_cons, List.take_zero]
      simp only [run_guardd (g := 174), B0, reduceIte, reduceEqDiff]
      refine guardd_split (t := v188) (fun hg223 => ?_) (fun hg223 => ?_)
      · rw [iteT hg223] at hx225
        obtain ⟨c227, cs228, os229, hv230, hR231, hS232⟩ := SlG.opn (SlN.toG ph0_2 hb85 Picture.RO.len) hx82 hk_nil Picture.RO.len (Sep.m2 hS220)
        obtain ⟨v234, c235, v238, c239, hv236, hv240, rfl, rfl⟩ := hR231
        have hS233 := Sep.no2 hS232
        simp only [hg223, run_guardd (g := 174), guardd_true, f217, d4_mv, put1d_some, d4_chk, xchk_ptr, d4_fa, Nat.reduceAdd, Nat.zero_add, Nat.add_zero, xfa_ptr, d4_ld, B0,
            reduceIte, reduceEqDiff]
        refine put1d_eq (v := v234) ((SlG.ld (o := 2) hv230 rfl hx82 hS233 (Nat.le_of_ble_eq_true rfl)).trans rfl) ?_
        simp only [hg223, run_guardd (g := 174), guardd_true, f216, d4_mv, put1d_some, d4_chk, xchk_ptr, d4_fa, Nat.reduceAdd, Nat.zero_add, Nat.add_zero, xfa_ptr, d4_ld, B0,
            reduceIte, reduceEqDiff]
        refine put1d_eq (v := .int .i64 x65.From) ((SlG.ld (o := 0) hv73 rfl hx66 (Sep.m4 hS233) (Nat.le_of_ble_eq_true rfl)).trans rfl) ?_
        obtain ⟨x242, hx243, hF244⟩ := bind_some' hx225
        simp only [hg223, run_guardd (g := 174), guardd_true, d4_ia, B0, reduceIte, reduceEqDiff]
        obtain ⟨b245, hb246⟩ := SlF.isrow hv236 (geti_ne hx243)
        refine put1d_eq (SlF.ia hv236 hb246 hx243) ?_
        simp only [hg223, run_guardd (g := 174), guardd_true, d4_ld, B0, reduceIte, reduceEqDiff]
        refine put1d_eq (v := .int .i64 x242) ((SlF.ld (o := 0) hv236 (Sep.m1 hS233) hb246 hx243 (fun _ => rfl) (Nat.le_of_ble_eq_true rfl)).trans rfl) ?_
        simp only [hg223, run_guardd (g := 174), guardd_true, f218, d4_mv, put1d_some, d4_bin, xadd, xgtr, d4_pick, xpick_t, run_draw_nil, run_nil, B0, reduceIte, reduceEqDiff]
        have e247 := some_inj hF244
        exact hN222 _ _ ⟨(Sep.m4 (Sep.m4 (Sep.m4 (Sep.m4 (Sep.m4 hS220))))), by rw [← e247]; simp only [B0, reduceIte, reduceEqDiff], by simp only [f215, B0, reduceIte,
            reduceEqDiff], by simp only [f216, B0, reduceIte, reduceEqDiff], by simp only [f217, B0, reduceIte, reduceEqDiff], by simp only [f218, B0, reduceIte, reduceEqDiff],
            by simp only [B0, reduceIte, reduceEqDiff, hg223]⟩
      · rw [iteF hg223] at hx225
        simp only [hg223, run_guardd (g := 174), guardd_off, d4_pick, put1d_some, xpick_f, run_draw_nil, run_nil, B0, reduceIte, reduceEqDiff]
        have e248 := some_inj hx225
        exact hN222 _ _ ⟨(Sep.m4 (Sep.m4 (Sep.m4 (Sep.m4 (Sep.m4 hS220))))), by rw [← e248]; simp only [B0, reduceIte, reduceEqDiff], by simp only [f215, B0, reduceIte,
            reduceEqDiff], by simp only [f216, B0, reduceIte, reduceEqDiff], by simp only [f217, B0, reduceIte, reduceEqDiff], by simp only [f218, B0, reduceIte, reduceEqDiff],
            by simp only [B0, reduceIte, reduceEqDiff, hg223]⟩
    rintro fr249 h256 ⟨hS257, f250, f251, f252, f253, f254, f255⟩
    simp only [List.drop_succ_cons, List.drop_zero]
    simp only [f250, d4_mv, put1d_some, B0, reduceIte, reduceEqDiff]
    simp only [run_guardd (g := 189), B0, reduceIte, reduceEqDiff]
    refine guardd_split (t := v224) (fun hg258 => ?_) (fun hg258 => ?_)
    · rw [iteT hg258] at hF226
      simp only [hg258, run_guardd (g := 189), guardd_off', run_guardd (g := 192), guardd_tup, run_guardd (g := 199), d4_pick, put1d_some, xpick_t, run_draw_nil, run_cond,
          cond_true, run_seq, run_reg, run_mv, run_ops_nil, run_ret, B0, reduceIte, reduceEqDiff]
      obtain ⟨c259, hv260, hS261⟩ := SlG.cls0 (c := c70) (os := c78) hv73 rfl hx66 hk_nil (Chan.RI (x := x65) hv79) (Sep.m2 (Sep.m4 hS257))
      have hv262 := SlG.toN hv260
      have he := some_inj hF226
      subst he
      simp only [end_ret1, B0, reduceIte, reduceEqDiff]
      exact ⟨pc0_0, c259, pc0_2, by first | trivial | rfl, ph0_0, hv262, ph0_2, (Sep.m3 (Sep.m3 (Sep.m1 (Sep.m2 hS261))))⟩
    rw [iteF hg258] at hF226
    simp only [hg258, run_guardd (g := 189), guardd_false, f254, d4_mv, put1d_some, d4_bin, xeql, B0, reduceIte, reduceEqDiff]
    refine draw_j 6 (fun fr' h' => Sep h' lo ([Blk1 pb0 [pv0_0, pv0_1, pv0_2, .int .i64 v_0.Sent,
        .int .i64 v_0.Total] 30] ++ (c70 ++ (pc0_2 ++ (pc0_0 ++ (c78 ++ (S0)))))) ∧ fr' 198 = .bool ((decide (x154 = 0)) && (!x81.Taken)) ∧ fr' 0 = .ptr pb0 0 ∧ fr' 5 = .ptr b68
        (v_1.K.toNat * 3) ∧ fr' 6 = .ptr b84 (x65.To.toNat * 4) ∧ fr' 7 = .int .i64 x154 ∧ fr' 8 = .bool v188 ∧ fr' 189 = .bool v224) rfl (fun Q263 hN264 => ?_) ?_
    · simp only [List.take_succ_cons, List.take_zero]
      simp only [run_guardd (g := 192), B0, reduceIte, reduceEqDiff]
      refine guardd_split (t := (decide (x154 = 0))) (fun hg265 => ?_) (fun hg265 => ?_)
      · obtain ⟨c266, cs267, os268, hv269, hR270, hS271⟩ := SlG.opn (SlN.toG ph0_2 hb85 Picture.RO.len) hx82 hk_nil Picture.RO.len (Sep.m2 hS257)
        obtain ⟨v273, c274, v277, c278, hv275, hv279, rfl, rfl⟩ := hR270
        have hS272 := Sep.no2 hS271
        simp only [hg265, run_guardd (g := 192), guardd_true, f253, d4_mv, put1d_some, d4_chk, xchk_ptr, d4_fa, Nat.reduceAdd, Nat.zero_add, Nat.add_zero, xfa_ptr, d4_ld, B0,
            reduceIte, reduceEqDiff]
        refine put1d_eq (v := .bool x81.Taken) ((SlG.ld (o := 0) hv269 rfl hx82 hS272 (Nat.le_of_ble_eq_true rfl)).trans rfl) ?_
        simp only [hg265, run_guardd (g := 192), guardd_true, d4_un, put1d_some, xnot, hg258, run_guardd (g := 189), guardd_false, d4_pick, xpick_t, run_draw_nil, run_nil, B0,
            reduceIte, reduceEqDiff]
        exact hN264 _ _ ⟨(Sep.m4 (Sep.m4 (Sep.m4 (Sep.m4 (Sep.m4 hS257))))), by rw [andT hg265]; simp only [B0, reduceIte, reduceEqDiff], by simp only [f251, B0, reduceIte,
            reduceEqDiff], by simp only [f252, B0, reduceIte, reduceEqDiff], by simp only [f253, B0, reduceIte, reduceEqDiff], by simp only [f254, B0, reduceIte, reduceEqDiff],
            by simp only [f255, B0, reduceIte, reduceEqDiff], by simp only [hg258, B0, reduceIte, reduceEqDiff]⟩
      · simp only [hg265, run_guardd (g := 192), guardd_off, hg258, run_guardd (g := 189), guardd_false, d4_pick, put1d_some, xpick_f, run_draw_nil, run_nil, B0, reduceIte,
          reduceEqDiff]
        exact hN264 _ _ ⟨(Sep.m4 (Sep.m4 (Sep.m4 (Sep.m4 (Sep.m4 hS257))))), by rw [andF hg265]; simp only [B0, reduceIte, reduceEqDiff], by simp only [f251, B0, reduceIte,
            reduceEqDiff], by simp only [f252, B0, reduceIte, reduceEqDiff], by simp only [f253, B0, reduceIte, reduceEqDiff], by simp only [f254, B0, reduceIte, reduceEqDiff],
            by simp only [f255, B0, reduceIte, reduceEqDiff], by simp only [hg258, B0, reduceIte, reduceEqDiff]⟩
    rintro fr281 h289 ⟨hS290, f282, f283, f284, f285, f286, f287, f288⟩
    simp only [List.drop_succ_cons, List.drop_zero]
    simp only [f288, hg258, run_guardd (g := 189), guardd_false, f282, d4_mv, put1d_some, B0, reduceIte, reduceEqDiff]
    simp only [run_guardd (g := 199), B0, reduceIte, reduceEqDiff]
    refine guardd_split (t := ((decide (x154 = 0)) && (!x81.Taken))) (fun hg291 => ?_) (fun hg291 => ?_)
    · rw [iteT hg291] at hF226
      simp only [hg291, run_guardd (g := 199), guardd_true, f283, d4_mv, put1d_some, f284, d4_chk, xchk_ptr, d4_fa, Nat.reduceAdd, Nat.zero_add, Nat.add_zero, xfa_ptr, d4_ld, B0,
          reduceIte, reduceEqDiff]
      refine put1d_eq (v := .int .i64 x65.To) ((SlG.ld (o := 1) hv73 rfl hx66 (Sep.m1 hS290) (Nat.le_of_ble_eq_true rfl)).trans rfl) ?_
      obtain ⟨c292, hv293, hS294⟩ := SlG.cls0 (c := c70) (os := c78) hv73 rfl hx66 hk_nil (Chan.RI (x := x65) hv79) (Sep.m2 (Sep.m4 hS290))
      have hv295 := SlG.toN hv293
      obtain ⟨v296, hx297, hF298⟩ := bind_some' hF226
      simp only [hg291, run_guardd (g := 199), guardd_true, run_d3_call, B0, reduceIte, reduceEqDiff]
      refine call0d rfl (impl_Snap_take_x hW pb0 v_0 pv0_0 pc0_0 ph0_0 pv0_1 c292 hv295 pv0_2 pc0_2 ph0_2 x65.To v296 hx297 (Sep.m3 (Sep.m3 (Sep.m1 (Sep.m2 hS294))))) ?_
      rintro _ h305 ⟨c299, c301, c303, rfl, hv300, hv302, hv304, hS306⟩
      simp only [hg291, run_guardd (g := 199), guardd_true, d4_un, put1d_some, xnot, f288, hg258, run_guardd (g := 189), guardd_false, d4_pick, xpick_t, xpick_f, run_draw_nil,
          run_cond, B0, reduceIte, reduceEqDiff]
      refine cond_split (t := (!v296.1)) (fun hc307 => ?_) (fun hc307 => ?_)
      · rw [iteT hc307] at hF298
        simp only [run_seq, run_reg, run_mv, run_ops_nil, run_ret, B0, reduceIte, reduceEqDiff]
        have he := some_inj hF298
        subst he
        simp only [end_ret1, B0, reduceIte, reduceEqDiff]
        exact ⟨c299, c301, c303, by first | trivial | rfl, hv300, hv302, hv304, (Sep.m3 (Sep.m3 (Sep.m3 (Sep.m3 hS306))))⟩
      rw [iteF hc307] at hF298
      simp only [run_skip, x41_14, run_seq, run_reg, f284, run_mv, run_buildS, evp, B0, reduceIte, reduceEqDiff]
      refine put2_buildSF (n := 1) (f := cI) ([] : List Int) hS306 rfl rfl (fun v308 c309 h310 hv311 hS312 => ?_)
      obtain ⟨x314, hx315, hF316⟩ := bind_some' hF298
      obtain ⟨c317, cs318, os319, hv320, hR321, hS322⟩ := SlG.opn (SlN.toG hv302 hb69 Chan.RO.len) hx315 hk_nil Chan.RO.len (Sep.m3 hS312)
      obtain ⟨v324, c325, hv326, rfl, rfl⟩ := hR321
      have hS323 := Sep.no1 hS322
      simp only [f284, run_mv, run_chk, put1_some, xchk_ptr, run_fa, Nat.reduceAdd, Nat.zero_add, Nat.add_zero, xfa_ptr, run_ld, B0, reduceIte, reduceEqDiff]
      refine put1_eq (v := v324) ((SlG.ld (o := 2) hv320 rfl hx315 hS323 (Nat.le_of_ble_eq_true rfl)).trans rfl) ?_
      obtain ⟨l328, hx329, hF330⟩ := bind_some' hF316
      simp only [run_slc, Option.map_some, Option.map_none, B0, reduceIte, reduceEqDiff]
      obtain ⟨w331, i332, he333, hw334⟩ := SlF.win (f := cI) (ty := 3) (some (1 : Int)) none hv326 hx329 (Sep.m1 hS323)
      refine put1_eq he333 ?_
      simp only [run_app, B0, reduceIte, reduceEqDiff]
      obtain ⟨l335, hx336, hF337⟩ := bind_some' hF330
      refine put2_appF (f := cI) hv311 (Sep.m2 hS323) hW (fun _ => rfl) (fun _ => rfl) (SlW.first hw334 hv326 (Sep.m1 hS323) (fun _ => rfl)) hx336
          (fun v338 c339 h340 hv341 hS342 => ?_)
      simp only [run_chk, put1_some, xchk_ptr, run_fa, Nat.reduceAdd, Nat.zero_add, Nat.add_zero, xfa_ptr, run_st, B0, reduceIte, reduceEqDiff]
      refine put2_stGx (us := [v338]) (o := 2) (cs' := [.int .i64 x314.From, .int .i64 x314.To,
          v338]) (cells_one (SlF.one hv341)) hv320 rfl hx315 (Sep.m1 hS342) hW rfl (all_c (SlF.one hv341) all_n) (Nat.le_of_ble_eq_true rfl) rfl (fun c346 h344 hv347 hS345 => ?_)
      simp only [run_ops_nil, x41_13, run_seq, run_draw, f283, d4_mv, put1d_some, d4_chk, xchk_ptr, d4_fa, Nat.reduceAdd, Nat.zero_add, Nat.add_zero, xfa_ptr, d4_ld, B0,
          reduceIte, reduceEqDiff]
      refine put1d_eq (v := pv0_0) ((xld_b (Sep.bk _ _ _ (Sep.m3 hS345))).trans rfl) ?_
      simp only [f284, d4_mv, put1d_some, d4_chk, xchk_ptr, d4_fa, Nat.reduceAdd, Nat.zero_add, Nat.add_zero, xfa_ptr, d4_ld, B0, reduceIte, reduceEqDiff]
      refine put1d_eq (v := .int .i64 x314.To) ((SlG.ld (o := 1) hv347 rfl hx315 hS345 (Nat.le_of_ble_eq_true rfl)).trans rfl) ?_
      obtain ⟨x348, hx349, hF350⟩ := bind_some' hF337
      simp only [d4_ia, B0, reduceIte, reduceEqDiff]
      obtain ⟨b351, hb352⟩ := SlF.isrow hv300 (geti_ne hx349)
      refine put1d_eq (SlF.ia hv300 hb352 hx349) ?_
      simp only [d4_ld, B0, reduceIte, reduceEqDiff]
      refine put1d_eq (v := .int .i64 x348) ((SlF.ld (o := 0) hv300 (Sep.m4 hS345) hb352 hx349 (fun _ => rfl) (Nat.le_of_ble_eq_true rfl)).trans rfl) ?_
      simp only [f286, d4_mv, put1d_some, d4_bin, xadd, d4_ia, B0, reduceIte, reduceEqDiff]
      refine put1d_eq (SlF.ia hv300 hb352 hx349) ?_
      simp only [d3_st, B0, reduceIte, reduceEqDiff]
      refine put2d_stF (f := cI) (x' := (IntKind.wrap .i64 (x348 + x154))) (o := 0) hv300 (Sep.m4 hS345) hW hb352 hx349 (fun _ => rfl) rfl rfl (Nat.le_of_ble_eq_true rfl) rfl
          (fun c355 h353 hv356 hS354 => ?_)
      have hx357 := geti_set (x' := (IntKind.wrap .i64 (x348 + x154))) hx349
      simp only [run_draw_nil, x41_12, run_seq, run_reg, f287, run_mv, run_ops_nil, x41_8, run_cond, B0, reduceIte, reduceEqDiff]
      obtain ⟨c358, hv359, hS360⟩ := SlG.cls (e' := (Chan.mk x314.From x314.To l335)) (c := c346) (os := c339) hv347 rfl hx315 hk_nil (Chan.RI (x :=
          (Chan.mk x314.From x314.To l335)) hv341) (Sep.m2 (Sep.m2 hS354))
      have hx361 := geti_set (x' := (Chan.mk x314.From x314.To l335)) hx315
      have hv362 := SlG.toN hv359
      obtain ⟨sv372, hX370, hk371⟩ := bind_some' hF350
      refine cond_j (t := v188) (fun fr' h' => ∃ c364 c367,
          fr' 5 = .ptr b68 (v_1.K.toNat * 3) ∧ fr' 6 = .ptr b84
          (x65.To.toNat * 4) ∧ fr' 7 = .int .i64 x154 ∧ SlN Chan.R 3 74 pv0_1 sv372.1 c364 ∧ SlN Picture.R 4 76 pv0_2 sv372.2 c367 ∧ Sep h' lo (c364 ++ (c367 ++ ([Blk1 pb0 [pv0_0,
          pv0_1, pv0_2, .int .i64 v296.2.Sent, .int .i64 v296.2.Total] 30] ++ (c355 ++ (S0)))))) (fun Q373 hN374 hR375 hE376 => ⟨fun hc377 => ?_, fun hc377 => ?_⟩) ?_
      · rw [iteT hc377] at hX370
        obtain ⟨x378, hx379, hF380⟩ := bind_some' hX370
        obtain ⟨c381, cs382, os383, hv384, hR385, hS386⟩ := SlG.opn (SlN.toG hv304 hb85 Picture.RO.len) hx379 hk_nil Picture.RO.len (Sep.m4 hS360)
        obtain ⟨v388, c389, v392, c393, hv390, hv394, rfl, rfl⟩ := hR385
        have hS387 := Sep.no2 hS386
        simp only [x41_7, run_draw, f285, d4_mv, put1d_some, d4_chk, xchk_ptr, d4_fa, Nat.reduceAdd, Nat.zero_add, Nat.add_zero, xfa_ptr, d4_ld, B0, reduceIte, reduceEqDiff]
        refine put1d_eq (v := v388) ((SlG.ld (o := 2) hv384 rfl hx379 hS387 (Nat.le_of_ble_eq_true rfl)).trans rfl) ?_
        obtain ⟨c396, cs397, os398, hv399, hR400, hS401⟩ := SlG.opn (SlN.toG hv362 hb69 Chan.RO.len) hx361 hk_nil Chan.RO.len (Sep.m3 hS387)
        obtain ⟨v403, c404, hv405, rfl, rfl⟩ := hR400
        have hS402 := Sep.no1 hS401
        simp only [f284, d4_mv, put1d_some, d4_chk, xchk_ptr, d4_fa, Nat.reduceAdd, Nat.zero_add, Nat.add_zero, xfa_ptr, d4_ld, B0, reduceIte, reduceEqDiff]
        refine put1d_eq (v := .int .i64 ((Chan.mk x314.From x314.To l335).From)) ((SlG.ld (o := 0) hv399 rfl hx361 hS402 (Nat.le_of_ble_eq_true rfl)).trans rfl) ?_
        obtain ⟨x407, hx408, hF409⟩ := bind_some' hF380
        simp only [d4_ia, B0, reduceIte, reduceEqDiff]
        obtain ⟨b410, hb411⟩ := SlF.isrow hv390 (geti_ne hx408)
        refine put1d_eq (SlF.ia hv390 hb411 hx408) ?_
        simp only [d4_ld, B0, reduceIte, reduceEqDiff]
        refine put1d_eq (v := .int .i64 x407) ((SlF.ld (o := 0) hv390 (Sep.m3 hS402) hb411 hx408 (fun _ => rfl) (Nat.le_of_ble_eq_true rfl)).trans rfl) ?_
        simp only [f286, d4_mv, put1d_some, d4_bin, xadd, d4_ia, B0, reduceIte, reduceEqDiff]
        refine put1d_eq (SlF.ia hv390 hb411 hx408) ?_
        simp only [d3_st, B0, reduceIte, reduceEqDiff]
        refine put2d_stF (f := cI) (x' := (IntKind.wrap .i64 (x407 + x154))) (o := 0) hv390 (Sep.m3 hS402) hW hb411 hx408 (fun _ => rfl) rfl rfl (Nat.le_of_ble_eq_true rfl) rfl
            (fun c414 h412 hv415 hS413 => ?_)
        have hx416 := geti_set (x' := (IntKind.wrap .i64 (x407 + x154))) hx408
        simp only [run_draw_nil, run_nil, B0, reduceIte, reduceEqDiff]
        obtain ⟨c417, hv418, hS419⟩ := SlG.cls0 (c := c396) (os := c404) hv399 rfl hx361 hk_nil (Chan.RI (x := (Chan.mk x314.From x314.To l335)) hv405) (Sep.m2 (Sep.m2 hS413))
        have hv420 := SlG.toN hv418
        obtain ⟨c421, hv422, hS423⟩ := SlG.cls (e' := (Picture.mk x378.Taken x378.Amount (List.set x378.In ((Chan.mk x314.From x314.To l335).From).toNat (IntKind.wrap .i64
            (x407 + x154))) x378.Closed)) (c := c381) (os := c414 ++ (c393)) hv384 rfl hx379 hk_nil (Picture.RI (x := (Picture.mk x378.Taken x378.Amount (List.set x378.In
            ((Chan.mk x314.From x314.To l335).From).toNat (IntKind.wrap .i64 (x407 + x154))) x378.Closed)) hv415 hv394) (Sep.ni2 (c1 := c414) (c2 := c393) (Sep.m3 (Sep.m2
            (Sep.m3 hS419))))
        have hx424 := geti_set (x' := (Picture.mk x378.Taken x378.Amount (List.set x378.In ((Chan.mk x314.From x314.To l335).From).toNat (IntKind.wrap .i64
            (x407 + x154))) x378.Closed)) hx379
        have hv425 := SlG.toN hv422
        have e426 := some_inj hF409
        subst e426
        exact hN374 _ _ ⟨c417, c421, by simp only [f284, B0, reduceIte, reduceEqDiff], by simp only [f285, B0, reduceIte, reduceEqDiff], by simp only [f286, B0, reduceIte,
            reduceEqDiff], hv420, hv425, (Sep.m3 (Sep.m2 (Sep.m3 (Sep.m2 (Sep.dc (Sep.m3 hS423))))))⟩
      · rw [iteF hc377] at hX370
        simp only [run_skip, run_nil, B0, reduceIte, reduceEqDiff]
        have e427 := some_inj hX370
        subst e427
        exact hN374 _ _ ⟨c358, c303, by simp only [f284, B0, reduceIte, reduceEqDiff], by simp only [f285, B0, reduceIte, reduceEqDiff], by simp only [f286, B0, reduceIte,
            reduceEqDiff], hv362, hv304, (Sep.m3 (Sep.m3 (Sep.m2 (Sep.m1 (Sep.dc (Sep.m2 hS360))))))⟩
      rintro fr428 h429 ⟨c364, c367, f431, f432, f433, hv365, hv368, hS430⟩
      obtain ⟨s363, s366⟩ := sv372
      dsimp only at *
      unfold impl_Snap_step_j1 at hk371
      simp only [x41_11, run_seq, run_reg, f433, run_mv, run_bin, put1_some, xeql, run_ops_nil, x41_10, run_cond, B0, reduceIte, reduceEqDiff]
      refine cond_split (t := (decide (x154 = 0))) (fun hc434 => ?_) (fun hc434 => ?_)
      · rw [iteT hc434] at hk371
        obtain ⟨x435, hx436, hF437⟩ := bind_some' hk371
        obtain ⟨c438, cs439, os440, hv441, hR442, hS443⟩ := SlG.opn (SlN.toG hv368 hb85 Picture.RO.len) hx436 hk_nil Picture.RO.len (Sep.m1 hS430)
        obtain ⟨v445, c446, v449, c450, hv447, hv451, rfl, rfl⟩ := hR442
        have hS444 := Sep.no2 hS443
        simp only [x41_9, run_draw, f432, d4_mv, put1d_some, d4_chk, xchk_ptr, d4_fa, Nat.reduceAdd, Nat.zero_add, Nat.add_zero, xfa_ptr, d4_ld, B0, reduceIte, reduceEqDiff]
        refine put1d_eq (v := v449) ((SlG.ld (o := 3) hv441 rfl hx436 hS444 (Nat.le_of_ble_eq_true rfl)).trans rfl) ?_
        obtain ⟨x453, hx454, hF455⟩ := bind_some' hF437
        obtain ⟨c456, cs457, os458, hv459, hR460, hS461⟩ := SlG.opn (SlN.toG hv365 hb69 Chan.RO.len) hx454 hk_nil Chan.RO.len (Sep.m3 hS444)
        obtain ⟨v463, c464, hv465, rfl, rfl⟩ := hR460
        have hS462 := Sep.no1 hS461
        simp only [f431, d4_mv, put1d_some, d4_chk, xchk_ptr, d4_fa, Nat.reduceAdd, Nat.zero_add, Nat.add_zero, xfa_ptr, d4_ld, B0, reduceIte, reduceEqDiff]
        refine put1d_eq (v := .int .i64 x453.From) ((SlG.ld (o := 0) hv459 rfl hx454 hS462 (Nat.le_of_ble_eq_true rfl)).trans rfl) ?_
        obtain ⟨x467, hx468, hF469⟩ := bind_some' hF455
        simp only [d4_ia, B0, reduceIte, reduceEqDiff]
        obtain ⟨b470, hb471⟩ := SlF.isrow hv451 (geti_ne hx468)
        refine put1d_eq (SlF.ia hv451 hb471 hx468) ?_
        simp only [d3_st, B0, reduceIte, reduceEqDiff]
        refine put2d_stF (f := cB) (x' := true) (o := 0) hv451 (Sep.m4 hS462) hW hb471 hx468 (fun _ => rfl) rfl rfl (Nat.le_of_ble_eq_true rfl) rfl
            (fun c474 h472 hv475 hS473 => ?_)
        have hx476 := geti_set (x' := true) hx468
        simp only [run_draw_nil, run_seq, run_reg, run_mv, run_ops_nil, run_ret, B0, reduceIte, reduceEqDiff]
        obtain ⟨c477, hv478, hS479⟩ := SlG.cls0 (c := c456) (os := c464) hv459 rfl hx454 hk_nil (Chan.RI (x := x453) hv465) (Sep.m2 (Sep.m2 hS473))
        have hv480 := SlG.toN hv478
        obtain ⟨c481, hv482, hS483⟩ := SlG.cls (e' := (Picture.mk x435.Taken x435.Amount x435.In (List.set x435.Closed x453.From.toNat true))) (c := c438) (os := c446 ++
            (c474)) hv441 rfl hx436 hk_nil (Picture.RI (x := (Picture.mk x435.Taken x435.Amount x435.In (List.set x435.Closed x453.From.toNat true))) hv447 hv475) (Sep.ni2
            (c1 := c446) (c2 := c474) (Sep.m3 (Sep.m3 (Sep.m1 hS479))))
        have hx484 := geti_set (x' := (Picture.mk x435.Taken x435.Amount x435.In (List.set x435.Closed x453.From.toNat true))) hx436
        have hv485 := SlG.toN hv482
        have he := some_inj hF469
        subst he
        simp only [end_ret1, B0, reduceIte, reduceEqDiff]
        exact ⟨c355, c477, c481, by first | trivial | rfl, hv356, hv480, hv485, (Sep.m3 (Sep.m3 (Sep.m1 hS483)))⟩
      rw [iteF hc434] at hk371
      simp only [run_skip, run_seq, run_reg, run_mv, run_ops_nil, run_ret, B0, reduceIte, reduceEqDiff]
      have he := some_inj hk371
      subst he
      simp only [end_ret1, B0, reduceIte, reduceEqDiff]
      exact ⟨c355, c364, c367, by first | trivial | rfl, hv356, hv365, hv368, (Sep.m3 (Sep.m3 (Sep.m1 (Sep.m1 hS430))))⟩
    rw [iteF hg291] at hF226
    simp only [hg291, run_guardd (g := 199), guardd_off, f288, hg258, run_guardd (g := 189), guardd_false, d4_pick, put1d_some, xpick_f, run_draw_nil, run_cond, cond_false,
        run_skip, x41_14, run_seq, run_reg, f284, run_mv, run_buildS, evp, B0, reduceIte, reduceEqDiff]
    refine put2_buildSF (n := 1) (f := cI) ([] : List Int) hS290 rfl rfl (fun v487 c488 h489 hv490 hS491 => ?_)
    simp only [f284, run_mv, run_chk, put1_some, xchk_ptr, run_fa, Nat.reduceAdd, Nat.zero_add, Nat.add_zero, xfa_ptr, run_ld, B0, reduceIte, reduceEqDiff]
    refine put1_eq (v := v77) ((SlG.ld (o := 2) hv73 rfl hx66 (Sep.m2 hS491) (Nat.le_of_ble_eq_true rfl)).trans rfl) ?_
    obtain ⟨l493, hx494, hF495⟩ := bind_some' hF226
    simp only [run_slc, Option.map_some, Option.map_none, B0, reduceIte, reduceEqDiff]
    obtain ⟨w496, i497, he498, hw499⟩ := SlF.win (f := cI) (ty := 3) (some (1 : Int)) none hv79 hx494 (Sep.m5 hS491)
    refine put1_eq he498 ?_
    simp only [run_app, B0, reduceIte, reduceEqDiff]
    obtain ⟨l500, hx501, hF502⟩ := bind_some' hF495
    refine put2_appF (f := cI) hv490 hS491 hW (fun _ => rfl) (fun _ => rfl) (SlW.first hw499 hv79 (Sep.m5 hS491) (fun _ => rfl)) hx501 (fun v503 c504 h505 hv506 hS507 => ?_)
    simp only [run_chk, put1_some, xchk_ptr, run_fa, Nat.reduceAdd, Nat.zero_add, Nat.add_zero, xfa_ptr, run_st, B0, reduceIte, reduceEqDiff]
    refine put2_stGx (us := [v503]) (o := 2) (cs' := [.int .i64 x65.From, .int .i64 x65.To,
        v503]) (cells_one (SlF.one hv506)) hv73 rfl hx66 (Sep.m2 hS507) hW rfl (all_c (SlF.one hv506) all_n) (Nat.le_of_ble_eq_true rfl) rfl (fun c511 h509 hv512 hS510 => ?_)
    simp only [run_ops_nil, x41_13, run_seq, run_draw, f283, d4_mv, put1d_some, d4_chk, xchk_ptr, d4_fa, Nat.reduceAdd, Nat.zero_add, Nat.add_zero, xfa_ptr, d4_ld, B0, reduceIte,
        reduceEqDiff]
    refine put1d_eq (v := pv0_0) ((xld_b (Sep.bk _ _ _ (Sep.m2 hS510))).trans rfl) ?_
    simp only [f284, d4_mv, put1d_some, d4_chk, xchk_ptr, d4_fa, Nat.reduceAdd, Nat.zero_add, Nat.add_zero, xfa_ptr, d4_ld, B0, reduceIte, reduceEqDiff]
    refine put1d_eq (v := .int .i64 x65.To) ((SlG.ld (o := 1) hv512 rfl hx66 hS510 (Nat.le_of_ble_eq_true rfl)).trans rfl) ?_
    obtain ⟨x513, hx514, hF515⟩ := bind_some' hF502
    simp only [d4_ia, B0, reduceIte, reduceEqDiff]
    obtain ⟨b516, hb517⟩ := SlF.isrow ph0_0 (geti_ne hx514)
    refine put1d_eq (SlF.ia ph0_0 hb517 hx514) ?_
    simp only [d4_ld, B0, reduceIte, reduceEqDiff]
    refine put1d_eq (v := .int .i64 x513) ((SlF.ld (o := 0) ph0_0 (Sep.m4 hS510) hb517 hx514 (fun _ => rfl) (Nat.le_of_ble_eq_true rfl)).trans rfl) ?_
    simp only [f286, d4_mv, put1d_some, d4_bin, xadd, d4_ia, B0, reduceIte, reduceEqDiff]
    refine put1d_eq (SlF.ia ph0_0 hb517 hx514) ?_
    simp only [d3_st, B0, reduceIte, reduceEqDiff]
    refine put2d_stF (f := cI) (x' := (IntKind.wrap .i64 (x513 + x154))) (o := 0) ph0_0 (Sep.m4 hS510) hW hb517 hx514 (fun _ => rfl) rfl rfl (Nat.le_of_ble_eq_true rfl) rfl
        (fun c520 h518 hv521 hS519 => ?_)
    have hx522 := geti_set (x' := (IntKind.wrap .i64 (x513 + x154))) hx514
    simp only [run_draw_nil, x41_12, run_seq, run_reg, f287, run_mv, run_ops_nil, x41_8, run_cond, B0, reduceIte, reduceEqDiff]
    obtain ⟨c523, hv524, hS525⟩ := SlG.cls (e' := (Chan.mk x65.From x65.To l500)) (c := c511) (os := c504) hv512 rfl hx66 hk_nil (Chan.RI (x :=
        (Chan.mk x65.From x65.To l500)) hv506) (Sep.m2 (Sep.m2 hS519))
    have hx526 := geti_set (x' := (Chan.mk x65.From x65.To l500)) hx66
    have hv527 := SlG.toN hv524
    obtain ⟨sv537, hX535, hk536⟩ := bind_some' hF515
    refine cond_j (t := v188) (fun fr' h' => ∃ c529 c532,
        fr' 5 = .ptr b68 (v_1.K.toNat * 3) ∧ fr' 6 = .ptr b84
        (x65.To.toNat * 4) ∧ fr' 7 = .int .i64 x154 ∧ SlN Chan.R 3 74 pv0_1 sv537.1 c529 ∧ SlN Picture.R 4 76 pv0_2 sv537.2 c532 ∧ Sep h' lo (c529 ++ (c532 ++ ([Blk1 pb0 [pv0_0,
        pv0_1, pv0_2, .int .i64 v_0.Sent, .int .i64 v_0.Total] 30] ++ (c520 ++ (S0)))))) (fun Q538 hN539 hR540 hE541 => ⟨fun hc542 => ?_, fun hc542 => ?_⟩) ?_
    · rw [iteT hc542] at hX535
      obtain ⟨c543, cs544, os545, hv546, hR547, hS548⟩ := SlG.opn (SlN.toG ph0_2 hb85 Picture.RO.len) hx82 hk_nil Picture.RO.len (Sep.m3 hS525)
      obtain ⟨v550, c551, v554, c555, hv552, hv556, rfl, rfl⟩ := hR547
      have hS549 := Sep.no2 hS548
      simp only [x41_7, run_draw, f285, d4_mv, put1d_some, d4_chk, xchk_ptr, d4_fa, Nat.reduceAdd, Nat.zero_add, Nat.add_zero, xfa_ptr, d4_ld, B0, reduceIte, reduceEqDiff]
      refine put1d_eq (v := v550) ((SlG.ld (o := 2) hv546 rfl hx82 hS549 (Nat.le_of_ble_eq_true rfl)).trans rfl) ?_
      obtain ⟨c558, cs559, os560, hv561, hR562, hS563⟩ := SlG.opn (SlN.toG hv527 hb69 Chan.RO.len) hx526 hk_nil Chan.RO.len (Sep.m3 hS549)
      obtain ⟨v565, c566, hv567, rfl, rfl⟩ := hR562
      have hS564 := Sep.no1 hS563
      simp only [f284, d4_mv, put1d_some, d4_chk, xchk_ptr, d4_fa, Nat.reduceAdd, Nat.zero_add, Nat.add_zero, xfa_ptr, d4_ld, B0, reduceIte, reduceEqDiff]
      refine put1d_eq (v := .int .i64 ((Chan.mk x65.From x65.To l500).From)) ((SlG.ld (o := 0) hv561 rfl hx526 hS564 (Nat.le_of_ble_eq_true rfl)).trans rfl) ?_
      obtain ⟨x569, hx570, hF571⟩ := bind_some' hX535
      simp only [d4_ia, B0, reduceIte, reduceEqDiff]
      obtain ⟨b572, hb573⟩ := SlF.isrow hv552 (geti_ne hx570)
      refine put1d_eq (SlF.ia hv552 hb573 hx570) ?_
      simp only [d4_ld, B0, reduceIte, reduceEqDiff]
      refine put1d_eq (v := .int .i64 x569) ((SlF.ld (o := 0) hv552 (Sep.m3 hS564) hb573 hx570 (fun _ => rfl) (Nat.le_of_ble_eq_true rfl)).trans rfl) ?_
      simp only [f286, d4_mv, put1d_some, d4_bin, xadd, d4_ia, B0, reduceIte, reduceEqDiff]
      refine put1d_eq (SlF.ia hv552 hb573 hx570) ?_
      simp only [d3_st, B0, reduceIte, reduceEqDiff]
      refine put2d_stF (f := cI) (x' := (IntKind.wrap .i64 (x569 + x154))) (o := 0) hv552 (Sep.m3 hS564) hW hb573 hx570 (fun _ => rfl) rfl rfl (Nat.le_of_ble_eq_true rfl) rfl
          (fun c576 h574 hv577 hS575 => ?_)
      have hx578 := geti_set (x' := (IntKind.wrap .i64 (x569 + x154))) hx570
      simp only [run_draw_nil, run_nil, B0, reduceIte, reduceEqDiff]
      obtain ⟨c579, hv580, hS581⟩ := SlG.cls0 (c := c558) (os := c566) hv561 rfl hx526 hk_nil (Chan.RI (x := (Chan.mk x65.From x65.To l500)) hv567) (Sep.m2 (Sep.m2 hS575))
      have hv582 := SlG.toN hv580
      obtain ⟨c583, hv584, hS585⟩ := SlG.cls (e' := (Picture.mk x81.Taken x81.Amount (List.set x81.In ((Chan.mk x65.From x65.To l500).From).toNat (IntKind.wrap .i64
          (x569 + x154))) x81.Closed)) (c := c543) (os := c576 ++ (c555)) hv546 rfl hx82 hk_nil (Picture.RI (x := (Picture.mk x81.Taken x81.Amount (List.set x81.In
          ((Chan.mk x65.From x65.To l500).From).toNat (IntKind.wrap .i64 (x569 + x154))) x81.Closed)) hv577 hv556) (Sep.ni2 (c1 := c576) (c2 := c555) (Sep.m3 (Sep.m2
          (Sep.m3 hS581))))
      have hx586 := geti_set (x' := (Picture.mk x81.Taken x81.Amount (List.set x81.In ((Chan.mk x65.From x65.To l500).From).toNat (IntKind.wrap .i64
          (x569 + x154))) x81.Closed)) hx82
      have hv587 := SlG.toN hv584
      have e588 := some_inj hF571
      subst e588
      exact hN539 _ _ ⟨c579, c583, by simp only [f284, B0, reduceIte, reduceEqDiff], by simp only [f285, B0, reduceIte, reduceEqDiff], by simp only [f286, B0, reduceIte,
          reduceEqDiff], hv582, hv587, (Sep.m3 (Sep.m2 (Sep.m3 (Sep.m2 (Sep.dc (Sep.m4 hS585))))))⟩
    · rw [iteF hc542] at hX535
      simp only [run_skip, run_nil, B0, reduceIte, reduceEqDiff]
      have e589 := some_inj hX535
      subst e589
      exact hN539 _ _ ⟨c523, pc0_2, by simp only [f284, B0, reduceIte, reduceEqDiff], by simp only [f285, B0, reduceIte, reduceEqDiff], by simp only [f286, B0, reduceIte,
          reduceEqDiff], hv527, ph0_2, (Sep.m3 (Sep.m3 (Sep.m2 (Sep.m1 (Sep.dc (Sep.m4 hS525))))))⟩
    rintro fr590 h591 ⟨c529, c532, f593, f594, f595, hv530, hv533, hS592⟩
    obtain ⟨s528, s531⟩ := sv537
    dsimp only at *
    unfold impl_Snap_step_j2 at hk536
    simp only [x41_11, run_seq, run_reg, f595, run_mv, run_bin, put1_some, xeql, run_ops_nil, x41_10, run_cond, B0, reduceIte, reduceEqDiff]
    refine cond_split (t := (decide (x154 = 0))) (fun hc596 => ?_) (fun hc596 => ?_)
    · rw [iteT hc596] at hk536
      obtain ⟨x597, hx598, hF599⟩ := bind_some' hk536
      obtain ⟨c600, cs601, os602, hv603, hR604, hS605⟩ := SlG.opn (SlN.toG hv533 hb85 Picture.RO.len) hx598 hk_nil Picture.RO.len (Sep.m1 hS592)
      obtain ⟨v607, c608, v611, c612, hv609, hv613, rfl, rfl⟩ := hR604
      have hS606 := Sep.no2 hS605
      simp only [x41_9, run_draw, f594, d4_mv, put1d_some, d4_chk, xchk_ptr, d4_fa, Nat.reduceAdd, Nat.zero_add, Nat.add_zero, xfa_ptr, d4_ld, B0, reduceIte, reduceEqDiff]
      refine put1d_eq (v := v611) ((SlG.ld (o := 3) hv603 rfl hx598 hS606 (Nat.le_of_ble_eq_true rfl)).trans rfl) ?_
      obtain ⟨x615, hx616, hF617⟩ := bind_some' hF599
      obtain ⟨c618, cs619, os620, hv621, hR622, hS623⟩ := SlG.opn (SlN.toG hv530 hb69 Chan.RO.len) hx616 hk_nil Chan.RO.len (Sep.m3 hS606)
      obtain ⟨v625, c626, hv627, rfl, rfl⟩ := hR622
      have hS624 := Sep.no1 hS623
      simp only [f593, d4_mv, put1d_some, d4_chk, xchk_ptr, d4_fa, Nat.reduceAdd, Nat.zero_add, Nat.add_zero, xfa_ptr, d4_ld, B0, reduceIte, reduceEqDiff]
      refine put1d_eq (v := .int .i64 x615.From) ((SlG.ld (o := 0) hv621 rfl hx616 hS624 (Nat.le_of_ble_eq_true rfl)).trans rfl) ?_
      obtain ⟨x629, hx630, hF631⟩ := bind_some' hF617
      simp only [d4_ia, B0, reduceIte, reduceEqDiff]
      obtain ⟨b632, hb633⟩ := SlF.isrow hv613 (geti_ne hx630)
      refine put1d_eq (SlF.ia hv613 hb633 hx630) ?_
      simp only [d3_st, B0, reduceIte, reduceEqDiff]
      refine put2d_stF (f := cB) (x' := true) (o := 0) hv613 (Sep.m4 hS624) hW hb633 hx630 (fun _ => rfl) rfl rfl (Nat.le_of_ble_eq_true rfl) rfl (fun c636 h634 hv637 hS635 => ?_)
      have hx638 := geti_set (x' := true) hx630
      simp only [run_draw_nil, run_seq, run_reg, run_mv, run_ops_nil, run_ret, B0, reduceIte, reduceEqDiff]
      obtain ⟨c639, hv640, hS641⟩ := SlG.cls0 (c := c618) (os := c626) hv621 rfl hx616 hk_nil (Chan.RI (x := x615) hv627) (Sep.m2 (Sep.m2 hS635))
      have hv642 := SlG.toN hv640
      obtain ⟨c643, hv644, hS645⟩ := SlG.cls (e' := (Picture.mk x597.Taken x597.Amount x597.In (List.set x597.Closed x615.From.toNat true))) (c := c600) (os := c608 ++
          (c636)) hv603 rfl hx598 hk_nil (Picture.RI (x := (Picture.mk x597.Taken x597.Amount x597.In (List.set x597.Closed x615.From.toNat true))) hv609 hv637) (Sep.ni2
          (c1 := c608) (c2 := c636) (Sep.m3 (Sep.m3 (Sep.m1 hS641))))
      have hx646 := geti_set (x' := (Picture.mk x597.Taken x597.Amount x597.In (List.set x597.Closed x615.From.toNat true))) hx598
      have hv647 := SlG.toN hv644
      have he := some_inj hF631
      subst he
      simp only [end_ret1, B0, reduceIte, reduceEqDiff]
      exact ⟨c520, c639, c643, by first | trivial | rfl, hv521, hv642, hv647, (Sep.m3 (Sep.m3 (Sep.m1 hS645)))⟩
    rw [iteF hc596] at hk536
    simp only [run_skip, run_seq, run_reg, run_mv, run_ops_nil, run_ret, B0, reduceIte, reduceEqDiff]
    have he := some_inj hk536
    subst he
    simp only [end_ret1, B0, reduceIte, reduceEqDiff]
    exact ⟨c520, c529, c532, by first | trivial | rfl, hv521, hv530, hv533, (Sep.m3 (Sep.m3 (Sep.m1 (Sep.m1 hS592))))⟩
  rw [iteF hc148] at hF83
  simp only [run_skip, run_blk, run_seq, run_reg, run_mv, run_ops_nil, run_ret, B0, reduceIte, reduceEqDiff]
  obtain ⟨c649, hv650, hS651⟩ := SlG.cls0 (c := c70) (os := c78) hv73 rfl hx66 hk_nil (Chan.RI (x := x65) hv79) (Sep.m1 (Sep.m1 hS76))
  have hv652 := SlG.toN hv650
  have he := some_inj hF83
  subst he
  simp only [end_ret1, B0, reduceIte, reduceEqDiff]
  exact ⟨pc0_0, c649, pc0_2, by first | trivial | rfl, ph0_0, hv652, ph0_2, (Sep.m3 (Sep.m3 (Sep.m1 (Sep.m3 hS651))))⟩
end Go.Proofs.Ytpkiieniipenjaa.X
