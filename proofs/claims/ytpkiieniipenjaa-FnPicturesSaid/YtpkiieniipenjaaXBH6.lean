/- The functions' code comes to what the plain functions say (6). -/
import Derived.Test.YtpkiieniipenjaaXBH5
set_option linter.unusedVariables false
set_option linter.unusedSimpArgs false
set_option maxRecDepth 100000
namespace Go.Proofs.Ytpkiieniipenjaa.X
open Go
open Nat (reduceEqDiff)
theorem laws_FnPictures_x {W : Nat → Bool} {h : Heap} (hW : ∀ b,
    (geL h.length) b → W b = true) (k : Nat) (v_0 : List Int) (r : Bool) (hF : laws_FnPictures k v_0 = some r) : Ret E W 3 [lst cU8 v_0] h
    (fun v h' => cut h.length h' E.sz false 9 v = some (.bool r)) := by
  refine Ret.of (fn := x3) rfl (Run.of ?_)
  unfold laws_FnPictures at hF
  have zf0 : argFr [lst cU8 v_0] 0 = lst cU8 v_0 := rfl
  generalize argFr [lst cU8 v_0] = fr0 at zf0 ⊢
  have hS : Sep h (geL h.length) [] := Sep.nil h
  simp only [x3, run_seq, run_reg, run_mv, run_ops_nil, x3_24, zf0, run_len, put1_some, xlen_lst, run_bin, xgtr, run_cond, B0, reduceIte, reduceEqDiff]
  refine cond_split (t := (decide ((1048576 : Int) < (List.length v_0 : Int)))) (fun hc1 => ?_) (fun hc1 => ?_)
  · rw [iteT hc1] at hF
    simp only [run_seq, run_reg, run_mv, run_ops_nil, run_ret, B0, reduceIte, reduceEqDiff]
    have he := some_inj hF
    subst he
    simp only [end_ret1, B0, reduceIte, reduceEqDiff]
    exact rfl
  rw [iteF hc1] at hF
  obtain ⟨v2, hx3, hF4⟩ := bind_some' hF
  simp only [run_skip, x3_23, run_seq, run_reg, zf0, run_mv, run_call, B0, reduceIte, reduceEqDiff]
  refine call2 rfl hS (mapM1 snap_lst mapM0) (spec_DrawPlaySnap_x (fun b hb => decide_eq_true hb) k v_0 v2 hx3) ?_
  rintro _ h9 ⟨v5, c6, rfl, hv7, hS10⟩
  refine ⟨_, free_t (all_c rfl (all_c rfl (all_c (free2_1 (SlF.free1 hv7)) all_n))), hS10, (pf_app (SlF.pf hv7 (fun _ => rfl)) pf_nil), fun h11 hS12 => ?_⟩
  have hS13 : Sep h11 (geL h.length) (c6 ++ ([])) := by simpa only [List.append_assoc, List.nil_append] using hS12
  obtain ⟨v14, hx15, hF16⟩ := bind_some' hF4
  simp only [run_mv, run_ext, put1_some, xext_0, xext_1, xext_2, run_ops_nil, x3_22, run_seq, run_reg, run_call, B0, reduceIte, reduceEqDiff]
  refine call2 rfl hS13 (mapM1 snap_int (mapM1 snap_int (mapM1 (SlF.snap hv7 hS13 rfl (fun _ => rfl) (fun _ => rfl)) mapM0))) (impl_PlaySnap_x
      (fun b hb => decide_eq_true hb) v2.1 v2.2.1 v2.2.2 v14 hx15) ?_
  rintro _ h33 ⟨v17, c18, v21, c22, v25, c26, v29, c30, rfl, hv19, hv23, hv27, hv31, hS34⟩
  refine ⟨_, free_t (all_c (free2_a (all_c (SlF.free1 hv19) (all_c (SlN.free1 hv23) (all_c (SlN.free1 hv27) (all_c rfl (all_c rfl all_n)))))) (all_c (free2_1 (SlF.free1 hv31))
      (all_c rfl all_n))), hS34, (pf_app (SlF.pf hv19 (fun _ => rfl)) (pf_app (SlN.pf hv23 Chan.RO) (pf_app (SlN.pf hv27 Picture.RO) (pf_app (SlF.pf hv31
      (fun _ => rfl)) pf_nil)))), fun h35 hS36 => ?_⟩
  have hS37 : Sep h35 (geL h.length) (c18 ++ (c22 ++ (c26 ++ (c30 ++ (c6 ++ ([])))))) := by simpa only [List.append_assoc, List.nil_append] using hS36
  simp only [run_mv, run_ext, put1_some, xext_0, xext_1, xext_2, run_new, B0, reduceIte, reduceEqDiff]
  refine put2_newC hS37 (fun b38 h39 hS40 => ?_)
  simp only [run_st, B0, reduceIte, reduceEqDiff]
  refine put2_stCx (us := [v17, v21, v25, .int .i64 v14.1.Sent, .int .i64 v14.1.Total]) rfl (cs' := [v17, v21, v25, .int .i64 v14.1.Sent,
      .int .i64 v14.1.Total]) hS40 hW rfl (all_c (SlF.one hv19) (all_c (SlN.one hv23) (all_c (SlN.one hv27) (all_c rfl (all_c rfl all_n))))) (Nat.le_of_ble_eq_true rfl) rfl
      (fun h42 hS43 => ?_)
  simp only [run_mv, run_ops_nil, B0, reduceIte, reduceEqDiff]
  refine frz_stepC hS43 hW (by simp only [B0, reduceIte, reduceEqDiff]) (fun h44 hS45 => ?_)
  obtain ⟨v46, hx47, hF48⟩ := bind_some' hF16
  simp only [run_frz_nil, x3_21, run_seq, run_reg, run_mv, run_call, B0, reduceIte, reduceEqDiff]
  refine call2 rfl hS45 (mapM1 snap_int (mapM1 snap_int (mapM1 (SlF.snap hv7 (Sep.m4 hS45) rfl (fun _ => rfl) (fun _ => rfl)) mapM0))) (spec_PlaySnap_x
      (fun b hb => decide_eq_true hb) k v2.1 v2.2.1 v2.2.2 v46 hx47) ?_
  rintro _ h65 ⟨v49, c50, v53, c54, v57, c58, v61, c62, rfl, hv51, hv55, hv59, hv63, hS66⟩
  refine ⟨_, free_t (all_c (free2_a (all_c (SlF.free1 hv51) (all_c (SlN.free1 hv55) (all_c (SlN.free1 hv59) (all_c rfl (all_c rfl all_n)))))) (all_c (free2_1 (SlF.free1 hv63))
      (all_c rfl all_n))), hS66, (pf_app (SlF.pf hv51 (fun _ => rfl)) (pf_app (SlN.pf hv55 Chan.RO) (pf_app (SlN.pf hv59 Picture.RO) (pf_app (SlF.pf hv63
      (fun _ => rfl)) pf_nil)))), fun h67 hS68 => ?_⟩
  have hS69 : Sep h67 (geL h.length) (c50 ++ (c54 ++ (c58 ++ (c62 ++ (c18 ++ (c22 ++ (c26 ++ (c30 ++ (c6 ++ ([])))))))))) := by simpa only [List.append_assoc,
      List.nil_append] using hS68
  simp only [run_mv, run_ext, put1_some, xext_0, xext_1, xext_2, run_new, B0, reduceIte, reduceEqDiff]
  refine put2_newC hS69 (fun b70 h71 hS72 => ?_)
  simp only [run_st, B0, reduceIte, reduceEqDiff]
  refine put2_stCx (us := [v49, v53, v57, .int .i64 v46.1.Sent, .int .i64 v46.1.Total]) rfl (cs' := [v49, v53, v57, .int .i64 v46.1.Sent,
      .int .i64 v46.1.Total]) hS72 hW rfl (all_c (SlF.one hv51) (all_c (SlN.one hv55) (all_c (SlN.one hv59) (all_c rfl (all_c rfl all_n))))) (Nat.le_of_ble_eq_true rfl) rfl
      (fun h74 hS75 => ?_)
  simp only [run_mv, run_ops_nil, B0, reduceIte, reduceEqDiff]
  refine frz_stepC hS75 hW (by simp only [B0, reduceIte, reduceEqDiff]) (fun h76 hS77 => ?_)
  simp only [run_frz_nil, x3_20, run_seq, run_reg, run_mv, run_eqb, put1_some, xeqb_t, B0, reduceIte, reduceEqDiff]
  obtain ⟨v81, hx82, hF83⟩ := bind_some' hF48
  refine ops_j 5 (fun fr' h' => Sep h' (geL h.length) (c18 ++ (c22 ++ (c26 ++ (c30 ++ (c50 ++ (c54 ++ (c58 ++
      ([])))))))) ∧ fr' 59 = .bool v81 ∧ fr' 3 = .int .i64 v2.1 ∧ fr' 4 = .int .i64 v2.2.1 ∧ fr' 6 = .ref [v17, v21, v25, .int .i64 v14.1.Sent,
      .int .i64 v14.1.Total] 0 ∧ fr' 7 = v29 ∧ fr' 8 = .bool v14.2.2 ∧ fr' 9 = .ref [v49, v53, v57, .int .i64 v46.1.Sent, .int .i64 v46.1.Total] 0) (fun Q78 hN79 => ?_) ?_
  · simp only [List.take_succ_cons, List.take_zero]
    simp only [run_guard (g := 54), B0, reduceIte, reduceEqDiff]
    refine guard_split (t := (!(v14.2.2 == v46.2.2))) (fun hg80 => ?_) (fun hg80 => ?_)
    · rw [iteT hg80] at hx82
      simp only [hg80, run_guard (g := 54), guard_off', run_pick, put1_some, xpick_t, run_ops_nil, run_nil, B0, reduceIte, reduceEqDiff]
      have e84 := some_inj hx82
      exact hN79 _ _ ⟨(Sep.m6 (Sep.m6 (Sep.m6 (Sep.m6 (Sep.m2 (Sep.m2 (Sep.m2 (Sep.dc (Sep.m7 (Sep.dc (Sep.m3 hS77))))))))))), by rw [← e84]; simp only [B0, reduceIte,
          reduceEqDiff], rfl, rfl, rfl, rfl, rfl, rfl⟩
    · rw [iteF hg80] at hx82
      obtain ⟨v85, hx86, hF87⟩ := bind_some' hx82
      simp only [hg80, run_guard (g := 54), guard_false, run_mv, run_call, B0, reduceIte, reduceEqDiff]
      refine call1 rfl (mapM1 (SlF.snap hv31 (Sep.m7 hS77) rfl (fun _ => rfl) (fun _ => rfl)) (mapM1 (SlF.snap hv63 (Sep.m3 hS77) rfl (fun _ => rfl) (fun _ => rfl)) mapM0))
          (laws_sameBools_x (fun b hb => decide_eq_true hb) v14.2.1 v46.2.1 v85 hx86) ?_
      simp only [hg80, run_guard (g := 54), guard_false, run_un, put1_some, xnot, run_pick, xpick_f, run_ops_nil, run_nil, B0, reduceIte, reduceEqDiff]
      have e88 := some_inj hF87
      exact hN79 _ _ ⟨(Sep.m6 (Sep.m6 (Sep.m6 (Sep.m6 (Sep.m2 (Sep.m2 (Sep.m2 (Sep.dc (Sep.m7 (Sep.dc (Sep.m3 hS77))))))))))), by rw [← e88]; simp only [B0, reduceIte,
          reduceEqDiff], rfl, rfl, rfl, rfl, rfl, rfl⟩
  rintro fr89 h97 ⟨hS98, f90, f91, f92, f93, f94, f95, f96⟩
  simp only [List.drop_succ_cons, List.drop_zero]
  simp only [f90, run_mv, B0, reduceIte, reduceEqDiff]
  obtain ⟨v102, hx103, hF104⟩ := bind_some' hF83
  refine ops_j 5 (fun fr' h' => Sep h' (geL h.length) (c18 ++ (c22 ++ (c26 ++ (c30 ++
      ([]))))) ∧ fr' 65 = .bool v102 ∧ fr' 3 = .int .i64 v2.1 ∧ fr' 4 = .int .i64 v2.2.1 ∧ fr' 6 = .ref [v17, v21, v25, .int .i64 v14.1.Sent,
      .int .i64 v14.1.Total] 0 ∧ fr' 7 = v29 ∧ fr' 8 = .bool v14.2.2) (fun Q99 hN100 => ?_) ?_
  · simp only [List.take_succ_cons, List.take_zero]
    simp only [run_guard (g := 60), B0, reduceIte, reduceEqDiff]
    refine guard_split (t := v81) (fun hg101 => ?_) (fun hg101 => ?_)
    · rw [iteT hg101] at hx103
      simp only [hg101, run_guard (g := 60), guard_off', run_pick, put1_some, xpick_t, run_ops_nil, run_nil, B0, reduceIte, reduceEqDiff]
      have e105 := some_inj hx103
      exact hN100 _ _ ⟨(Sep.m3 (Sep.m3 (Sep.m3 (Sep.m3 (Sep.dc (Sep.m4 (Sep.dc (Sep.m4 (Sep.dc (Sep.m4 hS98)))))))))), by rw [← e105]; simp only [B0, reduceIte, reduceEqDiff],
          f91, f92, f93, f94, f95⟩
    · rw [iteF hg101] at hx103
      simp only [hg101, run_guard (g := 60), guard_false, f93, run_ld, B0, reduceIte, reduceEqDiff]
      refine put1_eq (v := .agg [v17, v21, v25, .int .i64 v14.1.Sent, .int .i64 v14.1.Total]) rfl ?_
      simp only [hg101, run_guard (g := 60), guard_false, f96, run_ld, B0, reduceIte, reduceEqDiff]
      refine put1_eq (v := .agg [v49, v53, v57, .int .i64 v46.1.Sent, .int .i64 v46.1.Total]) rfl ?_
      obtain ⟨v106, hx107, hF108⟩ := bind_some' hx103
      simp only [hg101, run_guard (g := 60), guard_false, run_call, B0, reduceIte, reduceEqDiff]
      refine call1 rfl (mapM1 (snap_agg (mapM1 (SlF.snap hv19 hS98 rfl (fun _ => rfl) (fun _ => rfl)) (mapM1 (SlN.snap hv23 _ (Sep.m1 hS98) rfl Chan.RO) (mapM1 (SlN.snap hv27 _
          (Sep.m2 hS98) rfl Picture.RO) (mapM1 snap_int (mapM1 snap_int mapM0)))))) (mapM1 (snap_agg (mapM1 (SlF.snap hv51 (Sep.m4 hS98) rfl (fun _ => rfl) (fun _ => rfl)) (mapM1
          (SlN.snap hv55 _ (Sep.m5 hS98) rfl Chan.RO) (mapM1 (SlN.snap hv59 _ (Sep.m6 hS98) rfl Picture.RO) (mapM1 snap_int (mapM1 snap_int mapM0)))))) mapM0)) (laws_sameSnaps_x
          (fun b hb => decide_eq_true hb) v14.1 v46.1 v106 hx107) ?_
      simp only [hg101, run_guard (g := 60), guard_false, run_un, put1_some, xnot, run_pick, xpick_f, run_ops_nil, run_nil, B0, reduceIte, reduceEqDiff]
      have e109 := some_inj hF108
      exact hN100 _ _ ⟨(Sep.m3 (Sep.m3 (Sep.m3 (Sep.m3 (Sep.dc (Sep.m4 (Sep.dc (Sep.m4 (Sep.dc (Sep.m4 hS98)))))))))), by rw [← e109]; simp only [B0, reduceIte, reduceEqDiff],
          f91, f92, f93, f94, f95⟩
  rintro fr110 h117 ⟨hS118, f111, f112, f113, f114, f115, f116⟩
  simp only [List.drop_succ_cons, List.drop_zero]
  simp only [run_ops_nil, f111, run_cond, B0, reduceIte, reduceEqDiff]
  refine cond_split (t := v102) (fun hc119 => ?_) (fun hc119 => ?_)
  · rw [iteT hc119] at hF104
    simp only [run_seq, run_reg, run_mv, run_ops_nil, run_ret, B0, reduceIte, reduceEqDiff]
    have he := some_inj hF104
    subst he
    simp only [end_ret1, B0, reduceIte, reduceEqDiff]
    exact rfl
  rw [iteF hc119] at hF104
  simp only [run_skip, x3_19, run_seq, run_reg, f116, run_mv, run_un, put1_some, xnot, run_ops_nil, x3_2, run_cond, B0, reduceIte, reduceEqDiff]
  refine cond_split (t := (!v14.2.2)) (fun hc120 => ?_) (fun hc120 => ?_)
  · rw [iteT hc120] at hF104
    simp only [x3_1, run_seq, run_reg, f115, run_mv, run_len, put1_some, SlF.plen hv31, run_bin, xeql, run_ops_nil, run_ret, B0, reduceIte, reduceEqDiff]
    have he := some_inj hF104
    subst he
    simp only [end_ret1, B0, reduceIte, reduceEqDiff]
    exact rfl
  rw [iteF hc120] at hF104
  simp only [run_skip, x3_18, run_seq, run_reg, f114, run_ld, B0, reduceIte, reduceEqDiff]
  refine put1_eq (v := .agg [v17, v21, v25, .int .i64 v14.1.Sent, .int .i64 v14.1.Total]) rfl ?_
  obtain ⟨v121, hx122, hF123⟩ := bind_some' hF104
  simp only [run_call, B0, reduceIte, reduceEqDiff]
  refine call1 rfl (mapM1 (snap_agg (mapM1 (SlF.snap hv19 hS118 rfl (fun _ => rfl) (fun _ => rfl)) (mapM1 (SlN.snap hv23 _ (Sep.m1 hS118) rfl Chan.RO) (mapM1 (SlN.snap hv27 _
      (Sep.m2 hS118) rfl Picture.RO) (mapM1 snap_int (mapM1 snap_int mapM0)))))) mapM0) (impl_OnWay_x (fun b hb => decide_eq_true hb) k v14.1 v121 hx122) ?_
  simp only [run_mv, run_ext, put1_some, xext_0, xext_1, run_ops_nil, x3_17, run_seq, run_reg, x3_16, f114, run_fa, Nat.reduceAdd, Nat.zero_add, Nat.add_zero, xfa_ref, run_ld, B0,
      reduceIte, reduceEqDiff]
  refine put1_eq (v := v17) rfl ?_
  simp only [run_len, put1_some, SlF.plen hv19, run_mv, run_ops_nil, B0, reduceIte, reduceEqDiff]
  obtain ⟨oc128, hX130, hk131⟩ := jn_some hF123
  simp only [x3_6]
  refine rangeN_j (σ := Int) (fun i126 s158 => laws_FnPictures_b1 v14 i126 s158) (fun s fr' h' => fr' 3 = .int .i64 v2.1 ∧ fr' 4 = .int .i64 v2.2.1 ∧ fr' 6 = .ref [v17, v21, v25,
      .int .i64 v14.1.Sent, .int .i64 v14.1.Total] 0 ∧ fr' 13 = .bool v121.2 ∧ fr' 14 = .int .i64 s ∧ fr' 78 = v17 ∧ Sep h' (geL h.length) (c18 ++ (c22 ++ (c26 ++
      ([]))))) hX130 ⟨f112, f113, f114, rfl, rfl, rfl, (Sep.m2 (Sep.m2 (Sep.m2 (Sep.dc (Sep.m3 hS118)))))⟩ (by simp only [B0, reduceIte, reduceEqDiff]) (by simp only [B0,
      reduceIte, reduceEqDiff]) (fun _ _ _ h => h) rfl rfl (fun _ _ _ _ h => h) (fun _ _ _ _ h => h) (fun _ _ _ _ h => h) (by decide) ?_ ?_
  · rintro i126 s125 fr140 h141 hx149 ⟨f143, f144, f145, f146, f147, f148, hS142⟩ f150 f151 oc129 hF132 hr133 Q134 hN135 hB139 hK136 hR137 hE138
    unfold laws_FnPictures_b1 at hF132
    obtain ⟨x152, hx153, hF154⟩ := bind_some' hF132
    simp only [x3_4, run_seq, run_reg, f148, f150, run_ia, B0, reduceIte, reduceEqDiff]
    obtain ⟨b155, hb156⟩ := SlF.isrow hv19 (geti_ne hx153)
    refine put1_eq (SlF.ia hv19 hb156 hx153) ?_
    simp only [run_ld, B0, reduceIte, reduceEqDiff]
    refine put1_eq (v := .int .i64 x152) ((SlF.ld (o := 0) hv19 hS142 hb156 hx153 (fun _ => rfl) (Nat.le_of_ble_eq_true rfl)).trans rfl) ?_
    simp only [run_mv, run_ops_nil, x3_3, run_reg, f147, run_bin, put1_some, xadd, run_nil, B0, reduceIte, reduceEqDiff]
    have e157 := some_inj hF154
    exact hN135 _ _ _ e157.symm ⟨f143, f144, f145, f146, rfl, f148, (Sep.m2 (Sep.m2 (Sep.m2 hS142)))⟩ (f150) (f151)
  rintro s159 fr160 h161 rfl ⟨f163, f164, f165, f166, f167, f168, hS162⟩
  dsimp only [jnO] at hk131
  unfold laws_FnPictures_j1 at hk131
  simp only [x3_15, run_seq, run_reg, f165, run_ld, B0, reduceIte, reduceEqDiff]
  refine put1_eq (v := .agg [v17, v21, v25, .int .i64 v14.1.Sent, .int .i64 v14.1.Total]) rfl ?_
  obtain ⟨v169, hx170, hF171⟩ := bind_some' hk131
  simp only [run_call, B0, reduceIte, reduceEqDiff]
  refine call1 rfl (mapM1 (snap_agg (mapM1 (SlF.snap hv19 hS162 rfl (fun _ => rfl) (fun _ => rfl)) (mapM1 (SlN.snap hv23 _ (Sep.m1 hS162) rfl Chan.RO) (mapM1 (SlN.snap hv27 _
      (Sep.m2 hS162) rfl Picture.RO) (mapM1 snap_int (mapM1 snap_int mapM0)))))) mapM0) (impl_GoodSnap_x (fun b hb => decide_eq_true hb) k v14.1 v169 hx170) ?_
  simp only [run_un, put1_some, xnot, run_mv, B0, reduceIte, reduceEqDiff]
  refine ops_j 3 (fun fr' h' => Sep h' (geL h.length) (c18 ++ (c22 ++ (c26 ++ ([])))) ∧ fr' 94 = .bool ((!v169) ||
      (!v121.2)) ∧ fr' 3 = .int .i64 v2.1 ∧ fr' 4 = .int .i64 v2.2.1 ∧ fr' 6 = .ref [v17, v21, v25, .int .i64 v14.1.Sent,
      .int .i64 v14.1.Total] 0 ∧ fr' 14 = .int .i64 s159) (fun Q172 hN173 => ?_) ?_
  · simp only [List.take_succ_cons, List.take_zero]
    simp only [run_guard (g := 91), B0, reduceIte, reduceEqDiff]
    refine guard_split (t := (!v169)) (fun hg174 => ?_) (fun hg174 => ?_)
    · simp only [hg174, run_guard (g := 91), guard_off', run_pick, put1_some, xpick_t, run_ops_nil, run_nil, B0, reduceIte, reduceEqDiff]
      exact hN173 _ _ ⟨(Sep.m2 (Sep.m2 (Sep.m2 hS162))), by rw [orT hg174]; simp only [B0, reduceIte, reduceEqDiff], f163, f164, f165, f167⟩
    · simp only [hg174, run_guard (g := 91), guard_false, f166, run_mv, run_un, put1_some, xnot, run_pick, xpick_f, run_ops_nil, run_nil, B0, reduceIte, reduceEqDiff]
      exact hN173 _ _ ⟨(Sep.m2 (Sep.m2 (Sep.m2 hS162))), by rw [orF hg174]; simp only [B0, reduceIte, reduceEqDiff], f163, f164, f165, f167⟩
  rintro fr175 h181 ⟨hS182, f176, f177, f178, f179, f180⟩
  simp only [List.drop_succ_cons, List.drop_zero]
  simp only [f176, run_mv, B0, reduceIte, reduceEqDiff]
  refine ops_j 6 (fun fr' h' => Sep h' (geL h.length) (c18 ++ (c22 ++ (c26 ++ ([])))) ∧ fr' 101 = .bool (((!v169) || (!v121.2)) || (decide (s159 ≠ (IntKind.wrap .i64
      (v2.1 * v2.2.1))))) ∧ fr' 6 = .ref [v17, v21, v25, .int .i64 v14.1.Sent, .int .i64 v14.1.Total] 0 ∧ fr' 14 = .int .i64 s159) (fun Q183 hN184 => ?_) ?_
  · simp only [List.take_succ_cons, List.take_zero]
    simp only [run_guard (g := 95), B0, reduceIte, reduceEqDiff]
    refine guard_split (t := ((!v169) || (!v121.2))) (fun hg185 => ?_) (fun hg185 => ?_)
    · simp only [hg185, run_guard (g := 95), guard_off', run_pick, put1_some, xpick_t, run_ops_nil, run_nil, B0, reduceIte, reduceEqDiff]
      exact hN184 _ _ ⟨(Sep.m2 (Sep.m2 (Sep.m2 hS182))), by rw [orT hg185]; simp only [B0, reduceIte, reduceEqDiff], f179, f180⟩
    · simp only [hg185, run_guard (g := 95), guard_false, f180, run_mv, f177, f178, run_bin, put1_some, xmul, xneq, run_pick, xpick_f, run_ops_nil, run_nil, B0, reduceIte,
        reduceEqDiff]
      exact hN184 _ _ ⟨(Sep.m2 (Sep.m2 (Sep.m2 hS182))), by rw [orF hg185]; simp only [B0, reduceIte, reduceEqDiff], f179, f180⟩
  rintro fr186 h190 ⟨hS191, f187, f188, f189⟩
  simp only [List.drop_succ_cons, List.drop_zero]
  simp only [f187, run_mv, B0, reduceIte, reduceEqDiff]
  refine ops_j 5 (fun fr' h' => Sep h' (geL h.length) (c18 ++ (c22 ++ (c26 ++ ([])))) ∧ fr' 107 = .bool ((((!v169) || (!v121.2)) || (decide (s159 ≠ (IntKind.wrap .i64
      (v2.1 * v2.2.1))))) || (decide (v14.1.Total ≠ s159))) ∧ fr' 6 = .ref [v17, v21, v25, .int .i64 v14.1.Sent, .int .i64 v14.1.Total] 0) (fun Q192 hN193 => ?_) ?_
  · simp only [List.take_succ_cons, List.take_zero]
    simp only [run_guard (g := 102), B0, reduceIte, reduceEqDiff]
    refine guard_split (t := (((!v169) || (!v121.2)) || (decide (s159 ≠ (IntKind.wrap .i64 (v2.1 * v2.2.1)))))) (fun hg194 => ?_) (fun hg194 => ?_)
    · simp only [hg194, run_guard (g := 102), guard_off', run_pick, put1_some, xpick_t, run_ops_nil, run_nil, B0, reduceIte, reduceEqDiff]
      exact hN193 _ _ ⟨(Sep.m2 (Sep.m2 (Sep.m2 hS191))), by rw [orT hg194]; simp only [B0, reduceIte, reduceEqDiff], f188⟩
    · simp only [hg194, run_guard (g := 102), guard_false, f188, run_fa, put1_some, Nat.reduceAdd, Nat.zero_add, Nat.add_zero, xfa_ref, run_ld, B0, reduceIte, reduceEqDiff]
      refine put1_eq (v := .int .i64 v14.1.Total) rfl ?_
      simp only [hg194, run_guard (g := 102), guard_false, f189, run_mv, run_bin, put1_some, xneq, run_pick, xpick_f, run_ops_nil, run_nil, B0, reduceIte, reduceEqDiff]
      exact hN193 _ _ ⟨(Sep.m2 (Sep.m2 (Sep.m2 hS191))), by rw [orF hg194]; simp only [B0, reduceIte, reduceEqDiff], f188⟩
  rintro fr195 h198 ⟨hS199, f196, f197⟩
  simp only [List.drop_succ_cons, List.drop_zero]
  simp only [run_ops_nil, f196, run_cond, B0, reduceIte, reduceEqDiff]
  refine cond_split (t := ((((!v169) || (!v121.2)) || (decide (s159 ≠ (IntKind.wrap .i64 (v2.1 * v2.2.1))))) || (decide (v14.1.Total ≠ s159)))) (fun hc200 => ?_) (fun hc200 => ?_)
  · rw [iteT hc200] at hF171
    simp only [run_seq, run_reg, run_mv, run_ops_nil, run_ret, B0, reduceIte, reduceEqDiff]
    have he := some_inj hF171
    subst he
    simp only [end_ret1, B0, reduceIte, reduceEqDiff]
    exact rfl
  rw [iteF hc200] at hF171
  simp only [run_skip, x3_14, run_seq, run_reg, f197, run_ld, B0, reduceIte, reduceEqDiff]
  refine put1_eq (v := .agg [v17, v21, v25, .int .i64 v14.1.Sent, .int .i64 v14.1.Total]) rfl ?_
  obtain ⟨v201, hx202, hF203⟩ := bind_some' hF171
  simp only [run_call, B0, reduceIte, reduceEqDiff]
  refine call1 rfl (mapM1 (snap_agg (mapM1 (SlF.snap hv19 hS199 rfl (fun _ => rfl) (fun _ => rfl)) (mapM1 (SlN.snap hv23 _ (Sep.m1 hS199) rfl Chan.RO) (mapM1 (SlN.snap hv27 _
      (Sep.m2 hS199) rfl Picture.RO) (mapM1 snap_int (mapM1 snap_int mapM0)))))) mapM0) (impl_PictureOf_x (fun b hb => decide_eq_true hb) k v14.1 v201 hx202) ?_
  simp only [run_mv, run_ext, put1_some, xext_0, xext_1, run_ops_nil, x3_7, run_seq, run_reg, B0, reduceIte, reduceEqDiff]
  refine ops_j 5 (fun fr' h' => Sep h' (geL h.length) (c18 ++ (c22 ++ (c26 ++ ([])))) ∧ fr' 119 = .bool (v201.2 && (decide (v201.1 ≠ v14.1.Total))) ∧ fr' 6 = .ref [v17, v21, v25,
      .int .i64 v14.1.Sent, .int .i64 v14.1.Total] 0) (fun Q204 hN205 => ?_) ?_
  · simp only [List.take_succ_cons, List.take_zero]
    simp only [run_guard (g := 114), B0, reduceIte, reduceEqDiff]
    refine guard_split (t := v201.2) (fun hg206 => ?_) (fun hg206 => ?_)
    · simp only [hg206, run_guard (g := 114), guard_true, run_mv, f197, run_fa, put1_some, Nat.reduceAdd, Nat.zero_add, Nat.add_zero, xfa_ref, run_ld, B0, reduceIte, reduceEqDiff]
      refine put1_eq (v := .int .i64 v14.1.Total) rfl ?_
      simp only [hg206, run_guard (g := 114), guard_true, run_bin, put1_some, xneq, run_pick, xpick_t, run_ops_nil, run_nil, B0, reduceIte, reduceEqDiff]
      exact hN205 _ _ ⟨(Sep.m2 (Sep.m2 (Sep.m2 hS199))), by rw [andT hg206]; simp only [B0, reduceIte, reduceEqDiff], f197⟩
    · simp only [hg206, run_guard (g := 114), guard_off, run_pick, put1_some, xpick_f, run_ops_nil, run_nil, B0, reduceIte, reduceEqDiff]
      exact hN205 _ _ ⟨(Sep.m2 (Sep.m2 (Sep.m2 hS199))), by rw [andF hg206]; simp only [B0, reduceIte, reduceEqDiff], f197⟩
  rintro fr207 h210 ⟨hS211, f208, f209⟩
  simp only [List.drop_succ_cons, List.drop_zero]
  simp only [run_ops_nil, f208, run_cond, B0, reduceIte, reduceEqDiff]
  refine cond_split (t := (v201.2 && (decide (v201.1 ≠ v14.1.Total)))) (fun hc212 => ?_) (fun hc212 => ?_)
  · rw [iteT hc212] at hF203
    simp only [run_seq, run_reg, run_mv, run_ops_nil, run_ret, B0, reduceIte, reduceEqDiff]
    have he := some_inj hF203
    subst he
    simp only [end_ret1, B0, reduceIte, reduceEqDiff]
    exact rfl
  rw [iteF hc212] at hF203
  simp only [run_skip, x3_13, run_seq, run_reg, f209, run_ld, B0, reduceIte, reduceEqDiff]
  refine put1_eq (v := .agg [v17, v21, v25, .int .i64 v14.1.Sent, .int .i64 v14.1.Total]) rfl ?_
  obtain ⟨v213, hx214, hF215⟩ := bind_some' hF203
  simp only [run_call, B0, reduceIte, reduceEqDiff]
  refine call2 rfl hS211 (mapM1 (snap_agg (mapM1 (SlF.snap hv19 hS211 rfl (fun _ => rfl) (fun _ => rfl)) (mapM1 (SlN.snap hv23 _ (Sep.m1 hS211) rfl Chan.RO) (mapM1
      (SlN.snap hv27 _ (Sep.m2 hS211) rfl Picture.RO) (mapM1 snap_int (mapM1 snap_int mapM0)))))) mapM0) (impl_FinishSnap_x (fun b hb => decide_eq_true hb) k v14.1 v213 hx214) ?_
  rintro _ h228 ⟨v216, c217, v220, c221, v224, c225, rfl, hv218, hv222, hv226, hS229⟩
  refine ⟨_, free_t (all_c (free2_a (all_c (SlF.free1 hv218) (all_c (SlN.free1 hv222) (all_c (SlN.free1 hv226) (all_c rfl (all_c rfl all_n)))))) (all_c rfl (all_c rfl all_n))),
      hS229, (pf_app (SlF.pf hv218 (fun _ => rfl)) (pf_app (SlN.pf hv222 Chan.RO) (pf_app (SlN.pf hv226 Picture.RO) pf_nil))), fun h230 hS231 => ?_⟩
  have hS232 : Sep h230 (geL h.length) (c217 ++ (c221 ++ (c225 ++ (c18 ++ (c22 ++ (c26 ++ ([]))))))) := by simpa only [List.append_assoc, List.nil_append] using hS231
  simp only [run_mv, run_ext, put1_some, xext_0, xext_1, xext_2, run_new, B0, reduceIte, reduceEqDiff]
  refine put2_newC hS232 (fun b233 h234 hS235 => ?_)
  simp only [run_st, B0, reduceIte, reduceEqDiff]
  refine put2_stCx (us := [v216, v220, v224, .int .i64 v213.1.Sent, .int .i64 v213.1.Total]) rfl (cs' := [v216, v220, v224, .int .i64 v213.1.Sent,
      .int .i64 v213.1.Total]) hS235 hW rfl (all_c (SlF.one hv218) (all_c (SlN.one hv222) (all_c (SlN.one hv226) (all_c rfl (all_c rfl all_n))))) (Nat.le_of_ble_eq_true rfl) rfl
      (fun h237 hS238 => ?_)
  simp only [run_mv, run_ops_nil, B0, reduceIte, reduceEqDiff]
  refine frz_stepC hS238 hW (by simp only [B0, reduceIte, reduceEqDiff]) (fun h239 hS240 => ?_)
  simp only [run_frz_nil, x3_12, run_seq, run_reg, run_mv, run_ops_nil, x3_11, run_cond, B0, reduceIte, reduceEqDiff]
  refine cond_split (t := v213.2.2) (fun hc241 => ?_) (fun hc241 => ?_)
  · rw [iteT hc241] at hF215
    simp only [x3_10, run_seq, run_reg, run_ld, B0, reduceIte, reduceEqDiff]
    refine put1_eq (v := .agg [v216, v220, v224, .int .i64 v213.1.Sent, .int .i64 v213.1.Total]) rfl ?_
    obtain ⟨v242, hx243, hF244⟩ := bind_some' hF215
    simp only [run_call, B0, reduceIte, reduceEqDiff]
    refine call1 rfl (mapM1 (snap_agg (mapM1 (SlF.snap hv218 hS240 rfl (fun _ => rfl) (fun _ => rfl)) (mapM1 (SlN.snap hv222 _ (Sep.m1 hS240) rfl Chan.RO) (mapM1
        (SlN.snap hv226 _ (Sep.m2 hS240) rfl Picture.RO) (mapM1 snap_int (mapM1 snap_int mapM0)))))) mapM0) (impl_PictureOf_x
        (fun b hb => decide_eq_true hb) k v213.1 v242 hx243) ?_
    simp only [run_mv, run_ext, put1_some, xext_0, xext_1, run_ops_nil, x3_9, run_seq, run_reg, run_ld, B0, reduceIte, reduceEqDiff]
    refine put1_eq (v := .agg [v216, v220, v224, .int .i64 v213.1.Sent, .int .i64 v213.1.Total]) rfl ?_
    obtain ⟨v245, hx246, hF247⟩ := bind_some' hF244
    simp only [run_call, B0, reduceIte, reduceEqDiff]
    refine call1 rfl (mapM1 (snap_agg (mapM1 (SlF.snap hv218 hS240 rfl (fun _ => rfl) (fun _ => rfl)) (mapM1 (SlN.snap hv222 _ (Sep.m1 hS240) rfl Chan.RO) (mapM1
        (SlN.snap hv226 _ (Sep.m2 hS240) rfl Picture.RO) (mapM1 snap_int (mapM1 snap_int mapM0)))))) mapM0) (impl_OnWay_x (fun b hb => decide_eq_true hb) k v213.1 v245 hx246) ?_
    simp only [run_mv, run_ext, put1_some, xext_0, xext_1, run_ops_nil, x3_8, run_seq, run_reg, run_un, xnot, B0, reduceIte, reduceEqDiff]
    refine ops_j 5 (fun fr' h' => Sep h' (geL h.length) (c217 ++ (c221 ++ (c225 ++ ([])))) ∧ fr' 144 = .bool ((!v242.2) || (decide (v242.1 ≠ v14.1.Total))) ∧ fr' 19 = .ref [v216,
        v220, v224, .int .i64 v213.1.Sent, .int .i64 v213.1.Total] 0 ∧ fr' 24 = .int .i64 v245.1 ∧ fr' 25 = .bool v245.2) (fun Q248 hN249 => ?_) ?_
    · simp only [List.take_succ_cons, List.take_zero]
      simp only [run_guard (g := 139), B0, reduceIte, reduceEqDiff]
      refine guard_split (t := (!v242.2)) (fun hg250 => ?_) (fun hg250 => ?_)
      · simp only [hg250, run_guard (g := 139), guard_off', run_pick, put1_some, xpick_t, run_ops_nil, run_nil, B0, reduceIte, reduceEqDiff]
        exact hN249 _ _ ⟨(Sep.m2 (Sep.m2 (Sep.m2 (Sep.dc (Sep.m3 (Sep.dc (Sep.m3 (Sep.dc (Sep.m3 hS240))))))))), by rw [orT hg250]; simp only [B0, reduceIte, reduceEqDiff], rfl,
            rfl, rfl⟩
      · simp only [hg250, run_guard (g := 139), guard_false, run_mv, f209, run_fa, put1_some, Nat.reduceAdd, Nat.zero_add, Nat.add_zero, xfa_ref, run_ld, B0, reduceIte,
          reduceEqDiff]
        refine put1_eq (v := .int .i64 v14.1.Total) rfl ?_
        simp only [hg250, run_guard (g := 139), guard_false, run_bin, put1_some, xneq, run_pick, xpick_f, run_ops_nil, run_nil, B0, reduceIte, reduceEqDiff]
        exact hN249 _ _ ⟨(Sep.m2 (Sep.m2 (Sep.m2 (Sep.dc (Sep.m3 (Sep.dc (Sep.m3 (Sep.dc (Sep.m3 hS240))))))))), by rw [orF hg250]; simp only [B0, reduceIte, reduceEqDiff], rfl,
            rfl, rfl⟩
    rintro fr251 h256 ⟨hS257, f252, f253, f254, f255⟩
    simp only [List.drop_succ_cons, List.drop_zero]
    simp only [f252, run_mv, B0, reduceIte, reduceEqDiff]
    refine ops_j 3 (fun fr' h' => Sep h' (geL h.length) (c217 ++ (c221 ++ (c225 ++ ([])))) ∧ fr' 148 = .bool (((!v242.2) || (decide (v242.1 ≠ v14.1.Total))) ||
        (!v245.2)) ∧ fr' 19 = .ref [v216, v220, v224, .int .i64 v213.1.Sent, .int .i64 v213.1.Total] 0 ∧ fr' 24 = .int .i64 v245.1) (fun Q258 hN259 => ?_) ?_
    · simp only [List.take_succ_cons, List.take_zero]
      simp only [run_guard (g := 145), B0, reduceIte, reduceEqDiff]
      refine guard_split (t := ((!v242.2) || (decide (v242.1 ≠ v14.1.Total)))) (fun hg260 => ?_) (fun hg260 => ?_)
      · simp only [hg260, run_guard (g := 145), guard_off', run_pick, put1_some, xpick_t, run_ops_nil, run_nil, B0, reduceIte, reduceEqDiff]
        exact hN259 _ _ ⟨(Sep.m2 (Sep.m2 (Sep.m2 hS257))), by rw [orT hg260]; simp only [B0, reduceIte, reduceEqDiff], f253, f254⟩
      · simp only [hg260, run_guard (g := 145), guard_false, f255, run_mv, run_un, put1_some, xnot, run_pick, xpick_f, run_ops_nil, run_nil, B0, reduceIte, reduceEqDiff]
        exact hN259 _ _ ⟨(Sep.m2 (Sep.m2 (Sep.m2 hS257))), by rw [orF hg260]; simp only [B0, reduceIte, reduceEqDiff], f253, f254⟩
    rintro fr261 h265 ⟨hS266, f262, f263, f264⟩
    simp only [List.drop_succ_cons, List.drop_zero]
    simp only [f262, run_mv, B0, reduceIte, reduceEqDiff]
    refine ops_j 3 (fun fr' h' => Sep h' (geL h.length) (c217 ++ (c221 ++ (c225 ++ ([])))) ∧ fr' 152 = .bool ((((!v242.2) || (decide (v242.1 ≠ v14.1.Total))) || (!v245.2)) ||
        (decide (v245.1 ≠ 0))) ∧ fr' 19 = .ref [v216, v220, v224, .int .i64 v213.1.Sent, .int .i64 v213.1.Total] 0) (fun Q267 hN268 => ?_) ?_
    · simp only [List.take_succ_cons, List.take_zero]
      simp only [run_guard (g := 149), B0, reduceIte, reduceEqDiff]
      refine guard_split (t := (((!v242.2) || (decide (v242.1 ≠ v14.1.Total))) || (!v245.2))) (fun hg269 => ?_) (fun hg269 => ?_)
      · simp only [hg269, run_guard (g := 149), guard_off', run_pick, put1_some, xpick_t, run_ops_nil, run_nil, B0, reduceIte, reduceEqDiff]
        exact hN268 _ _ ⟨(Sep.m2 (Sep.m2 (Sep.m2 hS266))), by rw [orT hg269]; simp only [B0, reduceIte, reduceEqDiff], f263⟩
      · simp only [hg269, run_guard (g := 149), guard_false, f264, run_mv, run_bin, put1_some, xneq, run_pick, xpick_f, run_ops_nil, run_nil, B0, reduceIte, reduceEqDiff]
        exact hN268 _ _ ⟨(Sep.m2 (Sep.m2 (Sep.m2 hS266))), by rw [orF hg269]; simp only [B0, reduceIte, reduceEqDiff], f263⟩
    rintro fr270 h273 ⟨hS274, f271, f272⟩
    simp only [List.drop_succ_cons, List.drop_zero]
    simp only [f271, run_mv, B0, reduceIte, reduceEqDiff]
    obtain ⟨v278, hx279, hF280⟩ := bind_some' hF247
    refine ops_j 4 (fun fr' h' => Sep h' (geL h.length) ([]) ∧ fr' 157 = .bool v278) (fun Q275 hN276 => ?_) ?_
    · simp only [List.take_succ_cons, List.take_zero]
      simp only [run_guard (g := 153), B0, reduceIte, reduceEqDiff]
      refine guard_split (t := ((((!v242.2) || (decide (v242.1 ≠ v14.1.Total))) || (!v245.2)) || (decide (v245.1 ≠ 0)))) (fun hg277 => ?_) (fun hg277 => ?_)
      · rw [iteT hg277] at hx279
        simp only [hg277, run_guard (g := 153), guard_off', run_pick, put1_some, xpick_t, run_ops_nil, run_nil, B0, reduceIte, reduceEqDiff]
        have e281 := some_inj hx279
        exact hN276 _ _ ⟨(Sep.dc ((Sep.dc ((Sep.dc (hS274)))))), by rw [← e281]; simp only [B0, reduceIte, reduceEqDiff]⟩
      · rw [iteF hg277] at hx279
        simp only [hg277, run_guard (g := 153), guard_false, f272, run_ld, B0, reduceIte, reduceEqDiff]
        refine put1_eq (v := .agg [v216, v220, v224, .int .i64 v213.1.Sent, .int .i64 v213.1.Total]) rfl ?_
        obtain ⟨v282, hx283, hF284⟩ := bind_some' hx279
        simp only [hg277, run_guard (g := 153), guard_false, run_call, B0, reduceIte, reduceEqDiff]
        refine call1 rfl (mapM1 (snap_agg (mapM1 (SlF.snap hv218 hS274 rfl (fun _ => rfl) (fun _ => rfl)) (mapM1 (SlN.snap hv222 _ (Sep.m1 hS274) rfl Chan.RO) (mapM1
            (SlN.snap hv226 _ (Sep.m2 hS274) rfl Picture.RO) (mapM1 snap_int (mapM1 snap_int mapM0)))))) mapM0) (impl_GoodSnap_x
            (fun b hb => decide_eq_true hb) k v213.1 v282 hx283) ?_
        simp only [hg277, run_guard (g := 153), guard_false, run_un, put1_some, xnot, run_pick, xpick_f, run_ops_nil, run_nil, B0, reduceIte, reduceEqDiff]
        have e285 := some_inj hF284
        exact hN276 _ _ ⟨(Sep.dc ((Sep.dc ((Sep.dc (hS274)))))), by rw [← e285]; simp only [B0, reduceIte, reduceEqDiff]⟩
    rintro fr286 h288 ⟨hS289, f287⟩
    simp only [List.drop_succ_cons, List.drop_zero]
    simp only [run_ops_nil, f287, run_cond, B0, reduceIte, reduceEqDiff]
    refine cond_split (t := v278) (fun hc290 => ?_) (fun hc290 => ?_)
    · rw [iteT hc290] at hF280
      simp only [run_seq, run_reg, run_mv, run_ops_nil, run_ret, B0, reduceIte, reduceEqDiff]
      have he := some_inj hF280
      subst he
      simp only [end_ret1, B0, reduceIte, reduceEqDiff]
      exact rfl
    rw [iteF hc290] at hF280
    simp only [run_skip, run_seq, run_reg, run_mv, run_ops_nil, run_ret, B0, reduceIte, reduceEqDiff]
    have he := some_inj hF280
    subst he
    simp only [end_ret1, B0, reduceIte, reduceEqDiff]
    exact rfl
  rw [iteF hc241] at hF215
  simp only [run_skip, run_seq, run_reg, run_mv, run_ops_nil, run_ret, B0, reduceIte, reduceEqDiff]
  have he := some_inj hF215
  subst he
  simp only [end_ret1, B0, reduceIte, reduceEqDiff]
  exact rfl
end Go.Proofs.Ytpkiieniipenjaa.X
