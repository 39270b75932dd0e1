/- The functions' code comes to what the plain functions say (5). -/
import Derived.Test.YtpkiieniipenjaaXBH4
set_option linter.unusedVariables false
set_option linter.unusedSimpArgs false
set_option maxRecDepth 100000
namespace Go.Proofs.Ytpkiieniipenjaa.X
open Go
open Nat (reduceEqDiff)
theorem impl_isSnap_x {W : Nat → Bool} {h : Heap} (hW : ∀ b,
    (geL h.length) b → W b = true) (k : Nat) (v_0 : Snap) (r : Bool) (hF : impl_isSnap k v_0 = some r) : Ret E W 45 [.agg [lst cI v_0.Amounts, lst Chan.cells v_0.Chans,
    lst Picture.cells v_0.Pictures, .int .i64 v_0.Sent, .int .i64 v_0.Total]] h (fun v h' => cut h.length h' E.sz false 9 v = some (.bool r)) := by
  refine Ret.of (fn := x45) rfl (Run.of ?_)
  unfold impl_isSnap at hF
  have zf0 : argFr [.agg [lst cI v_0.Amounts, lst Chan.cells v_0.Chans, lst Picture.cells v_0.Pictures, .int .i64 v_0.Sent, .int .i64 v_0.Total]] 0 = .agg [lst cI v_0.Amounts,
      lst Chan.cells v_0.Chans, lst Picture.cells v_0.Pictures, .int .i64 v_0.Sent, .int .i64 v_0.Total] := rfl
  generalize argFr [.agg [lst cI v_0.Amounts, lst Chan.cells v_0.Chans, lst Picture.cells v_0.Pictures, .int .i64 v_0.Sent, .int .i64 v_0.Total]] = fr0 at zf0 ⊢
  have hS : Sep h (geL h.length) [] := Sep.nil h
  simp only [x45, run_seq, run_reg, run_box, zf0, B0, reduceIte, reduceEqDiff]
  refine put2_boxC (cs := [lst cI v_0.Amounts, lst Chan.cells v_0.Chans, lst Picture.cells v_0.Pictures, .int .i64 v_0.Sent,
      .int .i64 v_0.Total]) hS rfl rfl rfl (fun b1 h2 hS3 => ?_)
  simp only [run_mv, run_ops_nil, B0, reduceIte, reduceEqDiff]
  refine frz_stepC hS3 hW (by simp only [B0, reduceIte, reduceEqDiff]) (fun h5 hS6 => ?_)
  simp only [run_frz_nil, x45_28, run_seq, run_reg, run_fa, put1_some, Nat.reduceAdd, Nat.zero_add, Nat.add_zero, xfa_ref, run_ld, B0, reduceIte, reduceEqDiff]
  refine put1_eq (v := lst cI v_0.Amounts) rfl ?_
  simp only [run_len, put1_some, xlen_lst, run_mv, run_ops_nil, x45_27, run_seq, run_reg, run_call, B0, reduceIte, reduceEqDiff]
  refine call1 rfl (mapM1 snap_int (mapM1 snap_int (mapM1 snap_int mapM0))) (impl_in_x (fun b hb => decide_eq_true hb) (List.length v_0.Amounts : Int) 2 4 _ rfl) ?_
  simp only [run_un, put1_some, xnot, run_mv, B0, reduceIte, reduceEqDiff]
  refine ops_j 6 (fun fr' h' => Sep h' (geL h.length) ([]) ∧ fr' 27 = .bool ((!(impl_in (List.length v_0.Amounts : Int) 2 4)) || (decide ((List.length v_0.Pictures : Int) ≠
      (List.length v_0.Amounts : Int)))) ∧ fr' 1 = .ref [lst cI v_0.Amounts, lst Chan.cells v_0.Chans, lst Picture.cells v_0.Pictures, .int .i64 v_0.Sent,
      .int .i64 v_0.Total] 0 ∧ fr' 3 = .int .i64 (List.length v_0.Amounts : Int)) (fun Q7 hN8 => ?_) ?_
  · simp only [List.take_succ_cons, List.take_zero]
    simp only [run_guard (g := 21), B0, reduceIte, reduceEqDiff]
    refine guard_split (t := (!(impl_in (List.length v_0.Amounts : Int) 2 4))) (fun hg9 => ?_) (fun hg9 => ?_)
    · simp only [hg9, run_guard (g := 21), guard_off', run_pick, put1_some, xpick_t, run_ops_nil, run_nil, B0, reduceIte, reduceEqDiff]
      exact hN8 _ _ ⟨hS6, by rw [orT hg9]; simp only [B0, reduceIte, reduceEqDiff], rfl, rfl⟩
    · simp only [hg9, run_guard (g := 21), guard_false, run_fa, put1_some, Nat.reduceAdd, Nat.zero_add, Nat.add_zero, xfa_ref, run_ld, B0, reduceIte, reduceEqDiff]
      refine put1_eq (v := lst Picture.cells v_0.Pictures) rfl ?_
      simp only [hg9, run_guard (g := 21), guard_false, run_len, put1_some, xlen_lst, run_mv, run_bin, xneq, run_pick, xpick_f, run_ops_nil, run_nil, B0, reduceIte, reduceEqDiff]
      exact hN8 _ _ ⟨hS6, by rw [orF hg9]; simp only [B0, reduceIte, reduceEqDiff], rfl, rfl⟩
  rintro fr10 h14 ⟨hS15, f11, f12, f13⟩
  simp only [List.drop_succ_cons, List.drop_zero]
  simp only [f11, run_mv, B0, reduceIte, reduceEqDiff]
  refine ops_j 5 (fun fr' h' => Sep h' (geL h.length) ([]) ∧ fr' 33 = .bool (((!(impl_in (List.length v_0.Amounts : Int) 2 4)) || (decide ((List.length v_0.Pictures : Int) ≠
      (List.length v_0.Amounts : Int)))) || (!(impl_in v_0.Sent 0 1000))) ∧ fr' 1 = .ref [lst cI v_0.Amounts, lst Chan.cells v_0.Chans, lst Picture.cells v_0.Pictures,
      .int .i64 v_0.Sent, .int .i64 v_0.Total] 0 ∧ fr' 3 = .int .i64 (List.length v_0.Amounts : Int)) (fun Q16 hN17 => ?_) ?_
  · simp only [List.take_succ_cons, List.take_zero]
    simp only [run_guard (g := 28), B0, reduceIte, reduceEqDiff]
    refine guard_split (t := ((!(impl_in (List.length v_0.Amounts : Int) 2 4)) || (decide ((List.length v_0.Pictures : Int) ≠ (List.length v_0.Amounts : Int))))) (fun hg18 => ?_)
        (fun hg18 => ?_)
    · simp only [hg18, run_guard (g := 28), guard_off', run_pick, put1_some, xpick_t, run_ops_nil, run_nil, B0, reduceIte, reduceEqDiff]
      exact hN17 _ _ ⟨hS15, by rw [orT hg18]; simp only [B0, reduceIte, reduceEqDiff], f12, f13⟩
    · simp only [hg18, run_guard (g := 28), guard_false, f12, run_fa, put1_some, Nat.reduceAdd, Nat.zero_add, Nat.add_zero, xfa_ref, run_ld, B0, reduceIte, reduceEqDiff]
      refine put1_eq (v := .int .i64 v_0.Sent) rfl ?_
      simp only [hg18, run_guard (g := 28), guard_false, run_call, B0, reduceIte, reduceEqDiff]
      refine call1 rfl (mapM1 snap_int (mapM1 snap_int (mapM1 snap_int mapM0))) (impl_in_x (fun b hb => decide_eq_true hb) v_0.Sent 0 1000 _ rfl) ?_
      simp only [hg18, run_guard (g := 28), guard_false, run_un, put1_some, xnot, run_pick, xpick_f, run_ops_nil, run_nil, B0, reduceIte, reduceEqDiff]
      exact hN17 _ _ ⟨hS15, by rw [orF hg18]; simp only [B0, reduceIte, reduceEqDiff], f12, f13⟩
  rintro fr19 h23 ⟨hS24, f20, f21, f22⟩
  simp only [List.drop_succ_cons, List.drop_zero]
  simp only [f20, run_mv, B0, reduceIte, reduceEqDiff]
  refine ops_j 5 (fun fr' h' => Sep h' (geL h.length) ([]) ∧ fr' 39 = .bool ((((!(impl_in (List.length v_0.Amounts : Int) 2 4)) || (decide ((List.length v_0.Pictures : Int) ≠
      (List.length v_0.Amounts : Int)))) || (!(impl_in v_0.Sent 0 1000))) || (!(impl_in v_0.Total 0 1000))) ∧ fr' 1 = .ref [lst cI v_0.Amounts, lst Chan.cells v_0.Chans,
      lst Picture.cells v_0.Pictures, .int .i64 v_0.Sent, .int .i64 v_0.Total] 0 ∧ fr' 3 = .int .i64 (List.length v_0.Amounts : Int)) (fun Q25 hN26 => ?_) ?_
  · simp only [List.take_succ_cons, List.take_zero]
    simp only [run_guard (g := 34), B0, reduceIte, reduceEqDiff]
    refine guard_split (t := (((!(impl_in (List.length v_0.Amounts : Int) 2 4)) || (decide ((List.length v_0.Pictures : Int) ≠ (List.length v_0.Amounts : Int)))) ||
        (!(impl_in v_0.Sent 0 1000)))) (fun hg27 => ?_) (fun hg27 => ?_)
    · simp only [hg27, run_guard (g := 34), guard_off', run_pick, put1_some, xpick_t, run_ops_nil, run_nil, B0, reduceIte, reduceEqDiff]
      exact hN26 _ _ ⟨hS24, by rw [orT hg27]; simp only [B0, reduceIte, reduceEqDiff], f21, f22⟩
    · simp only [hg27, run_guard (g := 34), guard_false, f21, run_fa, put1_some, Nat.reduceAdd, Nat.zero_add, Nat.add_zero, xfa_ref, run_ld, B0, reduceIte, reduceEqDiff]
      refine put1_eq (v := .int .i64 v_0.Total) rfl ?_
      simp only [hg27, run_guard (g := 34), guard_false, run_call, B0, reduceIte, reduceEqDiff]
      refine call1 rfl (mapM1 snap_int (mapM1 snap_int (mapM1 snap_int mapM0))) (impl_in_x (fun b hb => decide_eq_true hb) v_0.Total 0 1000 _ rfl) ?_
      simp only [hg27, run_guard (g := 34), guard_false, run_un, put1_some, xnot, run_pick, xpick_f, run_ops_nil, run_nil, B0, reduceIte, reduceEqDiff]
      exact hN26 _ _ ⟨hS24, by rw [orF hg27]; simp only [B0, reduceIte, reduceEqDiff], f21, f22⟩
  rintro fr28 h32 ⟨hS33, f29, f30, f31⟩
  simp only [List.drop_succ_cons, List.drop_zero]
  simp only [f29, run_mv, B0, reduceIte, reduceEqDiff]
  refine ops_j 9 (fun fr' h' => Sep h' (geL h.length) ([]) ∧ fr' 49 = .bool (((((!(impl_in (List.length v_0.Amounts : Int) 2 4)) || (decide ((List.length v_0.Pictures : Int) ≠
      (List.length v_0.Amounts : Int)))) || (!(impl_in v_0.Sent 0 1000))) || (!(impl_in v_0.Total 0 1000))) || (decide ((List.length v_0.Chans : Int) ≠ (IntKind.wrap .i64
      ((List.length v_0.Amounts : Int) * (IntKind.wrap .i64 ((List.length v_0.Amounts : Int) - 1))))))) ∧ fr' 1 = .ref [lst cI v_0.Amounts, lst Chan.cells v_0.Chans,
      lst Picture.cells v_0.Pictures, .int .i64 v_0.Sent, .int .i64 v_0.Total] 0 ∧ fr' 3 = .int .i64 (List.length v_0.Amounts : Int)) (fun Q34 hN35 => ?_) ?_
  · simp only [List.take_succ_cons, List.take_zero]
    simp only [run_guard (g := 40), B0, reduceIte, reduceEqDiff]
    refine guard_split (t := ((((!(impl_in (List.length v_0.Amounts : Int) 2 4)) || (decide ((List.length v_0.Pictures : Int) ≠ (List.length v_0.Amounts : Int)))) ||
        (!(impl_in v_0.Sent 0 1000))) || (!(impl_in v_0.Total 0 1000)))) (fun hg36 => ?_) (fun hg36 => ?_)
    · simp only [hg36, run_guard (g := 40), guard_off', run_pick, put1_some, xpick_t, run_ops_nil, run_nil, B0, reduceIte, reduceEqDiff]
      exact hN35 _ _ ⟨hS33, by rw [orT hg36]; simp only [B0, reduceIte, reduceEqDiff], f30, f31⟩
    · simp only [hg36, run_guard (g := 40), guard_false, f30, run_fa, put1_some, Nat.reduceAdd, Nat.zero_add, Nat.add_zero, xfa_ref, run_ld, B0, reduceIte, reduceEqDiff]
      refine put1_eq (v := lst Chan.cells v_0.Chans) rfl ?_
      simp only [hg36, run_guard (g := 40), guard_false, run_len, put1_some, xlen_lst, f31, run_mv, run_bin, xsub, xmul, xneq, run_pick, xpick_f, run_ops_nil, run_nil, B0,
          reduceIte, reduceEqDiff]
      exact hN35 _ _ ⟨hS33, by rw [orF hg36]; simp only [B0, reduceIte, reduceEqDiff], f30, f31⟩
  rintro fr37 h41 ⟨hS42, f38, f39, f40⟩
  simp only [List.drop_succ_cons, List.drop_zero]
  simp only [run_ops_nil, f38, run_cond, B0, reduceIte, reduceEqDiff]
  refine cond_split (t := (((((!(impl_in (List.length v_0.Amounts : Int) 2 4)) || (decide ((List.length v_0.Pictures : Int) ≠ (List.length v_0.Amounts : Int)))) ||
      (!(impl_in v_0.Sent 0 1000))) || (!(impl_in v_0.Total 0 1000))) || (decide ((List.length v_0.Chans : Int) ≠ (IntKind.wrap .i64 ((List.length v_0.Amounts : Int) *
      (IntKind.wrap .i64 ((List.length v_0.Amounts : Int) - 1)))))))) (fun hc43 => ?_) (fun hc43 => ?_)
  · rw [iteT hc43] at hF
    simp only [run_seq, run_reg, run_mv, run_ops_nil, run_ret, B0, reduceIte, reduceEqDiff]
    have he := some_inj hF
    subst he
    simp only [end_ret1, B0, reduceIte, reduceEqDiff]
    exact rfl
  rw [iteF hc43] at hF
  simp only [run_skip, x45_26, run_seq, run_reg, run_mv, run_ops_nil, x45_25, f39, run_fa, put1_some, Nat.reduceAdd, Nat.zero_add, Nat.add_zero, xfa_ref, run_ld, B0, reduceIte,
      reduceEqDiff]
  refine put1_eq (v := lst cI v_0.Amounts) rfl ?_
  simp only [run_len, put1_some, xlen_lst, run_mv, run_ops_nil, B0, reduceIte, reduceEqDiff]
  obtain ⟨oc48, hX50, hk51⟩ := jn_some hF
  simp only [x45_5]
  refine rangeL_j (σ := Int) v_0.Amounts (fun i46 x47 s100 => impl_isSnap_b1 k v_0 i46 x47 s100) (fun s fr' h' => fr' 1 = .ref [lst cI v_0.Amounts, lst Chan.cells v_0.Chans,
      lst Picture.cells v_0.Pictures, .int .i64 v_0.Sent,
      .int .i64 v_0.Total] 0 ∧ fr' 3 = .int .i64 (List.length v_0.Amounts : Int) ∧ fr' 4 = .int .i64 s ∧ fr' 51 = lst cI v_0.Amounts ∧ Sep h' (geL h.length) ([])) hX50 ⟨f39, f40,
      rfl, rfl, hS42⟩ (by simp only [B0, reduceIte, reduceEqDiff]) (by simp only [B0, reduceIte,
      reduceEqDiff]) (fun _ _ _ h => h) rfl rfl (fun _ _ _ _ h => h) (fun _ _ _ _ h => h) (fun _ _ _ _ h => h) (by decide) ?_ ?_
  · rintro i46 x47 s45 fr60 h61 hx67 ⟨f63, f64, f65, f66, hS62⟩ f68 f69 oc49 hF52 hr53 Q54 hN55 hB59 hK56 hR57 hE58
    unfold impl_isSnap_b1 at hF52
    simp only [x45_3, run_seq, run_reg, f68, run_mv, f66, run_ia, B0, reduceIte, reduceEqDiff]
    refine put1_eq (v := .ref (cI x47) 0) (xia_lstN hx67 rfl) ?_
    simp only [run_ld, B0, reduceIte, reduceEqDiff]
    refine put1_eq (v := .int .i64 x47) rfl ?_
    simp only [run_mv, run_ops_nil, x45_2, run_seq, run_reg, run_call, B0, reduceIte, reduceEqDiff]
    refine call1 rfl (mapM1 snap_int (mapM1 snap_int (mapM1 snap_int mapM0))) (impl_in_x (fun b hb => decide_eq_true hb) x47 0 1000 _ rfl) ?_
    simp only [run_un, put1_some, xnot, run_mv, B0, reduceIte, reduceEqDiff]
    obtain ⟨v73, hx74, hF75⟩ := bind_some' hF52
    refine ops_j 10 (fun fr' h' => Sep h' (geL h.length) ([]) ∧ fr' 71 = .bool v73 ∧ fr' 1 = .ref [lst cI v_0.Amounts, lst Chan.cells v_0.Chans, lst Picture.cells v_0.Pictures,
        .int .i64 v_0.Sent, .int .i64 v_0.Total] 0 ∧ fr' 3 = .int .i64
        (List.length v_0.Amounts : Int) ∧ fr' 4 = .int .i64 s45 ∧ fr' 6 = .int .i64 x47 ∧ fr' 51 = lst cI v_0.Amounts ∧ fr' 52 = .int .i64
        (List.length v_0.Amounts : Int) ∧ fr' 53 = .int .i64 (i46 : Int)) (fun Q70 hN71 => ?_) ?_
    · simp only [List.take_succ_cons, List.take_zero]
      simp only [run_guard (g := 61), B0, reduceIte, reduceEqDiff]
      refine guard_split (t := (!(impl_in x47 0 1000))) (fun hg72 => ?_) (fun hg72 => ?_)
      · rw [iteT hg72] at hx74
        simp only [hg72, run_guard (g := 61), guard_off', run_pick, put1_some, xpick_t, run_ops_nil, run_nil, B0, reduceIte, reduceEqDiff]
        have e76 := some_inj hx74
        exact hN71 _ _ ⟨hS62, by rw [← e76]; simp only [B0, reduceIte, reduceEqDiff], f63, f64, f65, rfl, f66, f69, f68⟩
      · rw [iteF hg72] at hx74
        simp only [hg72, run_guard (g := 61), guard_false, f63, run_fa, put1_some, Nat.reduceAdd, Nat.zero_add, Nat.add_zero, xfa_ref, run_ld, B0, reduceIte, reduceEqDiff]
        refine put1_eq (v := lst Picture.cells v_0.Pictures) rfl ?_
        obtain ⟨x77, hx78, hF79⟩ := bind_some' hx74
        simp only [hg72, run_guard (g := 61), guard_false, run_mv, run_ia, B0, reduceIte, reduceEqDiff]
        refine put1_eq (v := .ref (Picture.cells x77) 0) (xia_lst hx78 rfl) ?_
        simp only [hg72, run_guard (g := 61), guard_false, run_ld, B0, reduceIte, reduceEqDiff]
        refine put1_eq (v := .agg [.bool x77.Taken, .int .i64 x77.Amount, lst cI x77.In, lst cB x77.Closed]) rfl ?_
        obtain ⟨v80, hx81, hF82⟩ := bind_some' hF79
        simp only [hg72, run_guard (g := 61), guard_false, run_mv, f64, run_call, B0, reduceIte, reduceEqDiff]
        refine call1 rfl (mapM1 (snap_agg (mapM1 snap_bool (mapM1 snap_int (mapM1 snap_lst (mapM1 snap_lst mapM0))))) (mapM1 snap_int (mapM1 snap_int mapM0))) (impl_isPicture_x
            (fun b hb => decide_eq_true hb) k x77 (i46 : Int) (List.length v_0.Amounts : Int) v80 hx81) ?_
        simp only [hg72, run_guard (g := 61), guard_false, run_un, put1_some, xnot, run_pick, xpick_f, run_ops_nil, run_nil, B0, reduceIte, reduceEqDiff]
        have e83 := some_inj hF82
        exact hN71 _ _ ⟨hS62, by rw [← e83]; simp only [B0, reduceIte, reduceEqDiff], f63, f64, f65, rfl, f66, f69, f68⟩
    rintro fr84 h93 ⟨hS94, f85, f86, f87, f88, f89, f90, f91, f92⟩
    simp only [List.drop_succ_cons, List.drop_zero]
    simp only [run_ops_nil, f85, run_cond, B0, reduceIte, reduceEqDiff]
    refine cond_split (t := v73) (fun hc95 => ?_) (fun hc95 => ?_)
    · rw [iteT hc95] at hF75
      simp only [run_seq, run_reg, run_mv, run_ops_nil, run_ret, B0, reduceIte, reduceEqDiff]
      have e96 := some_inj hF75
      subst e96
      have ho97 := hr53 _ rfl
      have hk98 := hk51
      rw [ho97] at hk98
      dsimp only [jnO] at hk98
      apply hR57
      have he := some_inj hk98
      subst he
      simp only [end_ret1, B0, reduceIte, reduceEqDiff]
      exact rfl
    rw [iteF hc95] at hF75
    simp only [run_skip, x45_1, run_reg, f88, run_mv, f89, run_bin, put1_some, xadd, run_ops_nil, run_nil, B0, reduceIte, reduceEqDiff]
    have e99 := some_inj hF75
    exact hN55 _ _ _ e99.symm ⟨f86, f87, rfl, f90, hS94⟩ (f92) (f91)
  rintro s101 fr102 h103 rfl ⟨f105, f106, f107, f108, hS104⟩
  dsimp only [jnO] at hk51
  unfold impl_isSnap_j4 at hk51
  obtain ⟨v109, hx110, hF111⟩ := bind_some' hk51
  simp only [x45_24, run_seq, run_reg, f106, run_mv, run_call, B0, reduceIte, reduceEqDiff]
  refine call2 rfl hS104 (mapM1 snap_int (mapM1 snap_int mapM0)) (impl_newSnap_x (fun b hb => decide_eq_true hb) (List.length v_0.Amounts : Int) 0 v109 hx110) ?_
  rintro _ h124 ⟨v112, c113, v116, c117, v120, c121, rfl, hv114, hv118, hv122, hS125⟩
  refine ⟨_, free_a (all_c (SlF.free1 hv114) (all_c (SlN.free1 hv118) (all_c (SlN.free1 hv122) (all_c rfl (all_c rfl all_n))))), hS125,
      (pf_app (SlF.pf hv114 (fun _ => rfl)) (pf_app (SlN.pf hv118 Chan.RO) (pf_app (SlN.pf hv122 Picture.RO) pf_nil))), fun h126 hS127 => ?_⟩
  have hS128 : Sep h126 (geL h.length) (c113 ++ (c117 ++ (c121 ++ ([])))) := by simpa only [List.append_assoc, List.nil_append] using hS127
  simp only [run_new, B0, reduceIte, reduceEqDiff]
  refine put2_newC hS128 (fun b129 h130 hS131 => ?_)
  simp only [run_st, B0, reduceIte, reduceEqDiff]
  refine put2_stCx (us := [v112, v116, v120, .int .i64 v109.Sent, .int .i64 v109.Total]) rfl (cs' := [v112, v116, v120, .int .i64 v109.Sent,
      .int .i64 v109.Total]) hS131 hW rfl (all_c (SlF.one hv114) (all_c (SlN.one hv118) (all_c (SlN.one hv122) (all_c rfl (all_c rfl all_n))))) (Nat.le_of_ble_eq_true rfl) rfl
      (fun h133 hS134 => ?_)
  simp only [run_ops_nil, B0, reduceIte, reduceEqDiff]
  refine frz_stepC hS134 hW (by simp only [B0, reduceIte, reduceEqDiff]) (fun h135 hS136 => ?_)
  simp only [run_frz_nil, x45_23, run_seq, run_reg, f105, run_fa, put1_some, Nat.reduceAdd, Nat.zero_add, Nat.add_zero, xfa_ref, run_ld, B0, reduceIte, reduceEqDiff]
  refine put1_eq (v := lst Chan.cells v_0.Chans) rfl ?_
  simp only [run_len, put1_some, xlen_lst, run_mv, run_ops_nil, B0, reduceIte, reduceEqDiff]
  obtain ⟨oc145, hX147, hk148⟩ := jn_some hF111
  simp only [x45_21]
  refine rangeL_j (σ := (List Chan)) v_0.Chans (fun i143 x144 s379 => impl_isSnap_b3 v_0 i143 x144 s379) (fun s fr' h' => ∃ c141, fr' 1 = .ref [lst cI v_0.Amounts,
      lst Chan.cells v_0.Chans, lst Picture.cells v_0.Pictures, .int .i64 v_0.Sent, .int .i64 v_0.Total] 0 ∧ fr' 4 = .int .i64 s101 ∧ fr' 7 = .ref [v112, v116, v120,
      .int .i64 v109.Sent, .int .i64 v109.Total] 0 ∧ fr' 79 = lst Chan.cells v_0.Chans ∧ SlN Chan.R 3 74 v116 s c141 ∧ Sep h' (geL h.length) (c113 ++ (c141 ++ (c121 ++
      ([]))))) hX147 ⟨c117, f105, f107, rfl, rfl, hv118, (Sep.m2 (Sep.m2 (Sep.m2 hS136)))⟩ (by simp only [B0, reduceIte, reduceEqDiff]) (by simp only [B0, reduceIte,
      reduceEqDiff]) (fun _ _ _ h => h) rfl rfl (fun _ _ _ _ h => h) (fun _ _ _ _ h => h) (fun _ _ _ _ h => h) (by decide) ?_ ?_
  · rintro i143 x144 s140 fr157 h158 hx164 ⟨c141, f160, f161, f162, f163, hv142, hS159⟩ f165 f166 oc146 hF149 hr150 Q151 hN152 hB156 hK153 hR154 hE155
    unfold impl_isSnap_b3 at hF149
    simp only [x45_19, run_seq, run_reg, f165, run_mv, f163, run_ia, B0, reduceIte, reduceEqDiff]
    refine put1_eq (v := .ref (Chan.cells x144) 0) (xia_lstN hx164 rfl) ?_
    simp only [run_ld, B0, reduceIte, reduceEqDiff]
    refine put1_eq (v := .agg [.int .i64 x144.From, .int .i64 x144.To, lst cI x144.Way]) rfl ?_
    simp only [run_new, B0, reduceIte, reduceEqDiff]
    refine put2_newC hS159 (fun b167 h168 hS169 => ?_)
    simp only [run_mv, run_st, B0, reduceIte, reduceEqDiff]
    refine put2_stCx (us := [.int .i64 x144.From, .int .i64 x144.To, lst cI x144.Way]) rfl (cs' := [.int .i64 x144.From, .int .i64 x144.To,
        lst cI x144.Way]) hS169 hW rfl rfl (Nat.le_of_ble_eq_true rfl) rfl (fun h171 hS172 => ?_)
    simp only [run_ops_nil, B0, reduceIte, reduceEqDiff]
    refine frz_stepC hS172 hW (by simp only [B0, reduceIte, reduceEqDiff]) (fun h173 hS174 => ?_)
    simp only [run_frz_nil, x45_18, run_seq, run_draw, d4_fa, put1d_some, Nat.reduceAdd, Nat.zero_add, Nat.add_zero, xfa_ref, d4_ld, B0, reduceIte, reduceEqDiff]
    refine put1d_eq (v := .int .i64 x144.From) rfl ?_
    simp only [f162, d4_fa, put1d_some, Nat.reduceAdd, Nat.zero_add, Nat.add_zero, xfa_ref, d4_ld, B0, reduceIte, reduceEqDiff]
    refine put1d_eq (v := v116) rfl ?_
    obtain ⟨x175, hx176, hF177⟩ := bind_some' hF149
    simp only [d4_mv, put1d_some, d4_ia, B0, reduceIte, reduceEqDiff]
    obtain ⟨b178, hb179⟩ := SlN.isrow hv142 (geti_ne hx176)
    refine put1d_eq (SlN.ia hv142 hb179 hx176) ?_
    obtain ⟨c180, cs181, os182, hv183, hR184, hS185⟩ := SlG.opn (SlN.toG hv142 hb179 Chan.RO.len) hx176 hk_nil Chan.RO.len (Sep.m1 hS174)
    obtain ⟨v187, c188, hv189, rfl, rfl⟩ := hR184
    have hS186 := Sep.no1 hS185
    simp only [d4_fa, put1d_some, Nat.reduceAdd, Nat.zero_add, Nat.add_zero, xfa_ptr, d4_ld, B0, reduceIte, reduceEqDiff]
    refine put1d_eq (v := .int .i64 x175.From) ((SlG.ld (o := 0) hv183 rfl hx176 hS186 (Nat.le_of_ble_eq_true rfl)).trans rfl) ?_
    simp only [d4_bin, put1d_some, xneq, d4_mv, B0, reduceIte, reduceEqDiff]
    refine draw_j 10 (fun fr' h' => Sep h' (geL h.length) (c113 ++ (c180 ++ (c121 ++ (c188 ++ ([]))))) ∧ fr' 105 = .bool ((decide (x144.From ≠ x175.From)) || (decide
        (x144.To ≠ x175.To))) ∧ fr' 1 = .ref [lst cI v_0.Amounts, lst Chan.cells v_0.Chans, lst Picture.cells v_0.Pictures, .int .i64 v_0.Sent,
        .int .i64 v_0.Total] 0 ∧ fr' 4 = .int .i64 s101 ∧ fr' 7 = .ref [v112, v116, v120, .int .i64 v109.Sent, .int .i64 v109.Total] 0 ∧ fr' 9 = .ref [.int .i64 x144.From,
        .int .i64 x144.To, lst cI x144.Way] 0 ∧ fr' 79 = lst Chan.cells v_0.Chans ∧ fr' 80 = .int .i64 (List.length v_0.Chans : Int) ∧ fr' 81 = .int .i64 (i143 : Int)) rfl
        (fun Q191 hN192 => ?_) ?_
    · simp only [List.take_succ_cons, List.take_zero]
      simp only [run_guardd (g := 95), B0, reduceIte, reduceEqDiff]
      refine guardd_split (t := (decide (x144.From ≠ x175.From))) (fun hg193 => ?_) (fun hg193 => ?_)
      · simp only [hg193, run_guardd (g := 95), guardd_off', d4_pick, put1d_some, xpick_t, run_draw_nil, run_nil, B0, reduceIte, reduceEqDiff]
        exact hN192 _ _ ⟨(Sep.m3 (Sep.m2 (Sep.m3 (Sep.m1 hS186)))), by rw [orT hg193]; simp only [B0, reduceIte, reduceEqDiff], f160, f161, f162, rfl, f163, f166, f165⟩
      · simp only [hg193, run_guardd (g := 95), guardd_false, d4_fa, put1d_some, Nat.reduceAdd, Nat.zero_add, Nat.add_zero, xfa_ref, d4_ld, B0, reduceIte, reduceEqDiff]
        refine put1d_eq (v := .int .i64 x144.To) rfl ?_
        simp only [hg193, run_guardd (g := 95), guardd_false, f162, d4_fa, put1d_some, Nat.reduceAdd, Nat.zero_add, Nat.add_zero, xfa_ref, d4_ld, B0, reduceIte, reduceEqDiff]
        refine put1d_eq (v := v116) rfl ?_
        simp only [hg193, run_guardd (g := 95), guardd_false, d4_mv, put1d_some, d4_ia, B0, reduceIte, reduceEqDiff]
        refine put1d_eq (SlG.ia hv183 hx176) ?_
        simp only [hg193, run_guardd (g := 95), guardd_false, d4_fa, put1d_some, Nat.reduceAdd, Nat.zero_add, Nat.add_zero, xfa_ptr, d4_ld, B0, reduceIte, reduceEqDiff]
        refine put1d_eq (v := .int .i64 x175.To) ((SlG.ld (o := 1) hv183 rfl hx176 hS186 (Nat.le_of_ble_eq_true rfl)).trans rfl) ?_
        simp only [hg193, run_guardd (g := 95), guardd_false, d4_bin, put1d_some, xneq, d4_pick, xpick_f, run_draw_nil, run_nil, B0, reduceIte, reduceEqDiff]
        exact hN192 _ _ ⟨(Sep.m3 (Sep.m2 (Sep.m3 (Sep.m1 hS186)))), by rw [orF hg193]; simp only [B0, reduceIte, reduceEqDiff], f160, f161, f162, rfl, f163, f166, f165⟩
    rintro fr194 h203 ⟨hS204, f195, f196, f197, f198, f199, f200, f201, f202⟩
    simp only [List.drop_succ_cons, List.drop_zero]
    simp only [f195, d4_mv, put1d_some, B0, reduceIte, reduceEqDiff]
    refine draw_j 5 (fun fr' h' => Sep h' (geL h.length) (c113 ++ (c180 ++ (c121 ++ (c188 ++ ([]))))) ∧ fr' 111 = .bool (((decide (x144.From ≠ x175.From)) || (decide
        (x144.To ≠ x175.To))) || (decide ((8 : Int) < (List.length x144.Way : Int)))) ∧ fr' 1 = .ref [lst cI v_0.Amounts, lst Chan.cells v_0.Chans, lst Picture.cells v_0.Pictures,
        .int .i64 v_0.Sent, .int .i64 v_0.Total] 0 ∧ fr' 4 = .int .i64 s101 ∧ fr' 7 = .ref [v112, v116, v120, .int .i64 v109.Sent,
        .int .i64 v109.Total] 0 ∧ fr' 9 = .ref [.int .i64 x144.From, .int .i64 x144.To,
        lst cI x144.Way] 0 ∧ fr' 79 = lst Chan.cells v_0.Chans ∧ fr' 80 = .int .i64 (List.length v_0.Chans : Int) ∧ fr' 81 = .int .i64 (i143 : Int)) rfl (fun Q205 hN206 => ?_) ?_
    · simp only [List.take_succ_cons, List.take_zero]
      simp only [run_guardd (g := 106), B0, reduceIte, reduceEqDiff]
      refine guardd_split (t := ((decide (x144.From ≠ x175.From)) || (decide (x144.To ≠ x175.To)))) (fun hg207 => ?_) (fun hg207 => ?_)
      · simp only [hg207, run_guardd (g := 106), guardd_off', d4_pick, put1d_some, xpick_t, run_draw_nil, run_nil, B0, reduceIte, reduceEqDiff]
        exact hN206 _ _ ⟨(Sep.m3 (Sep.m3 (Sep.m3 (Sep.m3 hS204)))), by rw [orT hg207]; simp only [B0, reduceIte, reduceEqDiff], f196, f197, f198, f199, f200, f201, f202⟩
      · simp only [hg207, run_guardd (g := 106), guardd_false, f199, d4_fa, put1d_some, Nat.reduceAdd, Nat.zero_add, Nat.add_zero, xfa_ref, d4_ld, B0, reduceIte, reduceEqDiff]
        refine put1d_eq (v := lst cI x144.Way) rfl ?_
        simp only [hg207, run_guardd (g := 106), guardd_false, d4_len, put1d_some, xlen_lst, d4_bin, xgtr, d4_pick, xpick_f, run_draw_nil, run_nil, B0, reduceIte, reduceEqDiff]
        exact hN206 _ _ ⟨(Sep.m3 (Sep.m3 (Sep.m3 (Sep.m3 hS204)))), by rw [orF hg207]; simp only [B0, reduceIte, reduceEqDiff], f196, f197, f198, f199, f200, f201, f202⟩
    rintro fr208 h217 ⟨hS218, f209, f210, f211, f212, f213, f214, f215, f216⟩
    simp only [List.drop_succ_cons, List.drop_zero]
    simp only [run_draw_nil, f209, run_cond, B0, reduceIte, reduceEqDiff]
    refine cond_split (t := (((decide (x144.From ≠ x175.From)) || (decide (x144.To ≠ x175.To))) || (decide ((8 : Int) < (List.length x144.Way : Int))))) (fun hc219 => ?_)
        (fun hc219 => ?_)
    · rw [iteT hc219] at hF177
      simp only [run_seq, run_reg, run_mv, run_ops_nil, run_ret, B0, reduceIte, reduceEqDiff]
      have e220 := some_inj hF177
      subst e220
      have ho221 := hr150 _ rfl
      have hk222 := hk148
      rw [ho221] at hk222
      dsimp only [jnO] at hk222
      apply hR154
      have he := some_inj hk222
      subst he
      simp only [end_ret1, B0, reduceIte, reduceEqDiff]
      exact rfl
    rw [iteF hc219] at hF177
    simp only [run_skip, x45_17, run_seq, run_reg, run_mv, run_ops_nil, x45_16, f213, run_fa, put1_some, Nat.reduceAdd, Nat.zero_add, Nat.add_zero, xfa_ref, run_ld, B0, reduceIte,
        reduceEqDiff]
    refine put1_eq (v := lst cI x144.Way) rfl ?_
    simp only [run_len, put1_some, xlen_lst, run_mv, run_ops_nil, B0, reduceIte, reduceEqDiff]
    obtain ⟨c223, hv224, hS225⟩ := SlG.cls0 (c := c180) (os := c188) hv183 rfl hx176 hk_nil (Chan.RI (x := x175) hv189) (Sep.m2 (Sep.m3 hS218))
    have hv226 := SlG.toN hv224
    obtain ⟨oc231, hX233, hk234⟩ := jn_some hF177
    simp only [x45_11]
    refine rangeL_j (σ := Int) x144.Way (fun i229 x230 s268 => impl_isSnap_b2 i229 x230 s268) (fun s fr' h' => fr' 1 = .ref [lst cI v_0.Amounts, lst Chan.cells v_0.Chans,
        lst Picture.cells v_0.Pictures, .int .i64 v_0.Sent, .int .i64 v_0.Total] 0 ∧ fr' 4 = .int .i64 s101 ∧ fr' 7 = .ref [v112, v116, v120, .int .i64 v109.Sent,
        .int .i64 v109.Total] 0 ∧ fr' 9 = .ref [.int .i64 x144.From, .int .i64 x144.To,
        lst cI x144.Way] 0 ∧ fr' 10 = .int .i64 s ∧ fr' 79 = lst Chan.cells v_0.Chans ∧ fr' 80 = .int .i64 (List.length v_0.Chans : Int) ∧ fr' 81 = .int .i64
        (i143 : Int) ∧ fr' 113 = lst cI x144.Way ∧ Sep h' (geL h.length) (c113 ++ (c223 ++ (c121 ++ ([]))))) hX233 ⟨f210, f211, f212, f213, rfl, f214, f215, f216, rfl,
        (Sep.m2 (Sep.m1 (Sep.m2 hS225)))⟩ (by simp only [B0, reduceIte, reduceEqDiff]) (by simp only [B0, reduceIte,
        reduceEqDiff]) (fun _ _ _ h => h) rfl rfl (fun _ _ _ _ h => h) (fun _ _ _ _ h => h) (fun _ _ _ _ h => h) (by decide) ?_ ?_
    · rintro i229 x230 s228 fr243 h244 hx255 ⟨f246, f247, f248, f249, f250, f251, f252, f253, f254, hS245⟩ f256 f257 oc232 hF235 hr236 Q237 hN238 hB242 hK239 hR240 hE241
      unfold impl_isSnap_b2 at hF235
      simp only [x45_9, run_seq, run_reg, f254, f256, run_ia, B0, reduceIte, reduceEqDiff]
      refine put1_eq (v := .ref (cI x230) 0) (xia_lstN hx255 rfl) ?_
      simp only [run_ld, B0, reduceIte, reduceEqDiff]
      refine put1_eq (v := .int .i64 x230) rfl ?_
      simp only [run_mv, run_ops_nil, x45_8, run_seq, run_reg, run_call, B0, reduceIte, reduceEqDiff]
      refine call1 rfl (mapM1 snap_int (mapM1 snap_int (mapM1 snap_int mapM0))) (impl_in_x (fun b hb => decide_eq_true hb) x230 0 1000 _ rfl) ?_
      simp only [run_un, put1_some, xnot, run_ops_nil, run_cond, B0, reduceIte, reduceEqDiff]
      refine cond_split (t := (!(impl_in x230 0 1000))) (fun hc258 => ?_) (fun hc258 => ?_)
      · rw [iteT hc258] at hF235
        simp only [run_seq, run_reg, run_mv, run_ops_nil, run_ret, B0, reduceIte, reduceEqDiff]
        have e259 := some_inj hF235
        subst e259
        have ho260 := hr236 _ rfl
        have hk261 := hk234
        rw [ho260] at hk261
        dsimp only [jnO] at hk261
        apply hR240
        have e262 := some_inj hk261
        subst e262
        have ho263 := hr150 _ rfl
        have hk264 := hk148
        rw [ho263] at hk264
        dsimp only [jnO] at hk264
        apply hR154
        have he := some_inj hk264
        subst he
        simp only [end_ret1, B0, reduceIte, reduceEqDiff]
        exact rfl
      rw [iteF hc258] at hF235
      simp only [run_skip, x45_7, run_seq, run_reg, run_mv, run_bin, put1_some, xeql, run_ops_nil, x45_6, run_cond, B0, reduceIte, reduceEqDiff]
      refine cond_split (t := (decide (x230 = 0))) (fun hc265 => ?_) (fun hc265 => ?_)
      · rw [iteT hc265] at hF235
        simp only [run_reg, f250, run_mv, run_bin, put1_some, xadd, run_ops_nil, run_nil, B0, reduceIte, reduceEqDiff]
        have e266 := some_inj hF235
        exact hN238 _ _ _ e266.symm ⟨f246, f247, f248, f249, rfl, f251, f252, f253, f254, (Sep.m2 (Sep.m2 (Sep.m2 hS245)))⟩ (f256) (f257)
      rw [iteF hc265] at hF235
      simp only [run_skip, run_nil, B0, reduceIte, reduceEqDiff]
      have e267 := some_inj hF235
      exact hN238 _ _ _ e267.symm ⟨f246, f247, f248, f249, f250, f251, f252, f253, f254, (Sep.m2 (Sep.m2 (Sep.m2 hS245)))⟩ (f256) (f257)
    rintro s269 fr270 h271 rfl ⟨f273, f274, f275, f276, f277, f278, f279, f280, f281, hS272⟩
    dsimp only [jnO] at hk234
    unfold impl_isSnap_j2 at hk234
    simp only [x45_15, run_seq, run_reg, run_mv, run_ops_nil, x45_14, run_draw, f273, d4_fa, put1d_some, Nat.reduceAdd, Nat.zero_add, Nat.add_zero, xfa_ref, d4_ld, B0, reduceIte,
        reduceEqDiff]
    refine put1d_eq (v := lst Picture.cells v_0.Pictures) rfl ?_
    simp only [f276, d4_fa, put1d_some, Nat.reduceAdd, Nat.zero_add, Nat.add_zero, xfa_ref, d4_ld, B0, reduceIte, reduceEqDiff]
    refine put1d_eq (v := .int .i64 x144.To) rfl ?_
    obtain ⟨x282, hx283, hF284⟩ := bind_some' hk234
    simp only [d4_ia, B0, reduceIte, reduceEqDiff]
    refine put1d_eq (v := .ref (Picture.cells x282) 0) (xia_lst hx283 rfl) ?_
    simp only [d4_fa, put1d_some, Nat.reduceAdd, Nat.zero_add, Nat.add_zero, xfa_ref, d4_ld, B0, reduceIte, reduceEqDiff]
    refine put1d_eq (v := lst cB x282.Closed) rfl ?_
    simp only [f276, d4_fa, put1d_some, Nat.reduceAdd, Nat.zero_add, Nat.add_zero, xfa_ref, d4_ld, B0, reduceIte, reduceEqDiff]
    refine put1d_eq (v := .int .i64 x144.From) rfl ?_
    obtain ⟨x285, hx286, hF287⟩ := bind_some' hF284
    simp only [d4_ia, B0, reduceIte, reduceEqDiff]
    refine put1d_eq (v := .ref (cB x285) 0) (xia_lst hx286 rfl) ?_
    simp only [d4_ld, B0, reduceIte, reduceEqDiff]
    refine put1d_eq (v := .bool x285) rfl ?_
    simp only [d4_mv, put1d_some, run_draw_nil, x45_13, run_seq, run_reg, f273, run_fa, put1_some, Nat.reduceAdd, Nat.zero_add, Nat.add_zero, xfa_ref, run_ld, B0, reduceIte,
        reduceEqDiff]
    refine put1_eq (v := lst Picture.cells v_0.Pictures) rfl ?_
    simp only [f276, run_fa, put1_some, Nat.reduceAdd, Nat.zero_add, Nat.add_zero, xfa_ref, run_ld, B0, reduceIte, reduceEqDiff]
    refine put1_eq (v := .int .i64 x144.From) rfl ?_
    obtain ⟨x288, hx289, hF290⟩ := bind_some' hF287
    simp only [run_ia, B0, reduceIte, reduceEqDiff]
    refine put1_eq (v := .ref (Picture.cells x288) 0) (xia_lst hx289 rfl) ?_
    simp only [run_fa, put1_some, Nat.reduceAdd, Nat.zero_add, Nat.add_zero, xfa_ref, run_ld, B0, reduceIte, reduceEqDiff]
    refine put1_eq (v := .bool x288.Taken) rfl ?_
    simp only [run_mv, B0, reduceIte, reduceEqDiff]
    refine ops_j 3 (fun fr' h' => Sep h' (geL h.length) (c113 ++ (c223 ++ (c121 ++ ([])))) ∧ fr' 148 = .bool (x288.Taken && (!x285)) ∧ fr' 1 = .ref [lst cI v_0.Amounts,
        lst Chan.cells v_0.Chans, lst Picture.cells v_0.Pictures, .int .i64 v_0.Sent, .int .i64 v_0.Total] 0 ∧ fr' 4 = .int .i64 s101 ∧ fr' 7 = .ref [v112, v116, v120,
        .int .i64 v109.Sent, .int .i64 v109.Total] 0 ∧ fr' 9 = .ref [.int .i64 x144.From, .int .i64 x144.To,
        lst cI x144.Way] 0 ∧ fr' 10 = .int .i64 s269 ∧ fr' 13 = .int .i64 0 ∧ fr' 14 = .bool x285 ∧ fr' 79 = lst Chan.cells v_0.Chans ∧ fr' 80 = .int .i64
        (List.length v_0.Chans : Int) ∧ fr' 81 = .int .i64 (i143 : Int)) (fun Q291 hN292 => ?_) ?_
    · simp only [List.take_succ_cons, List.take_zero]
      simp only [run_guard (g := 145), B0, reduceIte, reduceEqDiff]
      refine guard_split (t := x288.Taken) (fun hg293 => ?_) (fun hg293 => ?_)
      · simp only [hg293, run_guard (g := 145), guard_true, run_mv, run_un, put1_some, xnot, run_pick, xpick_t, run_ops_nil, run_nil, B0, reduceIte, reduceEqDiff]
        exact hN292 _ _ ⟨(Sep.m2 (Sep.m2 (Sep.m2 hS272))), by rw [andT hg293]; simp only [B0, reduceIte, reduceEqDiff], f273, f274, f275, f276, f277, rfl, rfl, f278, f279, f280⟩
      · simp only [hg293, run_guard (g := 145), guard_off, run_pick, put1_some, xpick_f, run_ops_nil, run_nil, B0, reduceIte, reduceEqDiff]
        exact hN292 _ _ ⟨(Sep.m2 (Sep.m2 (Sep.m2 hS272))), by rw [andF hg293]; simp only [B0, reduceIte, reduceEqDiff], f273, f274, f275, f276, f277, rfl, rfl, f278, f279, f280⟩
    rintro fr294 h306 ⟨hS307, f295, f296, f297, f298, f299, f300, f301, f302, f303, f304, f305⟩
    simp only [List.drop_succ_cons, List.drop_zero]
    simp only [run_ops_nil, f295, run_cond, B0, reduceIte, reduceEqDiff]
    obtain ⟨s308, hX310, hk311⟩ := bind_some' hF290
    refine cond_j (t := (x288.Taken && (!x285))) (fun fr' h' => fr' 1 = .ref [lst cI v_0.Amounts, lst Chan.cells v_0.Chans, lst Picture.cells v_0.Pictures, .int .i64 v_0.Sent,
        .int .i64 v_0.Total] 0 ∧ fr' 4 = .int .i64 s101 ∧ fr' 7 = .ref [v112, v116, v120, .int .i64 v109.Sent, .int .i64 v109.Total] 0 ∧ fr' 9 = .ref [.int .i64 x144.From,
        .int .i64 x144.To, lst cI x144.Way] 0 ∧ fr' 10 = .int .i64 s269 ∧ fr' 13 = .int .i64 s308 ∧ fr' 14 = .bool x285 ∧ fr' 79 = lst Chan.cells v_0.Chans ∧ fr' 80 = .int .i64
        (List.length v_0.Chans : Int) ∧ fr' 81 = .int .i64 (i143 : Int) ∧ Sep h' (geL h.length) (c113 ++ (c223 ++ (c121 ++ ([])))))
        (fun Q312 hN313 hR314 hE315 => ⟨fun hc316 => ?_, fun hc316 => ?_⟩) ?_
    · rw [iteT hc316] at hX310
      simp only [run_reg, run_mv, run_ops_nil, run_nil, B0, reduceIte, reduceEqDiff]
      have e317 := some_inj hX310
      subst e317
      exact hN313 _ _ ⟨f296, f297, f298, f299, f300, rfl, f302, f303, f304, f305, (Sep.m2 (Sep.m2 (Sep.m2 hS307)))⟩
    · rw [iteF hc316] at hX310
      simp only [run_skip, run_nil, B0, reduceIte, reduceEqDiff]
      have e318 := some_inj hX310
      subst e318
      exact hN313 _ _ ⟨f296, f297, f298, f299, f300, f301, f302, f303, f304, f305, (Sep.m2 (Sep.m2 (Sep.m2 hS307)))⟩
    rintro fr319 h320 ⟨f322, f323, f324, f325, f326, f327, f328, f329, f330, f331, hS321⟩
    unfold impl_isSnap_j1 at hk311
    simp only [x45_12, run_seq, run_reg, f326, run_mv, f327, run_bin, put1_some, xneq, B0, reduceIte, reduceEqDiff]
    obtain ⟨v335, hx336, hF337⟩ := bind_some' hk311
    refine ops_j 12 (fun fr' h' => Sep h' (geL h.length) (c113 ++ (c223 ++ (c121 ++ ([])))) ∧ fr' 164 = .bool v335 ∧ fr' 1 = .ref [lst cI v_0.Amounts, lst Chan.cells v_0.Chans,
        lst Picture.cells v_0.Pictures, .int .i64 v_0.Sent, .int .i64 v_0.Total] 0 ∧ fr' 4 = .int .i64 s101 ∧ fr' 7 = .ref [v112, v116, v120, .int .i64 v109.Sent,
        .int .i64 v109.Total] 0 ∧ fr' 79 = lst Chan.cells v_0.Chans ∧ fr' 80 = .int .i64 (List.length v_0.Chans : Int) ∧ fr' 81 = .int .i64 (i143 : Int)) (fun Q332 hN333 => ?_) ?_
    · simp only [List.take_succ_cons, List.take_zero]
      simp only [run_guard (g := 152), B0, reduceIte, reduceEqDiff]
      refine guard_split (t := (decide (s269 ≠ s308))) (fun hg334 => ?_) (fun hg334 => ?_)
      · rw [iteT hg334] at hx336
        simp only [hg334, run_guard (g := 152), guard_off', run_guard (g := 154), guard_tup, run_pick, put1_some, xpick_t, run_ops_nil, run_nil, B0, reduceIte, reduceEqDiff]
        have e338 := some_inj hx336
        exact hN333 _ _ ⟨(Sep.m2 (Sep.m2 (Sep.m2 hS321))), by rw [← e338]; simp only [B0, reduceIte, reduceEqDiff], f322, f323, f324, f329, f330, f331⟩
      · rw [iteF hg334] at hx336
        simp only [hg334, run_guard (g := 152), guard_false, f328, run_mv, B0, reduceIte, reduceEqDiff]
        obtain ⟨v342, hx343, hF344⟩ := bind_some' hx336
        refine ops_j 9 (fun fr' h' => Sep h' (geL h.length) (c113 ++ (c223 ++ (c121 ++ ([])))) ∧ fr' 163 = .bool v342 ∧ fr' 1 = .ref [lst cI v_0.Amounts, lst Chan.cells v_0.Chans,
            lst Picture.cells v_0.Pictures, .int .i64 v_0.Sent, .int .i64 v_0.Total] 0 ∧ fr' 4 = .int .i64 s101 ∧ fr' 7 = .ref [v112, v116, v120, .int .i64 v109.Sent,
            .int .i64 v109.Total] 0 ∧ fr' 79 = lst Chan.cells v_0.Chans ∧ fr' 80 = .int .i64 (List.length v_0.Chans : Int) ∧ fr' 81 = .int .i64 (i143 : Int) ∧ fr' 152 = .bool
            (decide (s269 ≠ s308))) (fun Q339 hN340 => ?_) ?_
        · simp only [List.take_succ_cons, List.take_zero]
          simp only [run_guard (g := 154), B0, reduceIte, reduceEqDiff]
          refine guard_split (t := x285) (fun hg341 => ?_) (fun hg341 => ?_)
          · rw [iteT hg341] at hx343
            simp only [hg341, run_guard (g := 154), guard_true, f322, run_fa, put1_some, Nat.reduceAdd, Nat.zero_add, Nat.add_zero, xfa_ref, run_ld, B0, reduceIte, reduceEqDiff]
            refine put1_eq (v := lst Picture.cells v_0.Pictures) rfl ?_
            simp only [hg341, run_guard (g := 154), guard_true, f325, run_fa, put1_some, Nat.reduceAdd, Nat.zero_add, Nat.add_zero, xfa_ref, run_ld, B0, reduceIte, reduceEqDiff]
            refine put1_eq (v := .int .i64 x144.From) rfl ?_
            obtain ⟨x345, hx346, hF347⟩ := bind_some' hx343
            simp only [hg341, run_guard (g := 154), guard_true, run_ia, B0, reduceIte, reduceEqDiff]
            refine put1_eq (v := .ref (Picture.cells x345) 0) (xia_lst hx346 rfl) ?_
            simp only [hg341, run_guard (g := 154), guard_true, run_fa, put1_some, Nat.reduceAdd, Nat.zero_add, Nat.add_zero, xfa_ref, run_ld, B0, reduceIte, reduceEqDiff]
            refine put1_eq (v := .bool x345.Taken) rfl ?_
            simp only [hg341, run_guard (g := 154), guard_true, run_un, put1_some, xnot, hg334, run_guard (g := 152), guard_false, run_pick, xpick_t, run_ops_nil, run_nil, B0,
                reduceIte, reduceEqDiff]
            have e348 := some_inj hF347
            exact hN340 _ _ ⟨(Sep.m2 (Sep.m2 (Sep.m2 hS321))), by rw [← e348]; simp only [B0, reduceIte, reduceEqDiff], f322, f323, f324, f329, f330, f331, by simp only [hg334,
                B0, reduceIte, reduceEqDiff]⟩
          · rw [iteF hg341] at hx343
            simp only [hg341, run_guard (g := 154), guard_off, hg334, run_guard (g := 152), guard_false, run_pick, put1_some, xpick_f, run_ops_nil, run_nil, B0, reduceIte,
                reduceEqDiff]
            have e349 := some_inj hx343
            exact hN340 _ _ ⟨(Sep.m2 (Sep.m2 (Sep.m2 hS321))), by rw [← e349]; simp only [B0, reduceIte, reduceEqDiff], f322, f323, f324, f329, f330, f331, by simp only [hg334,
                B0, reduceIte, reduceEqDiff]⟩
        rintro fr350 h359 ⟨hS360, f351, f352, f353, f354, f355, f356, f357, f358⟩
        simp only [List.drop_succ_cons, List.drop_zero]
        simp only [f358, hg334, run_pick, put1_some, xpick_f, f351, run_ops_nil, run_nil, B0, reduceIte, reduceEqDiff]
        have e361 := some_inj hF344
        exact hN333 _ _ ⟨(Sep.m2 (Sep.m2 (Sep.m2 hS360))), by rw [← e361]; simp only [B0, reduceIte, reduceEqDiff], f352, f353, f354, f355, f356, f357⟩
    rintro fr362 h370 ⟨hS371, f363, f364, f365, f366, f367, f368, f369⟩
    simp only [List.drop_succ_cons, List.drop_zero]
    simp only [run_ops_nil, f363, run_cond, B0, reduceIte, reduceEqDiff]
    refine cond_split (t := v335) (fun hc372 => ?_) (fun hc372 => ?_)
    · rw [iteT hc372] at hF337
      simp only [run_seq, run_reg, run_mv, run_ops_nil, run_ret, B0, reduceIte, reduceEqDiff]
      have e373 := some_inj hF337
      subst e373
      have ho374 := hr150 _ rfl
      have hk375 := hk148
      rw [ho374] at hk375
      dsimp only [jnO] at hk375
      apply hR154
      have he := some_inj hk375
      subst he
      simp only [end_ret1, B0, reduceIte, reduceEqDiff]
      exact rfl
    rw [iteF hc372] at hF337
    simp only [run_skip, run_nil, B0, reduceIte, reduceEqDiff]
    have e376 := some_inj hF337
    exact hN152 _ _ _ e376.symm ⟨c223, f364, f365, f366, f367, hv226, (Sep.m2 (Sep.m2 (Sep.m2 hS371)))⟩ (f369) (f368)
  rintro s380 fr383 h384 rfl ⟨c381, f386, f387, f388, f389, hv382, hS385⟩
  dsimp only [jnO] at hk148
  unfold impl_isSnap_j3 at hk148
  simp only [x45_22, run_seq, run_draw, f387, d1_mv, put1d_some, f386, d4_ld, B0, reduceIte, reduceEqDiff]
  refine put1d_eq (v := .agg [lst cI v_0.Amounts, lst Chan.cells v_0.Chans, lst Picture.cells v_0.Pictures, .int .i64 v_0.Sent, .int .i64 v_0.Total]) rfl ?_
  obtain ⟨v390, hx391, hF392⟩ := bind_some' hk148
  simp only [run_d2_call, B0, reduceIte, reduceEqDiff]
  refine call1q rfl (mapM1 (snap_agg (mapM1 snap_lst (mapM1 snap_lst (mapM1 snap_lst (mapM1 snap_int (mapM1 snap_int mapM0)))))) mapM0) (impl_Snap_onWay_x
      (fun b hb => decide_eq_true hb) v_0 v390 hx391) ?_
  simp only [d4_bin, put1d_some, xadd, f386, d1_fa, Nat.reduceAdd, Nat.zero_add, Nat.add_zero, xfa_ref, d1_ld, ldd_ref, B0, reduceIte, reduceEqDiff]
  refine put1d_eq (v := .int .i64 v_0.Total) rfl ?_
  simp only [d4_bin, put1d_some, xeql, d4_mv, run_draw_nil, run_ret, B0, reduceIte, reduceEqDiff]
  have he := some_inj hF392
  subst he
  simp only [end_ret1, B0, reduceIte, reduceEqDiff]
  exact rfl
theorem impl_OnWay_x {W : Nat → Bool} {h : Heap} (hW : ∀ b,
    (geL h.length) b → W b = true) (k : Nat) (s_0 : Snap) (r : Int × Bool) (hF : impl_OnWay k s_0 = some r) : Ret E W 11 [.agg [lst cI s_0.Amounts, lst Chan.cells s_0.Chans,
    lst Picture.cells s_0.Pictures, .int .i64 s_0.Sent, .int .i64 s_0.Total]] h (fun v h' => cut h.length h' E.sz false 9 v = some (.tup [.int .i64 r.1, .bool r.2])) := by
  refine Ret.of (fn := x11) rfl (Run.of ?_)
  unfold impl_OnWay at hF
  have zf0 : argFr [.agg [lst cI s_0.Amounts, lst Chan.cells s_0.Chans, lst Picture.cells s_0.Pictures, .int .i64 s_0.Sent, .int .i64 s_0.Total]] 0 = .agg [lst cI s_0.Amounts,
      lst Chan.cells s_0.Chans, lst Picture.cells s_0.Pictures, .int .i64 s_0.Sent, .int .i64 s_0.Total] := rfl
  generalize argFr [.agg [lst cI s_0.Amounts, lst Chan.cells s_0.Chans, lst Picture.cells s_0.Pictures, .int .i64 s_0.Sent, .int .i64 s_0.Total]] = fr0 at zf0 ⊢
  have hS : Sep h (geL h.length) [] := Sep.nil h
  simp only [x11, run_seq, run_reg, run_box, zf0, B0, reduceIte, reduceEqDiff]
  refine put2_boxC (cs := [lst cI s_0.Amounts, lst Chan.cells s_0.Chans, lst Picture.cells s_0.Pictures, .int .i64 s_0.Sent,
      .int .i64 s_0.Total]) hS rfl rfl rfl (fun b1 h2 hS3 => ?_)
  simp only [run_mv, run_ops_nil, B0, reduceIte, reduceEqDiff]
  refine frz_stepC hS3 hW (by simp only [B0, reduceIte, reduceEqDiff]) (fun h5 hS6 => ?_)
  simp only [run_frz_nil, x11_3, run_seq, run_reg, run_ld, B0, reduceIte, reduceEqDiff]
  refine put1_eq (v := .agg [lst cI s_0.Amounts, lst Chan.cells s_0.Chans, lst Picture.cells s_0.Pictures, .int .i64 s_0.Sent, .int .i64 s_0.Total]) rfl ?_
  obtain ⟨v7, hx8, hF9⟩ := bind_some' hF
  simp only [run_call, B0, reduceIte, reduceEqDiff]
  refine call1 rfl (mapM1 (snap_agg (mapM1 snap_lst (mapM1 snap_lst (mapM1 snap_lst (mapM1 snap_int (mapM1 snap_int mapM0)))))) mapM0) (impl_isSnap_x
      (fun b hb => decide_eq_true hb) k s_0 v7 hx8) ?_
  simp only [run_un, put1_some, xnot, run_ops_nil, x11_1, run_cond, B0, reduceIte, reduceEqDiff]
  refine cond_split (t := (!v7)) (fun hc10 => ?_) (fun hc10 => ?_)
  · rw [iteT hc10] at hF9
    simp only [run_seq, run_reg, run_mv, run_ops_nil, run_ret, B0, reduceIte, reduceEqDiff]
    have he := some_inj hF9
    subst he
    simp only [end_ret2, B0, reduceIte, reduceEqDiff]
    exact cut_tup (mapM1 rfl (mapM1 rfl mapM0))
  rw [iteF hc10] at hF9
  simp only [run_skip, x11_2, run_seq, run_reg, run_ld, B0, reduceIte, reduceEqDiff]
  refine put1_eq (v := .agg [lst cI s_0.Amounts, lst Chan.cells s_0.Chans, lst Picture.cells s_0.Pictures, .int .i64 s_0.Sent, .int .i64 s_0.Total]) rfl ?_
  obtain ⟨v11, hx12, hF13⟩ := bind_some' hF9
  simp only [run_call, B0, reduceIte, reduceEqDiff]
  refine call1 rfl (mapM1 (snap_agg (mapM1 snap_lst (mapM1 snap_lst (mapM1 snap_lst (mapM1 snap_int (mapM1 snap_int mapM0)))))) mapM0) (impl_Snap_onWay_x
      (fun b hb => decide_eq_true hb) s_0 v11 hx12) ?_
  simp only [run_mv, run_ops_nil, run_ret, B0, reduceIte, reduceEqDiff]
  have he := some_inj hF13
  subst he
  simp only [end_ret2, B0, reduceIte, reduceEqDiff]
  exact cut_tup (mapM1 rfl (mapM1 rfl mapM0))
theorem impl_GoodSnap_x {W : Nat → Bool} {h : Heap} (hW : ∀ b,
    (geL h.length) b → W b = true) (k : Nat) (s_0 : Snap) (r : Bool) (hF : impl_GoodSnap k s_0 = some r) : Ret E W 12 [.agg [lst cI s_0.Amounts, lst Chan.cells s_0.Chans,
    lst Picture.cells s_0.Pictures, .int .i64 s_0.Sent, .int .i64 s_0.Total]] h (fun v h' => cut h.length h' E.sz false 9 v = some (.bool r)) := by
  refine Ret.of (fn := x12) rfl (Run.of ?_)
  unfold impl_GoodSnap at hF
  have zf0 : argFr [.agg [lst cI s_0.Amounts, lst Chan.cells s_0.Chans, lst Picture.cells s_0.Pictures, .int .i64 s_0.Sent, .int .i64 s_0.Total]] 0 = .agg [lst cI s_0.Amounts,
      lst Chan.cells s_0.Chans, lst Picture.cells s_0.Pictures, .int .i64 s_0.Sent, .int .i64 s_0.Total] := rfl
  generalize argFr [.agg [lst cI s_0.Amounts, lst Chan.cells s_0.Chans, lst Picture.cells s_0.Pictures, .int .i64 s_0.Sent, .int .i64 s_0.Total]] = fr0 at zf0 ⊢
  have hS : Sep h (geL h.length) [] := Sep.nil h
  simp only [x12, run_seq, run_reg, run_box, zf0, B0, reduceIte, reduceEqDiff]
  refine put2_boxC (cs := [lst cI s_0.Amounts, lst Chan.cells s_0.Chans, lst Picture.cells s_0.Pictures, .int .i64 s_0.Sent,
      .int .i64 s_0.Total]) hS rfl rfl rfl (fun b1 h2 hS3 => ?_)
  simp only [run_mv, run_ops_nil, B0, reduceIte, reduceEqDiff]
  refine frz_stepC hS3 hW (by simp only [B0, reduceIte, reduceEqDiff]) (fun h5 hS6 => ?_)
  simp only [run_frz_nil, run_seq, run_reg, run_ld, B0, reduceIte, reduceEqDiff]
  refine put1_eq (v := .agg [lst cI s_0.Amounts, lst Chan.cells s_0.Chans, lst Picture.cells s_0.Pictures, .int .i64 s_0.Sent, .int .i64 s_0.Total]) rfl ?_
  obtain ⟨v7, hx8, hF9⟩ := bind_some' hF
  simp only [run_call, B0, reduceIte, reduceEqDiff]
  refine call1 rfl (mapM1 (snap_agg (mapM1 snap_lst (mapM1 snap_lst (mapM1 snap_lst (mapM1 snap_int (mapM1 snap_int mapM0)))))) mapM0) (impl_isSnap_x
      (fun b hb => decide_eq_true hb) k s_0 v7 hx8) ?_
  simp only [run_mv, run_ops_nil, run_ret, B0, reduceIte, reduceEqDiff]
  have he := some_inj hF9
  subst he
  simp only [end_ret1, B0, reduceIte, reduceEqDiff]
  exact rfl
theorem impl_PictureOf_x {W : Nat → Bool} {h : Heap} (hW : ∀ b,
    (geL h.length) b → W b = true) (k : Nat) (s_0 : Snap) (r : Int × Bool) (hF : impl_PictureOf k s_0 = some r) : Ret E W 13 [.agg [lst cI s_0.Amounts, lst Chan.cells s_0.Chans,
    lst Picture.cells s_0.Pictures, .int .i64 s_0.Sent, .int .i64 s_0.Total]] h (fun v h' => cut h.length h' E.sz false 9 v = some (.tup [.int .i64 r.1, .bool r.2])) := by
  refine Ret.of (fn := x13) rfl (Run.of ?_)
  unfold impl_PictureOf at hF
  have zf0 : argFr [.agg [lst cI s_0.Amounts, lst Chan.cells s_0.Chans, lst Picture.cells s_0.Pictures, .int .i64 s_0.Sent, .int .i64 s_0.Total]] 0 = .agg [lst cI s_0.Amounts,
      lst Chan.cells s_0.Chans, lst Picture.cells s_0.Pictures, .int .i64 s_0.Sent, .int .i64 s_0.Total] := rfl
  generalize argFr [.agg [lst cI s_0.Amounts, lst Chan.cells s_0.Chans, lst Picture.cells s_0.Pictures, .int .i64 s_0.Sent, .int .i64 s_0.Total]] = fr0 at zf0 ⊢
  have hS : Sep h (geL h.length) [] := Sep.nil h
  simp only [x13, run_seq, run_reg, run_box, zf0, B0, reduceIte, reduceEqDiff]
  refine put2_boxC (cs := [lst cI s_0.Amounts, lst Chan.cells s_0.Chans, lst Picture.cells s_0.Pictures, .int .i64 s_0.Sent,
      .int .i64 s_0.Total]) hS rfl rfl rfl (fun b1 h2 hS3 => ?_)
  simp only [run_mv, run_ops_nil, B0, reduceIte, reduceEqDiff]
  refine frz_stepC hS3 hW (by simp only [B0, reduceIte, reduceEqDiff]) (fun h5 hS6 => ?_)
  simp only [run_frz_nil, x13_15, run_seq, run_reg, run_ld, B0, reduceIte, reduceEqDiff]
  refine put1_eq (v := .agg [lst cI s_0.Amounts, lst Chan.cells s_0.Chans, lst Picture.cells s_0.Pictures, .int .i64 s_0.Sent, .int .i64 s_0.Total]) rfl ?_
  obtain ⟨v7, hx8, hF9⟩ := bind_some' hF
  simp only [run_call, B0, reduceIte, reduceEqDiff]
  refine call1 rfl (mapM1 (snap_agg (mapM1 snap_lst (mapM1 snap_lst (mapM1 snap_lst (mapM1 snap_int (mapM1 snap_int mapM0)))))) mapM0) (impl_isSnap_x
      (fun b hb => decide_eq_true hb) k s_0 v7 hx8) ?_
  simp only [run_un, put1_some, xnot, run_ops_nil, x13_1, run_cond, B0, reduceIte, reduceEqDiff]
  refine cond_split (t := (!v7)) (fun hc10 => ?_) (fun hc10 => ?_)
  · rw [iteT hc10] at hF9
    simp only [run_seq, run_reg, run_mv, run_ops_nil, run_ret, B0, reduceIte, reduceEqDiff]
    have he := some_inj hF9
    subst he
    simp only [end_ret2, B0, reduceIte, reduceEqDiff]
    exact cut_tup (mapM1 rfl (mapM1 rfl mapM0))
  rw [iteF hc10] at hF9
  simp only [run_skip, x13_14, run_seq, run_reg, run_mv, run_ops_nil, x13_13, run_fa, put1_some, Nat.reduceAdd, Nat.zero_add, Nat.add_zero, xfa_ref, run_ld, B0, reduceIte,
      reduceEqDiff]
  refine put1_eq (v := lst Picture.cells s_0.Pictures) rfl ?_
  simp only [run_len, put1_some, xlen_lst, run_mv, run_ops_nil, B0, reduceIte, reduceEqDiff]
  obtain ⟨oc15, hX17, hk18⟩ := jn_some hF9
  simp only [x13_12]
  refine rangeL_j (σ := Int) s_0.Pictures (fun i13 x14 s107 => impl_PictureOf_b2 i13 x14 s107)
      (fun s fr' h' => fr' 4 = .int .i64 s ∧ fr' 13 = lst Picture.cells s_0.Pictures ∧ Sep h' (geL h.length) ([])) hX17 ⟨rfl, rfl, hS6⟩ (by simp only [B0, reduceIte,
      reduceEqDiff]) (by simp only [B0, reduceIte, reduceEqDiff]) (fun _ _ _ h => h) rfl rfl (fun _ _ _ _ h => h) (fun _ _ _ _ h => h) (fun _ _ _ _ h => h) (by decide) ?_ ?_
  · rintro i13 x14 s12 fr27 h28 hx32 ⟨f30, f31, hS29⟩ f33 f34 oc16 hF19 hr20 Q21 hN22 hB26 hK23 hR24 hE25
    unfold impl_PictureOf_b2 at hF19
    simp only [x13_10, run_seq, run_reg, f31, f33, run_ia, B0, reduceIte, reduceEqDiff]
    refine put1_eq (v := .ref (Picture.cells x14) 0) (xia_lstN hx32 rfl) ?_
    simp only [run_ld, B0, reduceIte, reduceEqDiff]
    refine put1_eq (v := .agg [.bool x14.Taken, .int .i64 x14.Amount, lst cI x14.In, lst cB x14.Closed]) rfl ?_
    simp only [run_new, B0, reduceIte, reduceEqDiff]
    refine put2_newC hS29 (fun b35 h36 hS37 => ?_)
    simp only [run_st, B0, reduceIte, reduceEqDiff]
    refine put2_stCx (us := [.bool x14.Taken, .int .i64 x14.Amount, lst cI x14.In, lst cB x14.Closed]) rfl (cs' := [.bool x14.Taken, .int .i64 x14.Amount, lst cI x14.In,
        lst cB x14.Closed]) hS37 hW rfl rfl (Nat.le_of_ble_eq_true rfl) rfl (fun h39 hS40 => ?_)
    simp only [run_ops_nil, B0, reduceIte, reduceEqDiff]
    refine frz_stepC hS40 hW (by simp only [B0, reduceIte, reduceEqDiff]) (fun h41 hS42 => ?_)
    simp only [run_frz_nil, x13_9, run_seq, run_reg, run_fa, put1_some, Nat.reduceAdd, Nat.zero_add, Nat.add_zero, xfa_ref, run_ld, B0, reduceIte, reduceEqDiff]
    refine put1_eq (v := .bool x14.Taken) rfl ?_
    simp only [run_un, put1_some, xnot, run_mv, B0, reduceIte, reduceEqDiff]
    obtain ⟨v46, hx47, hF48⟩ := bind_some' hF19
    refine ops_j 4 (fun fr' h' => Sep h' (geL h.length) ([]) ∧ fr' 26 = .bool v46 ∧ fr' 4 = .int .i64 s12 ∧ fr' 6 = .ref [.bool x14.Taken, .int .i64 x14.Amount, lst cI x14.In,
        lst cB x14.Closed] 0 ∧ fr' 13 = lst Picture.cells s_0.Pictures ∧ fr' 14 = .int .i64 (List.length s_0.Pictures : Int) ∧ fr' 15 = .int .i64 (i13 : Int))
        (fun Q43 hN44 => ?_) ?_
    · simp only [List.take_succ_cons, List.take_zero]
      simp only [run_guard (g := 22), B0, reduceIte, reduceEqDiff]
      refine guard_split (t := (!x14.Taken)) (fun hg45 => ?_) (fun hg45 => ?_)
      · rw [iteT hg45] at hx47
        simp only [hg45, run_guard (g := 22), guard_off', run_pick, put1_some, xpick_t, run_ops_nil, run_nil, B0, reduceIte, reduceEqDiff]
        have e49 := some_inj hx47
        exact hN44 _ _ ⟨hS42, by rw [← e49]; simp only [B0, reduceIte, reduceEqDiff], f30, rfl, f31, f34, f33⟩
      · rw [iteF hg45] at hx47
        simp only [hg45, run_guard (g := 22), guard_false, run_fa, put1_some, Nat.reduceAdd, Nat.zero_add, Nat.add_zero, xfa_ref, run_ld, B0, reduceIte, reduceEqDiff]
        refine put1_eq (v := lst cB x14.Closed) rfl ?_
        obtain ⟨v50, hx51, hF52⟩ := bind_some' hx47
        simp only [hg45, run_guard (g := 22), guard_false, run_call, B0, reduceIte, reduceEqDiff]
        refine call1 rfl (mapM1 snap_lst (mapM1 snap_bool mapM0)) (slices_Contains_bool_x (fun b hb => decide_eq_true hb) x14.Closed false v50 hx51) ?_
        simp only [hg45, run_pick, put1_some, xpick_f, run_ops_nil, run_nil, B0, reduceIte, reduceEqDiff]
        have e53 := some_inj hF52
        exact hN44 _ _ ⟨hS42, by rw [← e53]; simp only [B0, reduceIte, reduceEqDiff], f30, rfl, f31, f34, f33⟩
    rintro fr54 h61 ⟨hS62, f55, f56, f57, f58, f59, f60⟩
    simp only [List.drop_succ_cons, List.drop_zero]
    simp only [run_ops_nil, x13_2, f55, run_cond, B0, reduceIte, reduceEqDiff]
    refine cond_split (t := v46) (fun hc63 => ?_) (fun hc63 => ?_)
    · rw [iteT hc63] at hF48
      simp only [run_seq, run_reg, run_mv, run_ops_nil, run_ret, B0, reduceIte, reduceEqDiff]
      have e64 := some_inj hF48
      subst e64
      have ho65 := hr20 _ rfl
      have hk66 := hk18
      rw [ho65] at hk66
      dsimp only [jnO] at hk66
      apply hR24
      have he := some_inj hk66
      subst he
      simp only [end_ret2, B0, reduceIte, reduceEqDiff]
      exact cut_tup (mapM1 rfl (mapM1 rfl mapM0))
    rw [iteF hc63] at hF48
    simp only [run_skip, x13_8, run_seq, run_reg, f56, run_mv, f57, run_fa, put1_some, Nat.reduceAdd, Nat.zero_add, Nat.add_zero, xfa_ref, run_ld, B0, reduceIte, reduceEqDiff]
    refine put1_eq (v := .int .i64 x14.Amount) rfl ?_
    simp only [run_bin, put1_some, xadd, run_mv, run_ops_nil, x13_7, run_seq, run_reg, f57, run_fa, Nat.reduceAdd, Nat.zero_add, Nat.add_zero, xfa_ref, run_ld, B0, reduceIte,
        reduceEqDiff]
    refine put1_eq (v := lst cI x14.In) rfl ?_
    simp only [run_len, put1_some, xlen_lst, run_mv, run_ops_nil, B0, reduceIte, reduceEqDiff]
    obtain ⟨oc71, hX73, hk74⟩ := jn_some hF48
    simp only [x13_6]
    refine rangeL_j (σ := Int) x14.In (fun i69 x70 s95 => impl_PictureOf_b1 i69 x70 s95)
        (fun s fr' h' => fr' 4 = .int .i64 s ∧ fr' 13 = lst Picture.cells s_0.Pictures ∧ fr' 14 = .int .i64 (List.length s_0.Pictures : Int) ∧ fr' 15 = .int .i64
        (i13 : Int) ∧ fr' 32 = lst cI x14.In ∧ Sep h' (geL h.length) ([])) hX73 ⟨rfl, f58, f59, f60, rfl, hS62⟩ (by simp only [B0, reduceIte, reduceEqDiff]) (by simp only [B0,
        reduceIte, reduceEqDiff]) (fun _ _ _ h => h) rfl rfl (fun _ _ _ _ h => h) (fun _ _ _ _ h => h) (fun _ _ _ _ h => h) (by decide) ?_ ?_
    · rintro i69 x70 s68 fr83 h84 hx91 ⟨f86, f87, f88, f89, f90, hS85⟩ f92 f93 oc72 hF75 hr76 Q77 hN78 hB82 hK79 hR80 hE81
      unfold impl_PictureOf_b1 at hF75
      simp only [x13_4, run_seq, run_reg, f90, f92, run_ia, B0, reduceIte, reduceEqDiff]
      refine put1_eq (v := .ref (cI x70) 0) (xia_lstN hx91 rfl) ?_
      simp only [run_ld, B0, reduceIte, reduceEqDiff]
      refine put1_eq (v := .int .i64 x70) rfl ?_
      simp only [run_mv, run_ops_nil, x13_3, run_reg, f86, run_bin, put1_some, xadd, run_nil, B0, reduceIte, reduceEqDiff]
      have e94 := some_inj hF75
      exact hN78 _ _ _ e94.symm ⟨rfl, f87, f88, f89, f90, hS85⟩ (f92) (f93)
    rintro s96 fr97 h98 rfl ⟨f100, f101, f102, f103, f104, hS99⟩
    dsimp only [jnO] at hk74
    unfold impl_PictureOf_j1 at hk74
    simp only [run_nil, B0, reduceIte, reduceEqDiff]
    have e105 := some_inj hk74
    exact hN22 _ _ _ e105.symm ⟨f100, f101, hS99⟩ (f103) (f102)
  rintro s108 fr109 h110 rfl ⟨f112, f113, hS111⟩
  dsimp only [jnO] at hk18
  unfold impl_PictureOf_j2 at hk18
  simp only [run_seq, run_reg, f112, run_mv, run_ops_nil, run_ret, B0, reduceIte, reduceEqDiff]
  have he := some_inj hk18
  subst he
  simp only [end_ret2, B0, reduceIte, reduceEqDiff]
  exact cut_tup (mapM1 rfl (mapM1 rfl mapM0))
end Go.Proofs.Ytpkiieniipenjaa.X
namespace Go.Proofs.Ytpkiieniipenjaa.X
open Go
open Nat (reduceEqDiff)
theorem impl_copySnap_x {W : Nat → Bool} {h : Heap} (hW : ∀ b,
    (geL h.length) b → W b = true) (s_0 : Snap) (r : Snap) (hF : impl_copySnap s_0 = some r) : Ret E W 48 [.agg [lst cI s_0.Amounts, lst Chan.cells s_0.Chans,
    lst Picture.cells s_0.Pictures, .int .i64 s_0.Sent, .int .i64 s_0.Total]] h (fun v h' => ∃ rv0_0 rc0_0 rv0_1 rc0_1 rv0_2 rc0_2, v = .agg [rv0_0, rv0_1, rv0_2,
    .int .i64 r.Sent, .int .i64 r.Total] ∧ SlF cI 1 3 rv0_0 r.Amounts rc0_0 ∧ SlN Chan.R 3 74 rv0_1 r.Chans rc0_1 ∧ SlN Picture.R 4 76 rv0_2 r.Pictures rc0_2 ∧ Sep h'
    (geL h.length) (rc0_0 ++ (rc0_1 ++ (rc0_2 ++ ([]))))) := by
  refine Ret.of (fn := x48) rfl (Run.of ?_)
  unfold impl_copySnap at hF
  have zf0 : argFr [.agg [lst cI s_0.Amounts, lst Chan.cells s_0.Chans, lst Picture.cells s_0.Pictures, .int .i64 s_0.Sent, .int .i64 s_0.Total]] 0 = .agg [lst cI s_0.Amounts,
      lst Chan.cells s_0.Chans, lst Picture.cells s_0.Pictures, .int .i64 s_0.Sent, .int .i64 s_0.Total] := rfl
  generalize argFr [.agg [lst cI s_0.Amounts, lst Chan.cells s_0.Chans, lst Picture.cells s_0.Pictures, .int .i64 s_0.Sent, .int .i64 s_0.Total]] = fr0 at zf0 ⊢
  have hS : Sep h (geL h.length) [] := Sep.nil h
  simp only [x48, run_seq, run_reg, run_box, zf0, B0, reduceIte, reduceEqDiff]
  refine put2_boxC (cs := [lst cI s_0.Amounts, lst Chan.cells s_0.Chans, lst Picture.cells s_0.Pictures, .int .i64 s_0.Sent,
      .int .i64 s_0.Total]) hS rfl rfl rfl (fun b1 h2 hS3 => ?_)
  simp only [run_new, B0, reduceIte, reduceEqDiff]
  refine put2_newC hS3 (fun b5 h6 hS7 => ?_)
  simp only [run_ops_nil, B0, reduceIte, reduceEqDiff]
  refine frz_stepC (Sep.m1 hS7) hW (by simp only [B0, reduceIte, reduceEqDiff]) (fun h9 hS10 => ?_)
  simp only [run_frz_nil, x48_14, run_seq, run_draw, d4_buildS, evp, B0, reduceIte, reduceEqDiff]
  refine put2d_buildSF (n := 1) (f := cI) ([] : List Int) hS10 rfl rfl (fun v11 c12 h13 hv14 hS15 => ?_)
  simp only [d1_new, B0, reduceIte, reduceEqDiff]
  refine put2d_newC hS15 (fun b17 h18 hS19 => ?_)
  simp only [d4_fa, put1d_some, Nat.reduceAdd, Nat.zero_add, Nat.add_zero, xfa_ref, d4_ld, B0, reduceIte, reduceEqDiff]
  refine put1d_eq (v := lst cI s_0.Amounts) rfl ?_
  simp only [d2_appQ, B0, reduceIte, reduceEqDiff]
  obtain ⟨l21, hx22, hF23⟩ := bind_some' hF
  refine q_app disjR0 ?_
  refine put2d_appF (f := cI) hv14 (Sep.m1 hS19) hW (fun _ => rfl) (fun _ => rfl) (firstOf_lst (fun _ => rfl)) hx22 (fun v24 c25 h26 hv27 hS28 => ?_)
  simp only [d1_fa, put1d_some, Nat.reduceAdd, Nat.zero_add, Nat.add_zero, xfa_ref, d1_ld, ldd_ref, B0, reduceIte, reduceEqDiff]
  refine put1d_eq (v := .int .i64 s_0.Sent) rfl ?_
  simp only [d1_fa, put1d_some, Nat.reduceAdd, Nat.zero_add, Nat.add_zero, xfa_ref, d1_ld, ldd_ref, B0, reduceIte, reduceEqDiff]
  refine put1d_eq (v := .int .i64 s_0.Total) rfl ?_
  simp only [d4_build, evp, B0, reduceIte, reduceEqDiff]
  refine put1d_eq (v := .agg [v24, .nil, .nil, .int .i64 s_0.Sent, .int .i64 s_0.Total]) (pbuild_some (fill1 (us := [v24]) (vs := [v24, .nil, .nil, .int .i64 0,
      .int .i64 0]) (cells_one (SlF.one hv27)) rfl (Nat.le_of_ble_eq_true rfl) (all_c (SlF.one hv27) all_n) rfl (fill1 (us := [.int .i64 s_0.Sent]) (vs := [v24, .nil, .nil,
      .int .i64 s_0.Sent, .int .i64 0]) rfl rfl (Nat.le_of_ble_eq_true rfl) rfl rfl (fill1 (us := [.int .i64 s_0.Total]) (vs := [v24, .nil, .nil, .int .i64 s_0.Sent,
      .int .i64 s_0.Total]) rfl rfl (Nat.le_of_ble_eq_true rfl) rfl rfl fill0)))) ?_
  simp only [d3_st, B0, reduceIte, reduceEqDiff]
  refine put2d_stCx (us := [v24, .nil, .nil, .int .i64 s_0.Sent, .int .i64 s_0.Total]) rfl (cs' := [v24, .nil, .nil, .int .i64 s_0.Sent,
      .int .i64 s_0.Total]) (Sep.m1 hS28) hW rfl (all_c (SlF.one hv27) (all_c rfl (all_c rfl (all_c rfl (all_c rfl all_n))))) (Nat.le_of_ble_eq_true rfl) rfl (fun h30 hS31 => ?_)
  simp only [run_draw_nil, x48_13, run_seq, run_reg, run_fa, put1_some, Nat.reduceAdd, Nat.zero_add, Nat.add_zero, xfa_ref, run_ld, B0, reduceIte, reduceEqDiff]
  refine put1_eq (v := lst Chan.cells s_0.Chans) rfl ?_
  simp only [run_len, put1_some, xlen_lst, run_mv, run_ops_nil, B0, reduceIte, reduceEqDiff]
  obtain ⟨oc44, hX46, hk47⟩ := jn_some hF23
  simp only [x48_5]
  refine rangeL_j (σ := Snap) s_0.Chans (fun i42 x43 s107 => impl_copySnap_b1 l21 i42 x43 s107) (fun s fr' h' => ∃ v39 c40, fr' 1 = .ref [lst cI s_0.Amounts,
      lst Chan.cells s_0.Chans, lst Picture.cells s_0.Pictures, .int .i64 s_0.Sent,
      .int .i64 s_0.Total] 0 ∧ fr' 2 = .ptr b5 0 ∧ fr' 3 = .ptr b17 0 ∧ fr' 18 = lst Chan.cells s_0.Chans ∧ SlN Chan.R 3 74 v39 s.Chans c40 ∧ Sep h' (geL h.length)
      ([Blk1 b5 [.nil, .nil, .nil, .int .i64 0, .int .i64 0] 30] ++ ([Blk1 b17 [v24, v39, .nil, .int .i64 s.Sent, .int .i64 s.Total] 30] ++ (c25 ++ (c40 ++ ([])))))) hX46 ⟨.nil,
      [], rfl, rfl, rfl, rfl, SlN.nil, ((Sep.m2 (Sep.m1 (Sep.m1 hS31))) : Sep _ (geL h.length) ([Blk1 b5 [.nil, .nil, .nil, .int .i64 0, .int .i64 0] 30] ++ ([Blk1 b17 [v24, .nil,
      .nil, .int .i64 s_0.Sent, .int .i64 s_0.Total] 30] ++ (c25 ++ ([])))))⟩ (by simp only [B0, reduceIte, reduceEqDiff]) (by simp only [B0, reduceIte,
      reduceEqDiff]) (fun _ _ _ h => h) rfl rfl (fun _ _ _ _ h => h) (fun _ _ _ _ h => h) (fun _ _ _ _ h => h) (by decide) ?_ ?_
  · rintro i42 x43 s37 fr56 h57 hx63 ⟨v39, c40, f59, f60, f61, f62, hv41, hS58⟩ f64 f65 oc45 hF48 hr49 Q50 hN51 hB55 hK52 hR53 hE54
    unfold impl_copySnap_b1 at hF48
    simp only [x48_3, run_seq, run_reg, f62, f64, run_ia, B0, reduceIte, reduceEqDiff]
    refine put1_eq (v := .ref (Chan.cells x43) 0) (xia_lstN hx63 rfl) ?_
    simp only [run_ld, B0, reduceIte, reduceEqDiff]
    refine put1_eq (v := .agg [.int .i64 x43.From, .int .i64 x43.To, lst cI x43.Way]) rfl ?_
    simp only [run_new, B0, reduceIte, reduceEqDiff]
    refine put2_newC hS58 (fun b66 h67 hS68 => ?_)
    simp only [run_st, B0, reduceIte, reduceEqDiff]
    refine put2_stCx (us := [.int .i64 x43.From, .int .i64 x43.To, lst cI x43.Way]) rfl (cs' := [.int .i64 x43.From, .int .i64 x43.To,
        lst cI x43.Way]) hS68 hW rfl rfl (Nat.le_of_ble_eq_true rfl) rfl (fun h70 hS71 => ?_)
    simp only [run_ops_nil, x48_2, run_seq, run_reg, run_buildS, evp, B0, reduceIte, reduceEqDiff]
    refine put2_buildSF (n := 1) (f := cI) ([] : List Int) hS71 rfl rfl (fun v72 c73 h74 hv75 hS76 => ?_)
    simp only [run_fa, put1_some, Nat.reduceAdd, Nat.zero_add, Nat.add_zero, xfa_ptr, run_ld, B0, reduceIte, reduceEqDiff]
    refine put1_eq (v := lst cI x43.Way) ((xld_b (Sep.bk _ _ _ (Sep.m1 hS76))).trans rfl) ?_
    simp only [run_app, B0, reduceIte, reduceEqDiff]
    obtain ⟨l78, hx79, hF80⟩ := bind_some' hF48
    refine put2_appF (f := cI) hv75 hS76 hW (fun _ => rfl) (fun _ => rfl) (firstOf_lst (fun _ => rfl)) hx79 (fun v81 c82 h83 hv84 hS85 => ?_)
    simp only [run_fa, put1_some, Nat.reduceAdd, Nat.zero_add, Nat.add_zero, xfa_ptr, run_st, B0, reduceIte, reduceEqDiff]
    refine put2_stCx (us := [v81]) (cells_one (SlF.one hv84)) (cs' := [.int .i64 x43.From, .int .i64 x43.To,
        v81]) (Sep.m1 hS85) hW rfl (all_c (SlF.one hv84) all_n) (Nat.le_of_ble_eq_true rfl) rfl (fun h87 hS88 => ?_)
    simp only [run_ops_nil, x48_1, run_reg, f61, run_fa, put1_some, Nat.reduceAdd, Nat.zero_add, Nat.add_zero, xfa_ptr, run_ld, B0, reduceIte, reduceEqDiff]
    refine put1_eq (v := v39) ((xld_b (Sep.bk _ _ _ (Sep.m3 hS88))).trans rfl) ?_
    simp only [run_ld, B0, reduceIte, reduceEqDiff]
    refine put1_eq (v := .agg [.int .i64 x43.From, .int .i64 x43.To, v81]) ((xld_bs (Sep.bk _ _ _ hS88)).trans rfl) ?_
    simp only [run_buildS, evp, B0, reduceIte, reduceEqDiff]
    refine put2_buildSN (R := Chan.R) (n := 3) (cs := [.int .i64 x43.From, .int .i64 x43.To, v81]) (os := c82) (Sep.m1 hS88) (fill1 (us := [.int .i64 x43.From, .int .i64 x43.To,
        v81]) (vs := [.int .i64 x43.From, .int .i64 x43.To,
        v81]) rfl rfl (Nat.le_of_ble_eq_true rfl) (all_c rfl (all_c rfl (all_c (SlF.one hv84) all_n))) rfl fill0) (Chan.RI (x := (Chan.mk x43.From x43.To l78)) hv84) rfl
        (fun v89 c90 h91 hv92 hS93 => ?_)
    simp only [run_app, B0, reduceIte, reduceEqDiff]
    obtain ⟨l95, hx96, hF97⟩ := bind_some' hF80
    refine put2_appN (R := Chan.R) (c := c40) hv41 hv92 (Sep.m5 hS93) hW Chan.RO.len Chan.RO.one hx96 (fun v98 c99 h100 hv101 hS102 => ?_)
    simp only [f61, run_fa, put1_some, Nat.reduceAdd, Nat.zero_add, Nat.add_zero, xfa_ptr, run_st, B0, reduceIte, reduceEqDiff]
    refine put2_stCx (us := [v98]) (cells_one (SlN.one hv101)) (cs' := [v24, v98, .nil, .int .i64 s37.Sent,
        .int .i64 s37.Total]) (Sep.m3 hS102) hW rfl (all_c (SlN.one hv101) all_n) (Nat.le_of_ble_eq_true rfl) rfl (fun h104 hS105 => ?_)
    simp only [run_ops_nil, run_nil, B0, reduceIte, reduceEqDiff]
    have e106 := some_inj hF97
    exact hN51 _ _ _ e106.symm ⟨v98, c99, f59, f60, f61, f62, hv101, (Sep.m3 (Sep.m2 (Sep.m3 (Sep.m1 (Sep.dc (Sep.m2 hS105))))))⟩ (f64) (f65)
  rintro s108 fr113 h114 rfl ⟨v110, c111, f116, f117, f118, f119, hv112, hS115⟩
  dsimp only [jnO] at hk47
  unfold impl_copySnap_j2 at hk47
  simp only [x48_12, run_seq, run_reg, f116, run_fa, put1_some, Nat.reduceAdd, Nat.zero_add, Nat.add_zero, xfa_ref, run_ld, B0, reduceIte, reduceEqDiff]
  refine put1_eq (v := lst Picture.cells s_0.Pictures) rfl ?_
  simp only [run_len, put1_some, xlen_lst, run_mv, run_ops_nil, B0, reduceIte, reduceEqDiff]
  obtain ⟨oc132, hX134, hk135⟩ := jn_some hk47
  simp only [x48_11]
  refine rangeL_j (σ := Snap) s_0.Pictures (fun i130 x131 s211 => impl_copySnap_b2 l21 s108 i130 x131 s211) (fun s fr' h' => ∃ v127 c128,
      fr' 2 = .ptr b5 0 ∧ fr' 3 = .ptr b17 0 ∧ fr' 37 = lst Picture.cells s_0.Pictures ∧ SlN Picture.R 4 76 v127 s.Pictures c128 ∧ Sep h' (geL h.length) ([Blk1 b5 [.nil, .nil,
      .nil, .int .i64 0, .int .i64 0] 30] ++ ([Blk1 b17 [v24, v110, v127, .int .i64 s.Sent, .int .i64 s.Total] 30] ++ (c25 ++ (c111 ++ (c128 ++ ([]))))))) hX134 ⟨.nil, [], f117,
      f118, rfl, SlN.nil, ((Sep.m3 (Sep.m3 (Sep.m3 (Sep.m3 hS115)))) : Sep _ (geL h.length) ([Blk1 b5 [.nil, .nil, .nil, .int .i64 0, .int .i64 0] 30] ++ ([Blk1 b17 [v24, v110,
      .nil, .int .i64 s108.Sent, .int .i64 s108.Total] 30] ++ (c25 ++ (c111 ++ ([]))))))⟩ (by simp only [B0, reduceIte, reduceEqDiff]) (by simp only [B0, reduceIte,
      reduceEqDiff]) (fun _ _ _ h => h) rfl rfl (fun _ _ _ _ h => h) (fun _ _ _ _ h => h) (fun _ _ _ _ h => h) (by decide) ?_ ?_
  · rintro i130 x131 s125 fr144 h145 hx150 ⟨v127, c128, f147, f148, f149, hv129, hS146⟩ f151 f152 oc133 hF136 hr137 Q138 hN139 hB143 hK140 hR141 hE142
    unfold impl_copySnap_b2 at hF136
    simp only [x48_9, run_seq, run_reg, f149, f151, run_ia, B0, reduceIte, reduceEqDiff]
    refine put1_eq (v := .ref (Picture.cells x131) 0) (xia_lstN hx150 rfl) ?_
    simp only [run_ld, B0, reduceIte, reduceEqDiff]
    refine put1_eq (v := .agg [.bool x131.Taken, .int .i64 x131.Amount, lst cI x131.In, lst cB x131.Closed]) rfl ?_
    simp only [run_new, B0, reduceIte, reduceEqDiff]
    refine put2_newC hS146 (fun b153 h154 hS155 => ?_)
    simp only [run_st, B0, reduceIte, reduceEqDiff]
    refine put2_stCx (us := [.bool x131.Taken, .int .i64 x131.Amount, lst cI x131.In, lst cB x131.Closed]) rfl (cs' := [.bool x131.Taken, .int .i64 x131.Amount, lst cI x131.In,
        lst cB x131.Closed]) hS155 hW rfl rfl (Nat.le_of_ble_eq_true rfl) rfl (fun h157 hS158 => ?_)
    simp only [run_ops_nil, x48_8, run_seq, run_reg, run_buildS, evp, B0, reduceIte, reduceEqDiff]
    refine put2_buildSF (n := 1) (f := cI) ([] : List Int) hS158 rfl rfl (fun v159 c160 h161 hv162 hS163 => ?_)
    simp only [run_fa, put1_some, Nat.reduceAdd, Nat.zero_add, Nat.add_zero, xfa_ptr, run_ld, B0, reduceIte, reduceEqDiff]
    refine put1_eq (v := lst cI x131.In) ((xld_b (Sep.bk _ _ _ (Sep.m1 hS163))).trans rfl) ?_
    simp only [run_app, B0, reduceIte, reduceEqDiff]
    obtain ⟨l165, hx166, hF167⟩ := bind_some' hF136
    refine put2_appF (f := cI) hv162 hS163 hW (fun _ => rfl) (fun _ => rfl) (firstOf_lst (fun _ => rfl)) hx166 (fun v168 c169 h170 hv171 hS172 => ?_)
    simp only [run_fa, put1_some, Nat.reduceAdd, Nat.zero_add, Nat.add_zero, xfa_ptr, run_st, B0, reduceIte, reduceEqDiff]
    refine put2_stCx (us := [v168]) (cells_one (SlF.one hv171)) (cs' := [.bool x131.Taken, .int .i64 x131.Amount, v168,
        lst cB x131.Closed]) (Sep.m1 hS172) hW rfl (all_c (SlF.one hv171) all_n) (Nat.le_of_ble_eq_true rfl) rfl (fun h174 hS175 => ?_)
    simp only [run_ops_nil, x48_7, run_seq, run_reg, run_buildS, evp, B0, reduceIte, reduceEqDiff]
    refine put2_buildSF (n := 1) (f := cB) ([] : List Bool) hS175 rfl rfl (fun v176 c177 h178 hv179 hS180 => ?_)
    simp only [run_fa, put1_some, Nat.reduceAdd, Nat.zero_add, Nat.add_zero, xfa_ptr, run_ld, B0, reduceIte, reduceEqDiff]
    refine put1_eq (v := lst cB x131.Closed) ((xld_b (Sep.bk _ _ _ (Sep.m1 hS180))).trans rfl) ?_
    simp only [run_app, B0, reduceIte, reduceEqDiff]
    obtain ⟨l182, hx183, hF184⟩ := bind_some' hF167
    refine put2_appF (f := cB) hv179 hS180 hW (fun _ => rfl) (fun _ => rfl) (firstOf_lst (fun _ => rfl)) hx183 (fun v185 c186 h187 hv188 hS189 => ?_)
    simp only [run_fa, put1_some, Nat.reduceAdd, Nat.zero_add, Nat.add_zero, xfa_ptr, run_st, B0, reduceIte, reduceEqDiff]
    refine put2_stCx (us := [v185]) (cells_one (SlF.one hv188)) (cs' := [.bool x131.Taken, .int .i64 x131.Amount, v168,
        v185]) (Sep.m1 hS189) hW rfl (all_c (SlF.one hv188) all_n) (Nat.le_of_ble_eq_true rfl) rfl (fun h191 hS192 => ?_)
    simp only [run_ops_nil, x48_6, run_reg, f148, run_fa, put1_some, Nat.reduceAdd, Nat.zero_add, Nat.add_zero, xfa_ptr, run_ld, B0, reduceIte, reduceEqDiff]
    refine put1_eq (v := v127) ((xld_b (Sep.bk _ _ _ (Sep.m4 hS192))).trans rfl) ?_
    simp only [run_ld, B0, reduceIte, reduceEqDiff]
    refine put1_eq (v := .agg [.bool x131.Taken, .int .i64 x131.Amount, v168, v185]) ((xld_bs (Sep.bk _ _ _ hS192)).trans rfl) ?_
    simp only [run_buildS, evp, B0, reduceIte, reduceEqDiff]
    refine put2_buildSN (R := Picture.R) (n := 4) (cs := [.bool x131.Taken, .int .i64 x131.Amount, v168,
        v185]) (os := c169 ++ (c186)) (Sep.bi2 (c1 := c169) (c2 := c186) (Sep.m2 (Sep.m1 hS192))) (fill1 (us := [.bool x131.Taken, .int .i64 x131.Amount, v168,
        v185]) (vs := [.bool x131.Taken, .int .i64 x131.Amount, v168,
        v185]) rfl rfl (Nat.le_of_ble_eq_true rfl) (all_c rfl (all_c rfl (all_c (SlF.one hv171) (all_c (SlF.one hv188) all_n)))) rfl fill0) (Picture.RI (x :=
        (Picture.mk x131.Taken x131.Amount l165 l182)) hv171 hv188) rfl (fun v193 c194 h195 hv196 hS197 => ?_)
    simp only [run_app, B0, reduceIte, reduceEqDiff]
    obtain ⟨l199, hx200, hF201⟩ := bind_some' hF184
    refine put2_appN (R := Picture.R) (c := c128) hv129 hv196 (Sep.m6 hS197) hW Picture.RO.len Picture.RO.one hx200 (fun v202 c203 h204 hv205 hS206 => ?_)
    simp only [f148, run_fa, put1_some, Nat.reduceAdd, Nat.zero_add, Nat.add_zero, xfa_ptr, run_st, B0, reduceIte, reduceEqDiff]
    refine put2_stCx (us := [v202]) (cells_one (SlN.one hv205)) (cs' := [v24, v110, v202, .int .i64 s125.Sent,
        .int .i64 s125.Total]) (Sep.m3 hS206) hW rfl (all_c (SlN.one hv205) all_n) (Nat.le_of_ble_eq_true rfl) rfl (fun h208 hS209 => ?_)
    simp only [run_ops_nil, run_nil, B0, reduceIte, reduceEqDiff]
    have e210 := some_inj hF201
    exact hN139 _ _ _ e210.symm ⟨v202, c203, f147, f148, f149, hv205, (Sep.m4 (Sep.m3 (Sep.m4 (Sep.m4 (Sep.m1 (Sep.dc (Sep.m2 hS209)))))))⟩ (f151) (f152)
  rintro s212 fr217 h218 rfl ⟨v214, c215, f220, f221, f222, hv216, hS219⟩
  dsimp only [jnO] at hk135
  unfold impl_copySnap_j1 at hk135
  simp only [run_seq, run_reg, f221, run_ld, B0, reduceIte, reduceEqDiff]
  refine put1_eq (v := .agg [v24, v110, v214, .int .i64 s212.Sent, .int .i64 s212.Total]) ((xld_bs (Sep.bk _ _ _ (Sep.m1 hS219))).trans rfl) ?_
  simp only [f220, run_st, B0, reduceIte, reduceEqDiff]
  refine put2_stCx (us := [v24, v110, v214, .int .i64 s212.Sent, .int .i64 s212.Total]) rfl (cs' := [v24, v110, v214, .int .i64 s212.Sent,
      .int .i64 s212.Total]) hS219 hW rfl (all_c (SlF.one hv27) (all_c (SlN.one hv112) (all_c (SlN.one hv216) (all_c rfl (all_c rfl all_n))))) (Nat.le_of_ble_eq_true rfl) rfl
      (fun h223 hS224 => ?_)
  simp only [run_ops_nil, run_ret, B0, reduceIte, reduceEqDiff]
  have he := some_inj hk135
  subst he
  refine end_ret_cell (bb := b5) (oo := 0) (v := .agg [v24, v110, v214, .int .i64 s212.Sent, .int .i64 s212.Total]) (by simp only [f220, B0, reduceIte,
      reduceEqDiff]) ((xld_bs (Sep.bk _ _ _ hS224)).trans rfl) ?_
  exact ⟨v24, c25, v110, c111, v214, c215, by first | trivial | rfl, hv27, hv112, hv216, (Sep.m2 (Sep.m2 (Sep.m2 (Sep.dc ((Sep.dc (hS224)))))))⟩
theorem slices_IndexFunc_Picture_x {W : Nat → Bool} {h : Heap} (hW : ∀ b,
    (geL h.length) b → W b = true) (s_0 : List Picture) {g1 : Nat} {caps1 : List XV} (hm1 : E.mode g1 = 1) (f_1 : Picture → Option Bool) (hf1 : ∀ (W : Nat → Bool) (h : Heap),
    (∀ b, h.length ≤ b → W b = true) → ∀ a0 r, f_1 a0 = some r → Ret E W g1 ([.agg [.bool a0.Taken, .int .i64 a0.Amount, lst cI a0.In,
    lst cB a0.Closed]] ++ caps1) h (fun v h' => cut h.length h' E.sz false 9 v = some (.bool r))) (r : Int)
    (hF : slices_IndexFunc_Picture s_0 f_1 = some r) : Ret E W 79 [lst Picture.cells s_0, .fn g1 caps1] h (fun v h' => cut h.length h' E.sz false 9 v = some (.int .i64 r)) := by
  refine Ret.of (fn := x79) rfl (Run.of ?_)
  unfold slices_IndexFunc_Picture at hF
  have zf0 : argFr [lst Picture.cells s_0, .fn g1 caps1] 0 = lst Picture.cells s_0 := rfl
  have zf1 : argFr [lst Picture.cells s_0, .fn g1 caps1] 1 = .fn g1 caps1 := rfl
  generalize argFr [lst Picture.cells s_0, .fn g1 caps1] = fr0 at zf0 zf1 ⊢
  have hS : Sep h (geL h.length) [] := Sep.nil h
  simp only [x79, run_seq, run_reg, run_mv, run_ops_nil, x79_6, zf0, run_len, put1_some, xlen_lst, B0, reduceIte, reduceEqDiff]
  obtain ⟨oc3, hX5, hk6⟩ := jn_some hF
  simp only [x79_5]
  refine rangeL_j (σ := Unit) s_0 (fun i1 x2 _ => slices_IndexFunc_Picture_b1 f_1 i1 x2 ) (fun s fr' h' => fr' 0 = lst Picture.cells s_0 ∧ fr' 1 = .fn g1 caps1 ∧ Sep h'
      (geL h.length) ([])) hX5 ⟨zf0, zf1, hS⟩ (by simp only [B0, reduceIte, reduceEqDiff]) (by simp only [B0, reduceIte,
      reduceEqDiff]) (fun _ _ _ h => h) rfl rfl (fun _ _ _ _ h => h) (fun _ _ _ _ h => h) (fun _ _ _ _ h => h) (by decide) ?_ ?_
  · rintro i1 x2 _ fr15 h16 hx20 ⟨f18, f19, hS17⟩ f21 f22 oc4 hF7 hr8 Q9 hN10 hB14 hK11 hR12 hE13
    unfold slices_IndexFunc_Picture_b1 at hF7
    simp only [x79_3, run_seq, run_reg, f21, run_mv, run_ops_nil, x79_2, f19, f18, run_ia, B0, reduceIte, reduceEqDiff]
    refine put1_eq (v := .ref (Picture.cells x2) 0) (xia_lstN hx20 rfl) ?_
    simp only [run_ld, B0, reduceIte, reduceEqDiff]
    refine put1_eq (v := .agg [.bool x2.Taken, .int .i64 x2.Amount, lst cI x2.In, lst cB x2.Closed]) rfl ?_
    obtain ⟨v23, hx24, hF25⟩ := bind_some' hF7
    simp only [run_call, B0, reduceIte, reduceEqDiff]
    refine call1 hm1 (mapM1 (snap_agg (mapM1 snap_bool (mapM1 snap_int (mapM1 snap_lst (mapM1 snap_lst mapM0))))) mapM0) (hf1 _ _ (fun b hb => decide_eq_true hb) x2 v23 hx24) ?_
    simp only [run_ops_nil, x79_1, run_cond, B0, reduceIte, reduceEqDiff]
    refine cond_split (t := v23) (fun hc26 => ?_) (fun hc26 => ?_)
    · rw [iteT hc26] at hF25
      simp only [run_seq, run_reg, run_mv, run_ops_nil, run_ret, B0, reduceIte, reduceEqDiff]
      have e27 := some_inj hF25
      subst e27
      have ho28 := hr8 _ rfl
      have hk29 := hk6
      rw [ho28] at hk29
      dsimp only [jnO] at hk29
      apply hR12
      have he := some_inj hk29
      subst he
      simp only [end_ret1, B0, reduceIte, reduceEqDiff]
      exact rfl
    rw [iteF hc26] at hF25
    simp only [run_skip, run_nil, B0, reduceIte, reduceEqDiff]
    have e30 := some_inj hF25
    exact hN10 _ _ _ e30.symm ⟨f18, f19, hS17⟩ (f21) (f22)
  rintro _ fr32 h33 rfl ⟨f35, f36, hS34⟩
  dsimp only [jnO] at hk6
  unfold slices_IndexFunc_Picture_j1 at hk6
  simp only [run_seq, run_reg, run_mv, run_ops_nil, run_ret, B0, reduceIte, reduceEqDiff]
  have he := some_inj hk6
  subst he
  simp only [end_ret1, B0, reduceIte, reduceEqDiff]
  exact rfl
theorem slices_ContainsFunc_Picture_x {W : Nat → Bool} {h : Heap} (hW : ∀ b,
    (geL h.length) b → W b = true) (s_0 : List Picture) {g1 : Nat} {caps1 : List XV} (hm1 : E.mode g1 = 1) (f_1 : Picture → Option Bool) (hf1 : ∀ (W : Nat → Bool) (h : Heap),
    (∀ b, h.length ≤ b → W b = true) → ∀ a0 r, f_1 a0 = some r → Ret E W g1 ([.agg [.bool a0.Taken, .int .i64 a0.Amount, lst cI a0.In,
    lst cB a0.Closed]] ++ caps1) h (fun v h' => cut h.length h' E.sz false 9 v = some (.bool r))) (r : Bool)
    (hF : slices_ContainsFunc_Picture s_0 f_1 = some r) : Ret E W 49 [lst Picture.cells s_0, .fn g1 caps1] h (fun v h' => cut h.length h' E.sz false 9 v = some (.bool r)) := by
  refine Ret.of (fn := x49) rfl (Run.of ?_)
  unfold slices_ContainsFunc_Picture at hF
  have zf0 : argFr [lst Picture.cells s_0, .fn g1 caps1] 0 = lst Picture.cells s_0 := rfl
  have zf1 : argFr [lst Picture.cells s_0, .fn g1 caps1] 1 = .fn g1 caps1 := rfl
  generalize argFr [lst Picture.cells s_0, .fn g1 caps1] = fr0 at zf0 zf1 ⊢
  have hS : Sep h (geL h.length) [] := Sep.nil h
  obtain ⟨v1, hx2, hF3⟩ := bind_some' hF
  simp only [x49, run_seq, run_reg, run_mv, run_ops_nil, x49_1, zf0, zf1, run_call, B0, reduceIte, reduceEqDiff]
  refine call1 rfl (mapM1 snap_lst (mapM1 snap_fn mapM0)) (slices_IndexFunc_Picture_x (fun b hb => decide_eq_true hb) s_0 (g1 := g1) (caps1 := caps1) hm1 f_1 hf1 v1 hx2) ?_
  simp only [run_bin, put1_some, xgeq, run_mv, run_ops_nil, run_ret, B0, reduceIte, reduceEqDiff]
  have he := some_inj hF3
  subst he
  simp only [end_ret1, B0, reduceIte, reduceEqDiff]
  exact rfl
theorem impl_FinishSnap_1_x {W : Nat → Bool} {h : Heap} (hW : ∀ b,
    (geL h.length) b → W b = true) (p_0 : Picture) (r : Bool) (hF : some (impl_FinishSnap_1 p_0) = some r) : Ret E W 50 [.agg [.bool p_0.Taken, .int .i64 p_0.Amount,
    lst cI p_0.In, lst cB p_0.Closed]] h (fun v h' => cut h.length h' E.sz false 9 v = some (.bool r)) := by
  refine Ret.of (fn := x50) rfl (Run.of ?_)
  unfold impl_FinishSnap_1 at hF
  have zf0 : argFr [.agg [.bool p_0.Taken, .int .i64 p_0.Amount, lst cI p_0.In, lst cB p_0.Closed]] 0 = .agg [.bool p_0.Taken, .int .i64 p_0.Amount, lst cI p_0.In,
      lst cB p_0.Closed] := rfl
  generalize argFr [.agg [.bool p_0.Taken, .int .i64 p_0.Amount, lst cI p_0.In, lst cB p_0.Closed]] = fr0 at zf0 ⊢
  have hS : Sep h (geL h.length) [] := Sep.nil h
  simp only [x50, run_seq, run_reg, run_box, zf0, B0, reduceIte, reduceEqDiff]
  refine put2_boxC (cs := [.bool p_0.Taken, .int .i64 p_0.Amount, lst cI p_0.In, lst cB p_0.Closed]) hS rfl rfl rfl (fun b1 h2 hS3 => ?_)
  simp only [run_mv, run_ops_nil, B0, reduceIte, reduceEqDiff]
  refine frz_stepC hS3 hW (by simp only [B0, reduceIte, reduceEqDiff]) (fun h5 hS6 => ?_)
  simp only [run_frz_nil, run_seq, run_reg, run_fa, put1_some, Nat.reduceAdd, Nat.zero_add, Nat.add_zero, xfa_ref, run_ld, B0, reduceIte, reduceEqDiff]
  refine put1_eq (v := .bool p_0.Taken) rfl ?_
  simp only [run_mv, run_ops_nil, run_ret, B0, reduceIte, reduceEqDiff]
  have he := some_inj hF
  subst he
  simp only [end_ret1, B0, reduceIte, reduceEqDiff]
  exact rfl
theorem slices_IndexFunc_Chan_x {W : Nat → Bool} {h : Heap} (hW : ∀ b,
    (geL h.length) b → W b = true) (s_0 : List Chan) {g1 : Nat} {caps1 : List XV} (hm1 : E.mode g1 = 1) (f_1 : Chan → Option Bool) (hf1 : ∀ (W : Nat → Bool) (h : Heap), (∀ b,
    h.length ≤ b → W b = true) → ∀ a0 r, f_1 a0 = some r → Ret E W g1 ([.agg [.int .i64 a0.From, .int .i64 a0.To,
    lst cI a0.Way]] ++ caps1) h (fun v h' => cut h.length h' E.sz false 9 v = some (.bool r))) (r : Int)
    (hF : slices_IndexFunc_Chan s_0 f_1 = some r) : Ret E W 51 [lst Chan.cells s_0, .fn g1 caps1] h (fun v h' => cut h.length h' E.sz false 9 v = some (.int .i64 r)) := by
  refine Ret.of (fn := x51) rfl (Run.of ?_)
  unfold slices_IndexFunc_Chan at hF
  have zf0 : argFr [lst Chan.cells s_0, .fn g1 caps1] 0 = lst Chan.cells s_0 := rfl
  have zf1 : argFr [lst Chan.cells s_0, .fn g1 caps1] 1 = .fn g1 caps1 := rfl
  generalize argFr [lst Chan.cells s_0, .fn g1 caps1] = fr0 at zf0 zf1 ⊢
  have hS : Sep h (geL h.length) [] := Sep.nil h
  simp only [x51, run_seq, run_reg, run_mv, run_ops_nil, x51_6, zf0, run_len, put1_some, xlen_lst, B0, reduceIte, reduceEqDiff]
  obtain ⟨oc3, hX5, hk6⟩ := jn_some hF
  simp only [x51_5]
  refine rangeL_j (σ := Unit) s_0 (fun i1 x2 _ => slices_IndexFunc_Chan_b1 f_1 i1 x2 ) (fun s fr' h' => fr' 0 = lst Chan.cells s_0 ∧ fr' 1 = .fn g1 caps1 ∧ Sep h' (geL h.length)
      ([])) hX5 ⟨zf0, zf1, hS⟩ (by simp only [B0, reduceIte, reduceEqDiff]) (by simp only [B0, reduceIte,
      reduceEqDiff]) (fun _ _ _ h => h) rfl rfl (fun _ _ _ _ h => h) (fun _ _ _ _ h => h) (fun _ _ _ _ h => h) (by decide) ?_ ?_
  · rintro i1 x2 _ fr15 h16 hx20 ⟨f18, f19, hS17⟩ f21 f22 oc4 hF7 hr8 Q9 hN10 hB14 hK11 hR12 hE13
    unfold slices_IndexFunc_Chan_b1 at hF7
    simp only [x51_3, run_seq, run_reg, f21, run_mv, run_ops_nil, x51_2, f19, f18, run_ia, B0, reduceIte, reduceEqDiff]
    refine put1_eq (v := .ref (Chan.cells x2) 0) (xia_lstN hx20 rfl) ?_
    simp only [run_ld, B0, reduceIte, reduceEqDiff]
    refine put1_eq (v := .agg [.int .i64 x2.From, .int .i64 x2.To, lst cI x2.Way]) rfl ?_
    obtain ⟨v23, hx24, hF25⟩ := bind_some' hF7
    simp only [run_call, B0, reduceIte, reduceEqDiff]
    refine call1 hm1 (mapM1 (snap_agg (mapM1 snap_int (mapM1 snap_int (mapM1 snap_lst mapM0)))) mapM0) (hf1 _ _ (fun b hb => decide_eq_true hb) x2 v23 hx24) ?_
    simp only [run_ops_nil, x51_1, run_cond, B0, reduceIte, reduceEqDiff]
    refine cond_split (t := v23) (fun hc26 => ?_) (fun hc26 => ?_)
    · rw [iteT hc26] at hF25
      simp only [run_seq, run_reg, run_mv, run_ops_nil, run_ret, B0, reduceIte, reduceEqDiff]
      have e27 := some_inj hF25
      subst e27
      have ho28 := hr8 _ rfl
      have hk29 := hk6
      rw [ho28] at hk29
      dsimp only [jnO] at hk29
      apply hR12
      have he := some_inj hk29
      subst he
      simp only [end_ret1, B0, reduceIte, reduceEqDiff]
      exact rfl
    rw [iteF hc26] at hF25
    simp only [run_skip, run_nil, B0, reduceIte, reduceEqDiff]
    have e30 := some_inj hF25
    exact hN10 _ _ _ e30.symm ⟨f18, f19, hS17⟩ (f21) (f22)
  rintro _ fr32 h33 rfl ⟨f35, f36, hS34⟩
  dsimp only [jnO] at hk6
  unfold slices_IndexFunc_Chan_j1 at hk6
  simp only [run_seq, run_reg, run_mv, run_ops_nil, run_ret, B0, reduceIte, reduceEqDiff]
  have he := some_inj hk6
  subst he
  simp only [end_ret1, B0, reduceIte, reduceEqDiff]
  exact rfl
theorem impl_FinishSnap_2_x {W : Nat → Bool} {h : Heap} (hW : ∀ b,
    (geL h.length) b → W b = true) (c_0 : Chan) (r : Bool) (hF : some (impl_FinishSnap_2 c_0) = some r) : Ret E W 52 [.agg [.int .i64 c_0.From, .int .i64 c_0.To,
    lst cI c_0.Way]] h (fun v h' => cut h.length h' E.sz false 9 v = some (.bool r)) := by
  refine Ret.of (fn := x52) rfl (Run.of ?_)
  unfold impl_FinishSnap_2 at hF
  have zf0 : argFr [.agg [.int .i64 c_0.From, .int .i64 c_0.To, lst cI c_0.Way]] 0 = .agg [.int .i64 c_0.From, .int .i64 c_0.To, lst cI c_0.Way] := rfl
  generalize argFr [.agg [.int .i64 c_0.From, .int .i64 c_0.To, lst cI c_0.Way]] = fr0 at zf0 ⊢
  have hS : Sep h (geL h.length) [] := Sep.nil h
  simp only [x52, run_seq, run_reg, run_box, zf0, B0, reduceIte, reduceEqDiff]
  refine put2_boxC (cs := [.int .i64 c_0.From, .int .i64 c_0.To, lst cI c_0.Way]) hS rfl rfl rfl (fun b1 h2 hS3 => ?_)
  simp only [run_mv, run_ops_nil, B0, reduceIte, reduceEqDiff]
  refine frz_stepC hS3 hW (by simp only [B0, reduceIte, reduceEqDiff]) (fun h5 hS6 => ?_)
  simp only [run_frz_nil, x52_1, run_seq, run_reg, run_fa, put1_some, Nat.reduceAdd, Nat.zero_add, Nat.add_zero, xfa_ref, run_ld, B0, reduceIte, reduceEqDiff]
  refine put1_eq (v := lst cI c_0.Way) rfl ?_
  simp only [run_len, put1_some, xlen_lst, run_bin, xgtr, run_mv, run_ops_nil, run_ret, B0, reduceIte, reduceEqDiff]
  have he := some_inj hF
  subst he
  simp only [end_ret1, B0, reduceIte, reduceEqDiff]
  exact rfl
theorem impl_FinishSnap_x {W : Nat → Bool} {h : Heap} (hW : ∀ b,
    (geL h.length) b → W b = true) (k : Nat) (s_0 : Snap) (r : Snap × Int × Bool) (hF : impl_FinishSnap k s_0 = some r) : Ret E W 14 [.agg [lst cI s_0.Amounts,
    lst Chan.cells s_0.Chans, lst Picture.cells s_0.Pictures, .int .i64 s_0.Sent, .int .i64 s_0.Total]] h (fun v h' => ∃ rv0_0 rc0_0 rv0_1 rc0_1 rv0_2 rc0_2,
    v = .tup [.agg [rv0_0, rv0_1, rv0_2, .int .i64 r.1.Sent, .int .i64 r.1.Total], .int .i64 r.2.1,
    .bool r.2.2] ∧ SlF cI 1 3 rv0_0 r.1.Amounts rc0_0 ∧ SlN Chan.R 3 74 rv0_1 r.1.Chans rc0_1 ∧ SlN Picture.R 4 76 rv0_2 r.1.Pictures rc0_2 ∧ Sep h' (geL h.length) (rc0_0 ++
    (rc0_1 ++ (rc0_2 ++ ([]))))) := by
  refine Ret.of (fn := x14) rfl (Run.of ?_)
  unfold impl_FinishSnap at hF
  have zf0 : argFr [.agg [lst cI s_0.Amounts, lst Chan.cells s_0.Chans, lst Picture.cells s_0.Pictures, .int .i64 s_0.Sent, .int .i64 s_0.Total]] 0 = .agg [lst cI s_0.Amounts,
      lst Chan.cells s_0.Chans, lst Picture.cells s_0.Pictures, .int .i64 s_0.Sent, .int .i64 s_0.Total] := rfl
  generalize argFr [.agg [lst cI s_0.Amounts, lst Chan.cells s_0.Chans, lst Picture.cells s_0.Pictures, .int .i64 s_0.Sent, .int .i64 s_0.Total]] = fr0 at zf0 ⊢
  have hS : Sep h (geL h.length) [] := Sep.nil h
  simp only [x14, run_seq, run_reg, run_box, zf0, B0, reduceIte, reduceEqDiff]
  refine put2_boxC (cs := [lst cI s_0.Amounts, lst Chan.cells s_0.Chans, lst Picture.cells s_0.Pictures, .int .i64 s_0.Sent,
      .int .i64 s_0.Total]) hS rfl rfl rfl (fun b1 h2 hS3 => ?_)
  simp only [run_new, B0, reduceIte, reduceEqDiff]
  refine put2_newC hS3 (fun b5 h6 hS7 => ?_)
  simp only [run_mv, run_ops_nil, B0, reduceIte, reduceEqDiff]
  refine frz_stepC (Sep.m1 hS7) hW (by simp only [B0, reduceIte, reduceEqDiff]) (fun h9 hS10 => ?_)
  simp only [run_frz_nil, x14_18, run_seq, run_reg, run_ld, B0, reduceIte, reduceEqDiff]
  refine put1_eq (v := .agg [lst cI s_0.Amounts, lst Chan.cells s_0.Chans, lst Picture.cells s_0.Pictures, .int .i64 s_0.Sent, .int .i64 s_0.Total]) rfl ?_
  obtain ⟨v11, hx12, hF13⟩ := bind_some' hF
  simp only [run_call, B0, reduceIte, reduceEqDiff]
  refine call1 rfl (mapM1 (snap_agg (mapM1 snap_lst (mapM1 snap_lst (mapM1 snap_lst (mapM1 snap_int (mapM1 snap_int mapM0)))))) mapM0) (impl_isSnap_x
      (fun b hb => decide_eq_true hb) k s_0 v11 hx12) ?_
  simp only [run_un, put1_some, xnot, run_ops_nil, x14_2, run_cond, B0, reduceIte, reduceEqDiff]
  refine cond_split (t := (!v11)) (fun hc14 => ?_) (fun hc14 => ?_)
  · rw [iteT hc14] at hF13
    simp only [x14_1, run_seq, run_reg, run_build, evp, B0, reduceIte, reduceEqDiff]
    refine put1_eq (v := .agg [.nil, .nil, .nil, .int .i64 0, .int .i64 0]) rfl ?_
    simp only [run_st, B0, reduceIte, reduceEqDiff]
    refine put2_stCx (us := [.nil, .nil, .nil, .int .i64 0, .int .i64 0]) rfl (cs' := [.nil, .nil, .nil, .int .i64 0,
        .int .i64 0]) hS10 hW rfl rfl (Nat.le_of_ble_eq_true rfl) rfl (fun h15 hS16 => ?_)
    simp only [run_mv, run_ops_nil, run_ret, B0, reduceIte, reduceEqDiff]
    have he := some_inj hF13
    subst he
    refine end_ret_m (mapM1 (res_cell (bb := b5) (oo := 0) (v := .agg [.nil, .nil, .nil, .int .i64 0,
        .int .i64 0]) (rfl) ((xld_bs (Sep.bk _ _ _ hS16)).trans rfl)) (mapM1 (res_t (v := .int .i64 0) (rfl)) (mapM1 (res_t (v := .bool false) (rfl)) mapM0))) ?_
    exact ⟨.nil, [], .nil, [], .nil, [], by first | trivial | rfl, SlF.nil, SlN.nil, SlN.nil, ((Sep.dc (hS16)) : Sep _ (geL h.length) ([]))⟩
  rw [iteF hc14] at hF13
  simp only [run_skip, x14_17, run_seq, run_reg, run_ld, B0, reduceIte, reduceEqDiff]
  refine put1_eq (v := .agg [lst cI s_0.Amounts, lst Chan.cells s_0.Chans, lst Picture.cells s_0.Pictures, .int .i64 s_0.Sent, .int .i64 s_0.Total]) rfl ?_
  obtain ⟨v17, hx18, hF19⟩ := bind_some' hF13
  simp only [run_call, B0, reduceIte, reduceEqDiff]
  refine call2 rfl hS10 (mapM1 (snap_agg (mapM1 snap_lst (mapM1 snap_lst (mapM1 snap_lst (mapM1 snap_int (mapM1 snap_int mapM0)))))) mapM0) (impl_copySnap_x
      (fun b hb => decide_eq_true hb) s_0 v17 hx18) ?_
  rintro _ h32 ⟨v20, c21, v24, c25, v28, c29, rfl, hv22, hv26, hv30, hS33⟩
  refine ⟨_, free_a (all_c (SlF.free1 hv22) (all_c (SlN.free1 hv26) (all_c (SlN.free1 hv30) (all_c rfl (all_c rfl all_n))))), hS33,
      (pf_app (SlF.pf hv22 (fun _ => rfl)) (pf_app (SlN.pf hv26 Chan.RO) (pf_app (SlN.pf hv30 Picture.RO) pf_nil))), fun h34 hS35 => ?_⟩
  have hS36 : Sep h34 (geL h.length) (c21 ++ (c25 ++ (c29 ++ ([Blk1 b5 [.nil, .nil, .nil, .int .i64 0, .int .i64 0] 30] ++ ([]))))) := by simpa only [List.append_assoc,
      List.nil_append] using hS35
  simp only [run_new, B0, reduceIte, reduceEqDiff]
  refine put2_newC hS36 (fun b37 h38 hS39 => ?_)
  simp only [run_st, B0, reduceIte, reduceEqDiff]
  refine put2_stCx (us := [v20, v24, v28, .int .i64 v17.Sent, .int .i64 v17.Total]) rfl (cs' := [v20, v24, v28, .int .i64 v17.Sent,
      .int .i64 v17.Total]) hS39 hW rfl (all_c (SlF.one hv22) (all_c (SlN.one hv26) (all_c (SlN.one hv30) (all_c rfl (all_c rfl all_n))))) (Nat.le_of_ble_eq_true rfl) rfl
      (fun h41 hS42 => ?_)
  simp only [run_ops_nil, x14_16, run_seq, run_reg, run_fa, put1_some, Nat.reduceAdd, Nat.zero_add, Nat.add_zero, xfa_ptr, run_ld, B0, reduceIte, reduceEqDiff]
  refine put1_eq (v := v28) ((xld_b (Sep.bk _ _ _ hS42)).trans rfl) ?_
  obtain ⟨v43, hx44, hF45⟩ := bind_some' hF19
  simp only [run_call, B0, reduceIte, reduceEqDiff]
  refine call1 rfl (mapM1 (SlN.snap hv30 _ (Sep.m3 hS42) rfl Picture.RO) (mapM1 snap_fn mapM0)) (slices_ContainsFunc_Picture_x (fun b hb => decide_eq_true hb) v17.Pictures
      (g1 := 50) (caps1 := []) rfl (fun a0 => some (impl_FinishSnap_1 a0)) (fun W h hW a0 r hr => impl_FinishSnap_1_x hW a0 r hr) v43 hx44) ?_
  simp only [run_un, put1_some, xnot, run_mv, B0, reduceIte, reduceEqDiff]
  obtain ⟨sv60, hX58, hk59⟩ := bind_some' hF45
  refine ops_j 4 (fun fr' h' => ∃ c49 c52 c55,
      fr' 2 = .ptr b5 0 ∧ fr' 5 = .ptr b37 0 ∧ fr' 22 = .bool sv60.1 ∧ SlF cI 1 3 v20 sv60.2.2.1 c49 ∧ SlN Chan.R 3 74 v24 sv60.2.2.2.1 c52 ∧ SlN Picture.R 4 76 v28 sv60.2.2.2.2 c55 ∧ Sep h'
      (geL h.length) ([Blk1 b5 [.nil, .nil, .nil, .int .i64 0, .int .i64 0] 30] ++ ([Blk1 b37 [v20, v24, v28, .int .i64 sv60.2.1.Sent,
      .int .i64 sv60.2.1.Total] 30] ++ (c49 ++ (c52 ++ (c55 ++ ([]))))))) (fun Q61 hN62 => ?_) ?_
  · simp only [List.take_succ_cons, List.take_zero]
    simp only [run_guard (g := 18), B0, reduceIte, reduceEqDiff]
    refine guard_split (t := (!v43)) (fun hg65 => ?_) (fun hg65 => ?_)
    · rw [iteT hg65] at hX58
      simp only [hg65, run_guard (g := 18), guard_true, run_build, evp, B0, reduceIte, reduceEqDiff]
      refine put1_eq (v := .agg [.int .i64 3, .int .i64 0, .int .i64 0]) rfl ?_
      obtain ⟨v66, hx67, hF68⟩ := bind_some' hX58
      simp only [hg65, run_guard (g := 18), guard_true, run_call, B0, reduceIte, reduceEqDiff]
      refine call0 rfl (impl_Snap_step_x hW b37 v17 v20 c21 hv22 v24 c25 hv26 v28 c29 hv30 (SnapStep.mk 3 0 0) v66 hx67 (Sep.m3 (Sep.m3 (Sep.m3 (Sep.m3 hS42))))) ?_
      rintro _ h75 ⟨c69, c71, c73, rfl, hv70, hv72, hv74, hS76⟩
      simp only [hg65, run_guard (g := 18), guard_true, run_un, put1_some, xnot, run_pick, xpick_t, run_ops_nil, run_nil, B0, reduceIte, reduceEqDiff]
      have e77 := some_inj hF68
      subst e77
      exact hN62 _ _ ⟨c69, c71, c73, rfl, rfl, rfl, hv70, hv72, hv74, (Sep.m4 (Sep.m3 (Sep.m3 (Sep.m3 (Sep.m3 hS76)))))⟩
    · rw [iteF hg65] at hX58
      simp only [hg65, run_guard (g := 18), guard_off, run_pick, put1_some, xpick_f, run_ops_nil, run_nil, B0, reduceIte, reduceEqDiff]
      have e78 := some_inj hX58
      subst e78
      exact hN62 _ _ ⟨c21, c25, c29, rfl, rfl, rfl, hv22, hv26, hv30, (Sep.m4 (Sep.m3 (Sep.m3 (Sep.m3 (Sep.m3 hS42)))))⟩
  rintro fr79 h80 ⟨c49, c52, c55, f82, f83, f84, hv50, hv53, hv56, hS81⟩
  obtain ⟨s46, s47, s48, s51, s54⟩ := sv60
  dsimp only at *
  unfold impl_FinishSnap_j1 at hk59
  simp only [List.drop_succ_cons, List.drop_zero]
  simp only [run_ops_nil, x14_4, f84, run_cond, B0, reduceIte, reduceEqDiff]
  refine cond_split (t := s46) (fun hc85 => ?_) (fun hc85 => ?_)
  · rw [iteT hc85] at hk59
    simp only [x14_3, run_seq, run_reg, run_build, evp, B0, reduceIte, reduceEqDiff]
    refine put1_eq (v := .agg [.nil, .nil, .nil, .int .i64 0, .int .i64 0]) rfl ?_
    simp only [f82, run_st, B0, reduceIte, reduceEqDiff]
    refine put2_stCx (us := [.nil, .nil, .nil, .int .i64 0, .int .i64 0]) rfl (cs' := [.nil, .nil, .nil, .int .i64 0,
        .int .i64 0]) hS81 hW rfl rfl (Nat.le_of_ble_eq_true rfl) rfl (fun h86 hS87 => ?_)
    simp only [run_mv, run_ops_nil, run_ret, B0, reduceIte, reduceEqDiff]
    have he := some_inj hk59
    subst he
    refine end_ret_m (mapM1 (res_cell (bb := b5) (oo := 0) (v := .agg [.nil, .nil, .nil, .int .i64 0,
        .int .i64 0]) (f82) ((xld_bs (Sep.bk _ _ _ hS87)).trans rfl)) (mapM1 (res_t (v := .int .i64 0) (rfl)) (mapM1 (res_t (v := .bool false) (rfl)) mapM0))) ?_
    exact ⟨.nil, [], .nil, [], .nil, [], by first | trivial | rfl, SlF.nil, SlN.nil, SlN.nil,
        ((Sep.dc ((Sep.dc ((Sep.dc ((Sep.dc ((Sep.dc (hS87)))))))))) : Sep _ (geL h.length) ([]))⟩
  rw [iteF hc85] at hk59
  simp only [run_skip, x14_15, run_seq, run_reg, run_mv, run_ops_nil, B0, reduceIte, reduceEqDiff]
  obtain ⟨oc112, hX114, hk115⟩ := jn_some hk59
  simp only [x14_14]
  refine loopF_j (σ := Int × Snap × (List Int) × (List Chan) × (List Picture)) (fun s158 => impl_FinishSnap_b1 s158.1 s158.2.1 s158.2.2.1 s158.2.2.2.1 s158.2.2.2.2)
      (fun s fr' h' => ∃ c102 c105 c108, fr' 2 = .ptr b5 0 ∧ fr' 5 = .ptr b37 0 ∧ fr' 6 = .int .i64 s.1 ∧ SlF cI 1 3 v20 s.2.2.1 c102 ∧ SlN Chan.R 3 74 v24 s.2.2.2.1 c105 ∧ SlN Picture.R 4 76 v28 s.2.2.2.2 c108 ∧ Sep h'
      (geL h.length) ([Blk1 b5 [.nil, .nil, .nil, .int .i64 0, .int .i64 0] 30] ++ ([Blk1 b37 [v20, v24, v28, .int .i64 s.2.1.Sent,
      .int .i64 s.2.1.Total] 30] ++ (c102 ++ (c105 ++ (c108 ++ ([]))))))) hX114 ⟨c49, c52, c55, f82, f83, rfl, hv50, hv53, hv56,
      (Sep.m4 (Sep.m4 (Sep.m4 (Sep.m4 (Sep.m4 hS81)))))⟩ (fun _ _ _ h => h) ?_ ?_
  · rintro ⟨s99, s100, s101, s104, s107⟩ fr124 h125 ⟨c102, c105, c108, f127, f128, f129, hv103, hv106, hv109, hS126⟩ oc113 hF116 hr117 Q118 hN119 hK120 hR121 hE122
    dsimp only at *
    unfold impl_FinishSnap_b1 at hF116
    simp only [x14_12, run_block, x14_11, run_seq, run_reg, f128, run_fa, put1_some, Nat.reduceAdd, Nat.zero_add, Nat.add_zero, xfa_ptr, run_ld, B0, reduceIte, reduceEqDiff]
    refine put1_eq (v := v24) ((xld_b (Sep.bk _ _ _ (Sep.m1 hS126))).trans rfl) ?_
    obtain ⟨v131, hx132, hF133⟩ := bind_some' hF116
    simp only [run_call, B0, reduceIte, reduceEqDiff]
    refine call1 rfl (mapM1 (SlN.snap hv106 _ (Sep.m3 hS126) rfl Chan.RO) (mapM1 snap_fn mapM0)) (slices_IndexFunc_Chan_x (fun b hb => decide_eq_true hb) s104 (g1 := 52)
        (caps1 := []) rfl (fun a0 => some (impl_FinishSnap_2 a0)) (fun W h hW a0 r hr => impl_FinishSnap_2_x hW a0 r hr) v131 hx132) ?_
    simp only [run_mv, run_ops_nil, x14_10, run_seq, run_reg, run_bin, put1_some, xlss, x14_6, run_cond, B0, reduceIte, reduceEqDiff]
    refine cond_split (t := (decide (v131 < 0))) (fun hc134 => ?_) (fun hc134 => ?_)
    · rw [iteT hc134] at hF133
      simp only [x14_5, run_seq, run_reg, f128, run_ld, B0, reduceIte, reduceEqDiff]
      refine put1_eq (v := .agg [v20, v24, v28, .int .i64 s100.Sent, .int .i64 s100.Total]) ((xld_bs (Sep.bk _ _ _ (Sep.m1 hS126))).trans rfl) ?_
      simp only [f129, run_mv, f127, run_st, B0, reduceIte, reduceEqDiff]
      refine put2_stCx (us := [v20, v24, v28, .int .i64 s100.Sent, .int .i64 s100.Total]) rfl (cs' := [v20, v24, v28, .int .i64 s100.Sent,
          .int .i64 s100.Total]) hS126 hW rfl (all_c (SlF.one hv103) (all_c (SlN.one hv106) (all_c (SlN.one hv109) (all_c rfl (all_c rfl all_n)))))
          (Nat.le_of_ble_eq_true rfl) rfl (fun h135 hS136 => ?_)
      simp only [run_mv, run_ops_nil, run_ret, B0, reduceIte, reduceEqDiff]
      have e137 := some_inj hF133
      subst e137
      have ho138 := hr117 _ rfl
      have hk139 := hk115
      rw [ho138] at hk139
      dsimp only [jnO] at hk139
      apply hR121
      have he := some_inj hk139
      subst he
      refine end_ret_m (mapM1 (res_cell (bb := b5) (oo := 0) (v := .agg [v20, v24, v28, .int .i64 s100.Sent,
          .int .i64 s100.Total]) (f127) ((xld_bs (Sep.bk _ _ _ hS136)).trans rfl)) (mapM1 (res_t (v := .int .i64 s99) (rfl)) (mapM1 (res_t (v := .bool true) (rfl)) mapM0))) ?_
      exact ⟨v20, c102, v24, c105, v28, c108, by first | trivial | rfl, hv103, hv106, hv109, (Sep.m2 (Sep.m2 (Sep.m2 (Sep.dc ((Sep.dc (hS136)))))))⟩
    rw [iteF hc134] at hF133
    simp only [run_skip, x14_9, run_seq, run_reg, run_mv, run_build, evp, B0, reduceIte, reduceEqDiff]
    refine put1_eq (v := .agg [.int .i64 2, .int .i64 v131, .int .i64 0]) rfl ?_
    obtain ⟨v140, hx141, hF142⟩ := bind_some' hF133
    simp only [f128, run_call, B0, reduceIte, reduceEqDiff]
    refine call0 rfl (impl_Snap_step_x hW b37 (Snap.mk s101 s104 s107 s100.Sent s100.Total) v20 c102 hv103 v24 c105 hv106 v28 c108 hv109 (SnapStep.mk 2 v131 0) v140 hx141 (Sep.m4
        (Sep.m4 (Sep.m4 (Sep.m4 hS126))))) ?_
    rintro _ h149 ⟨c143, c145, c147, rfl, hv144, hv146, hv148, hS150⟩
    simp only [run_un, put1_some, xnot, run_ops_nil, x14_8, run_cond, B0, reduceIte, reduceEqDiff]
    refine cond_split (t := (!v140.1)) (fun hc151 => ?_) (fun hc151 => ?_)
    · rw [iteT hc151] at hF142
      simp only [x14_7, run_seq, run_reg, run_build, evp, B0, reduceIte, reduceEqDiff]
      refine put1_eq (v := .agg [.nil, .nil, .nil, .int .i64 0, .int .i64 0]) rfl ?_
      simp only [f127, run_st, B0, reduceIte, reduceEqDiff]
      refine put2_stCx (us := [.nil, .nil, .nil, .int .i64 0, .int .i64 0]) rfl (cs' := [.nil, .nil, .nil, .int .i64 0,
          .int .i64 0]) (Sep.m4 hS150) hW rfl rfl (Nat.le_of_ble_eq_true rfl) rfl (fun h152 hS153 => ?_)
      simp only [run_mv, run_ops_nil, run_ret, B0, reduceIte, reduceEqDiff]
      have e154 := some_inj hF142
      subst e154
      have ho155 := hr117 _ rfl
      have hk156 := hk115
      rw [ho155] at hk156
      dsimp only [jnO] at hk156
      apply hR121
      have he := some_inj hk156
      subst he
      refine end_ret_m (mapM1 (res_cell (bb := b5) (oo := 0) (v := .agg [.nil, .nil, .nil, .int .i64 0,
          .int .i64 0]) (f127) ((xld_bs (Sep.bk _ _ _ hS153)).trans rfl)) (mapM1 (res_t (v := .int .i64 0) (rfl)) (mapM1 (res_t (v := .bool false) (rfl)) mapM0))) ?_
      exact ⟨.nil, [], .nil, [], .nil, [], by first | trivial | rfl, SlF.nil, SlN.nil, SlN.nil,
          ((Sep.dc ((Sep.dc ((Sep.dc ((Sep.dc ((Sep.dc (hS153)))))))))) : Sep _ (geL h.length) ([]))⟩
    rw [iteF hc151] at hF142
    simp only [run_skip, run_reg, f129, run_mv, run_bin, put1_some, xadd, run_ops_nil, run_blk, run_nil, B0, reduceIte, reduceEqDiff]
    have e157 := some_inj hF142
    exact hN119 _ _ _ e157.symm ⟨c143, c145, c147, f127, f128, rfl, hv144, hv146, hv148, (Sep.m4 (Sep.m3 (Sep.m3 (Sep.m3 (Sep.m3 hS150)))))⟩
  rintro ⟨s159, s160, s161, s164, s167⟩ fr170 h171 rfl ⟨c162, c165, c168, f173, f174, f175, hv163, hv166, hv169, hS172⟩
  dsimp only [jnO] at hk115
  dsimp only at *
  unfold impl_FinishSnap_j2 at hk115
  cases hk115
end Go.Proofs.Ytpkiieniipenjaa.X
