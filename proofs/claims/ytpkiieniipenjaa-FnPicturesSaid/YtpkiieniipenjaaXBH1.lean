/- The functions' code comes to what the plain functions say (1). -/
import Derived.Test.YtpkiieniipenjaaXBF
import Derived.Test.YtpkiieniipenjaaXBD
set_option linter.unusedVariables false
set_option linter.unusedSimpArgs false
set_option maxRecDepth 100000
namespace Go.Proofs.Ytpkiieniipenjaa.X
open Go
open Nat (reduceEqDiff)
def Chan.R : Rep Chan := fun x cs os => ∃ (v2 : XV) (c2 : List Obj), SlF cI 1 3 v2 x.Way c2 ∧ cs = [.int .i64 x.From, .int .i64 x.To, v2] ∧ c2 = os
theorem Chan.RI {x : Chan} {v2 : XV} {c2 : List Obj} (h2 : SlF cI 1 3 v2 x.Way c2) : Chan.R x [.int .i64 x.From, .int .i64 x.To, v2] (c2) := ⟨v2, c2, h2, rfl, rfl⟩
theorem Chan.RO : RepOk E.sz Chan.R Chan.cells 3 where
  len := fun {x cs os} H => by
    obtain ⟨v2, c2, h2, rfl, rfl⟩ := H
    rfl
  flen := fun _ => rfl
  one := fun {x cs os} H => by
    obtain ⟨v2, c2, h2, rfl, rfl⟩ := H
    exact (all_c rfl (all_c rfl (all_c (SlF.one h2) all_n)))
  snap := fun {x cs os h lo S} m H hS => by
    obtain ⟨v2, c2, h2, rfl, rfl⟩ := H
    have hS2 : Sep h lo (c2 ++ S) := (by simpa only [List.append_assoc] using hS)
    exact (mapM1 snap_int (mapM1 snap_int (mapM1 (SlF.snap h2 hS2 rfl (fun _ => rfl) (fun _ => rfl)) mapM0)))
  cut := fun {x cs os h lo n0 keep S} m H hS hge => by
    obtain ⟨v2, c2, h2, rfl, rfl⟩ := H
    have hS2 : Sep h lo (c2 ++ S) := (by simpa only [List.append_assoc] using hS)
    exact (mapM1 rfl (mapM1 rfl (mapM1 (SlF.cut h2 hS2 hge rfl (fun _ => rfl) (fun _ => rfl)) mapM0)))
  free := fun {x cs os} H => by
    obtain ⟨v2, c2, h2, rfl, rfl⟩ := H
    exact (all_c rfl (all_c rfl (all_c (SlF.free1 h2) all_n)))
  pf := fun {x cs os} H => by
    obtain ⟨v2, c2, h2, rfl, rfl⟩ := H
    exact (SlF.pf h2 (fun _ => rfl))
def Picture.R : Rep Picture := fun x cs os => ∃ (v2 : XV) (c2 : List Obj) (v3 : XV) (c3 : List Obj), SlF cI 1 3 v2 x.In c2 ∧ SlF cB 1 4 v3 x.Closed c3 ∧ cs = [.bool x.Taken,
    .int .i64 x.Amount, v2, v3] ∧ c2 ++ (c3) = os
theorem Picture.RI {x : Picture} {v2 : XV} {c2 : List Obj} (h2 : SlF cI 1 3 v2 x.In c2) {v3 : XV} {c3 : List Obj} (h3 : SlF cB 1 4 v3 x.Closed c3) : Picture.R x [.bool x.Taken,
    .int .i64 x.Amount, v2, v3] (c2 ++ (c3)) := ⟨v2, c2, v3, c3, h2, h3, rfl, rfl⟩
theorem Picture.RO : RepOk E.sz Picture.R Picture.cells 4 where
  len := fun {x cs os} H => by
    obtain ⟨v2, c2, v3, c3, h2, h3, rfl, rfl⟩ := H
    rfl
  flen := fun _ => rfl
  one := fun {x cs os} H => by
    obtain ⟨v2, c2, v3, c3, h2, h3, rfl, rfl⟩ := H
    exact (all_c rfl (all_c rfl (all_c (SlF.one h2) (all_c (SlF.one h3) all_n))))
  snap := fun {x cs os h lo S} m H hS => by
    obtain ⟨v2, c2, v3, c3, h2, h3, rfl, rfl⟩ := H
    have hS2 : Sep h lo (c2 ++ (c3 ++ S)) := (by simpa only [List.append_assoc] using hS)
    exact (mapM1 snap_bool (mapM1 snap_int (mapM1 (SlF.snap h2 hS2 rfl (fun _ => rfl) (fun _ => rfl)) (mapM1 (SlF.snap h3 (Sep.m1 hS2) rfl (fun _ => rfl) (fun _ => rfl)) mapM0))))
  cut := fun {x cs os h lo n0 keep S} m H hS hge => by
    obtain ⟨v2, c2, v3, c3, h2, h3, rfl, rfl⟩ := H
    have hS2 : Sep h lo (c2 ++ (c3 ++ S)) := (by simpa only [List.append_assoc] using hS)
    exact (mapM1 rfl (mapM1 rfl (mapM1 (SlF.cut h2 hS2 hge rfl (fun _ => rfl) (fun _ => rfl)) (mapM1 (SlF.cut h3 (Sep.m1 hS2) hge rfl (fun _ => rfl) (fun _ => rfl)) mapM0))))
  free := fun {x cs os} H => by
    obtain ⟨v2, c2, v3, c3, h2, h3, rfl, rfl⟩ := H
    exact (all_c rfl (all_c rfl (all_c (SlF.free1 h2) (all_c (SlF.free1 h3) all_n))))
  pf := fun {x cs os} H => by
    obtain ⟨v2, c2, v3, c3, h2, h3, rfl, rfl⟩ := H
    exact (pf_app (SlF.pf h2 (fun _ => rfl)) (SlF.pf h3 (fun _ => rfl)))
theorem spec_next_x {W : Nat → Bool} {h : Heap} {lo : Nat → Prop} {S0 : List Obj} (hW : ∀ b,
    lo b → W b = true) (pb0 : Nat) (c_0 : L1Cur) (r : Int × L1Cur) (hF : spec_next c_0 = some r) (hS : Sep h lo ([Blk1 pb0 [lst cU8 c_0.code, .int .i64 c_0.at_,
    .int .u64 c_0.seed] 64] ++ (S0))) : Ret E W 74 [.ptr pb0 0] h (fun v h' => v = .int .i64 r.1 ∧ Sep h' lo ([Blk1 pb0 [lst cU8 r.2.code, .int .i64 r.2.at_,
    .int .u64 r.2.seed] 64] ++ (S0))) := by
  refine Ret.of (fn := x74) rfl (Run.of ?_)
  unfold spec_next at hF
  have zf0 : argFr [.ptr pb0 0] 0 = .ptr pb0 0 := rfl
  generalize argFr [.ptr pb0 0] = fr0 at zf0 ⊢
  simp only [x74, run_seq, run_reg, run_mv, run_ops_nil, x74_9, x74_8, run_draw, zf0, d4_mv, put1d_some, d4_chk, xchk_ptr, d4_fa, Nat.reduceAdd, Nat.zero_add, Nat.add_zero,
      xfa_ptr, d4_ld, B0, reduceIte, reduceEqDiff]
  refine put1d_eq (v := .int .i64 c_0.at_) ((xld_b (Sep.bk _ _ _ hS)).trans rfl) ?_
  simp only [zf0, d4_mv, put1d_some, d4_chk, xchk_ptr, d4_fa, Nat.reduceAdd, Nat.zero_add, Nat.add_zero, xfa_ptr, d4_ld, B0, reduceIte, reduceEqDiff]
  refine put1d_eq (v := lst cU8 c_0.code) ((xld_b (Sep.bk _ _ _ hS)).trans rfl) ?_
  simp only [d4_len, put1d_some, xlen_lst, d4_bin, xlss, run_draw_nil, x74_2, run_cond, B0, reduceIte, reduceEqDiff]
  obtain ⟨s1, hX3, hk4⟩ := bind_some' hF
  refine cond_j (t := (decide (c_0.at_ < (List.length c_0.code : Int)))) (fun fr' h' => fr' 0 = .ptr pb0 0 ∧ fr' 3 = .int .i64 s1 ∧ Sep h' lo ([Blk1 pb0 [lst cU8 c_0.code,
      .int .i64 c_0.at_, .int .u64 c_0.seed] 64] ++ (S0))) (fun Q5 hN6 hR7 hE8 => ⟨fun hc9 => ?_, fun hc9 => ?_⟩) ?_
  · rw [iteT hc9] at hX3
    simp only [x74_1, run_draw, zf0, d4_mv, put1d_some, d4_chk, xchk_ptr, d4_fa, Nat.reduceAdd, Nat.zero_add, Nat.add_zero, xfa_ptr, d4_ld, B0, reduceIte, reduceEqDiff]
    refine put1d_eq (v := lst cU8 c_0.code) ((xld_b (Sep.bk _ _ _ hS)).trans rfl) ?_
    simp only [zf0, d4_mv, put1d_some, d4_chk, xchk_ptr, d4_fa, Nat.reduceAdd, Nat.zero_add, Nat.add_zero, xfa_ptr, d4_ld, B0, reduceIte, reduceEqDiff]
    refine put1d_eq (v := .int .i64 c_0.at_) ((xld_b (Sep.bk _ _ _ hS)).trans rfl) ?_
    obtain ⟨x10, hx11, hF12⟩ := bind_some' hX3
    simp only [d4_ia, B0, reduceIte, reduceEqDiff]
    refine put1d_eq (v := .ref (cU8 x10) 0) (xia_lst hx11 rfl) ?_
    simp only [d4_ld, B0, reduceIte, reduceEqDiff]
    refine put1d_eq (v := .int .u8 x10) rfl ?_
    simp only [d4_cvt, put1d_some, xcvt_i, d4_mv, run_draw_nil, run_nil, B0, reduceIte, reduceEqDiff]
    have e13 := some_inj hF12
    subst e13
    exact hN6 _ _ ⟨zf0, rfl, hS⟩
  · rw [iteF hc9] at hX3
    simp only [run_skip, run_nil, B0, reduceIte, reduceEqDiff]
    have e14 := some_inj hX3
    subst e14
    exact hN6 _ _ ⟨zf0, rfl, hS⟩
  rintro fr15 h16 ⟨f18, f19, hS17⟩
  unfold spec_next_j1 at hk4
  simp only [x74_7, run_seq, run_reg, f18, run_mv, run_chk, put1_some, xchk_ptr, run_fa, Nat.reduceAdd, Nat.zero_add, Nat.add_zero, xfa_ptr, run_ld, B0, reduceIte, reduceEqDiff]
  refine put1_eq (v := .int .i64 c_0.at_) ((xld_b (Sep.bk _ _ _ hS17)).trans rfl) ?_
  simp only [run_bin, put1_some, xadd, run_chk, xchk_ptr, run_fa, Nat.reduceAdd, Nat.zero_add, Nat.add_zero, xfa_ptr, run_st, B0, reduceIte, reduceEqDiff]
  refine put2_stCx (us := [.int .i64 (IntKind.wrap .i64 (c_0.at_ + 1))]) rfl (cs' := [lst cU8 c_0.code, .int .i64 (IntKind.wrap .i64 (c_0.at_ + 1)),
      .int .u64 c_0.seed]) hS17 hW rfl rfl (Nat.le_of_ble_eq_true rfl) rfl (fun h20 hS21 => ?_)
  simp only [run_ops_nil, x74_6, run_seq, run_reg, f18, run_mv, run_chk, put1_some, xchk_ptr, run_fa, Nat.reduceAdd, Nat.zero_add, Nat.add_zero, xfa_ptr, run_ld, B0, reduceIte,
      reduceEqDiff]
  refine put1_eq (v := .int .u64 c_0.seed) ((xld_b (Sep.bk _ _ _ hS21)).trans rfl) ?_
  simp only [run_bin, put1_some, xmul, f19, run_mv, run_cvt, xcvt_i, xadd, run_chk, xchk_ptr, run_fa, Nat.reduceAdd, Nat.zero_add, Nat.add_zero, xfa_ptr, run_st, B0, reduceIte,
      reduceEqDiff]
  refine put2_stCx (us := [.int .u64 (IntKind.wrap .u64 ((IntKind.wrap .u64 ((IntKind.wrap .u64 (c_0.seed * 6364136223846793005)) +
      (IntKind.wrap .u64 s1))) + 1442695040888963407))]) rfl (cs' := [lst cU8 c_0.code, .int .i64 (IntKind.wrap .i64 (c_0.at_ + 1)),
      .int .u64 (IntKind.wrap .u64 ((IntKind.wrap .u64 ((IntKind.wrap .u64 (c_0.seed * 6364136223846793005)) + (IntKind.wrap .u64 s1))) + 1442695040888963407))]) hS21 hW rfl rfl
      (Nat.le_of_ble_eq_true rfl) rfl (fun h22 hS23 => ?_)
  simp only [run_ops_nil, x74_5, run_seq, run_draw, f18, d4_mv, put1d_some, d4_chk, xchk_ptr, d4_fa, Nat.reduceAdd, Nat.zero_add, Nat.add_zero, xfa_ptr, d4_ld, B0, reduceIte,
      reduceEqDiff]
  refine put1d_eq (v := .int .i64 (IntKind.wrap .i64 (c_0.at_ + 1))) ((xld_b (Sep.bk _ _ _ hS23)).trans rfl) ?_
  simp only [f18, d4_mv, put1d_some, d4_chk, xchk_ptr, d4_fa, Nat.reduceAdd, Nat.zero_add, Nat.add_zero, xfa_ptr, d4_ld, B0, reduceIte, reduceEqDiff]
  refine put1d_eq (v := lst cU8 c_0.code) ((xld_b (Sep.bk _ _ _ hS23)).trans rfl) ?_
  simp only [d4_len, put1d_some, xlen_lst, d4_bin, xleq, run_draw_nil, x74_3, run_cond, B0, reduceIte, reduceEqDiff]
  refine cond_split (t := (decide ((IntKind.wrap .i64 (c_0.at_ + 1)) ≤ (List.length c_0.code : Int)))) (fun hc24 => ?_) (fun hc24 => ?_)
  · rw [iteT hc24] at hk4
    simp only [run_seq, run_reg, f19, run_mv, run_ops_nil, run_ret, B0, reduceIte, reduceEqDiff]
    have he := some_inj hk4
    subst he
    simp only [end_ret1, B0, reduceIte, reduceEqDiff]
    exact ⟨by first | trivial | rfl, hS23⟩
  rw [iteF hc24] at hk4
  simp only [run_skip, x74_4, run_seq, run_reg, f18, run_mv, run_chk, put1_some, xchk_ptr, run_fa, Nat.reduceAdd, Nat.zero_add, Nat.add_zero, xfa_ptr, run_ld, B0, reduceIte,
      reduceEqDiff]
  refine put1_eq (v := .int .u64 (IntKind.wrap .u64 ((IntKind.wrap .u64 ((IntKind.wrap .u64 (c_0.seed * 6364136223846793005)) + (IntKind.wrap .u64 s1))) + 1442695040888963407)))
      ((xld_b (Sep.bk _ _ _ hS23)).trans rfl) ?_
  simp only [run_bin, put1_some, xshr_nn (n := 40) (by decide), xand_i, run_cvt, xcvt_i, run_mv, run_ops_nil, run_ret, B0, reduceIte, reduceEqDiff]
  have he := some_inj hk4
  subst he
  simp only [end_ret1, B0, reduceIte, reduceEqDiff]
  exact ⟨by first | trivial | rfl, hS23⟩
theorem spec_pick_x {W : Nat → Bool} {h : Heap} {lo : Nat → Prop} {S0 : List Obj} (hW : ∀ b,
    lo b → W b = true) (pb0 : Nat) (c_0 : L1Cur) (n_1 : Int) (r : Int × L1Cur) (hF : spec_pick c_0 n_1 = some r) (hS : Sep h lo ([Blk1 pb0 [lst cU8 c_0.code, .int .i64 c_0.at_,
    .int .u64 c_0.seed] 64] ++ (S0))) : Ret E W 36 [.ptr pb0 0, .int .i64 n_1] h (fun v h' => v = .int .i64 r.1 ∧ Sep h' lo ([Blk1 pb0 [lst cU8 r.2.code, .int .i64 r.2.at_,
    .int .u64 r.2.seed] 64] ++ (S0))) := by
  refine Ret.of (fn := x36) rfl (Run.of ?_)
  unfold spec_pick at hF
  have zf0 : argFr [.ptr pb0 0, .int .i64 n_1] 0 = .ptr pb0 0 := rfl
  have zf1 : argFr [.ptr pb0 0, .int .i64 n_1] 1 = .int .i64 n_1 := rfl
  generalize argFr [.ptr pb0 0, .int .i64 n_1] = fr0 at zf0 zf1 ⊢
  simp only [x36, run_seq, run_reg, run_mv, run_ops_nil, x36_6, zf1, run_bin, put1_some, xleq, run_cond, B0, reduceIte, reduceEqDiff]
  refine cond_split (t := (decide (n_1 ≤ 1))) (fun hc1 => ?_) (fun hc1 => ?_)
  · rw [iteT hc1] at hF
    simp only [run_seq, run_reg, run_mv, run_ops_nil, run_ret, B0, reduceIte, reduceEqDiff]
    have he := some_inj hF
    subst he
    simp only [end_ret1, B0, reduceIte, reduceEqDiff]
    exact ⟨by first | trivial | rfl, hS⟩
  rw [iteF hc1] at hF
  obtain ⟨v2, hx3, hF4⟩ := bind_some' hF
  simp only [run_skip, x36_5, run_seq, run_reg, zf0, run_mv, run_call, B0, reduceIte, reduceEqDiff]
  refine call0 rfl (spec_next_x hW pb0 c_0 v2 hx3 hS) ?_
  rintro _ h5 ⟨rfl, hS6⟩
  simp only [run_mv, run_ops_nil, x36_4, run_seq, run_reg, zf1, run_bin, put1_some, xgtr, x36_2, run_cond, B0, reduceIte, reduceEqDiff]
  refine cond_split (t := (decide ((200 : Int) < n_1))) (fun hc7 => ?_) (fun hc7 => ?_)
  · rw [iteT hc7] at hF4
    obtain ⟨v8, hx9, hF10⟩ := bind_some' hF4
    simp only [x36_1, run_reg, run_mv, run_bin, put1_some, xmul, zf0, run_call, B0, reduceIte, reduceEqDiff]
    refine call0 rfl (spec_next_x hW pb0 v2.2 v8 hx9 hS6) ?_
    rintro _ h11 ⟨rfl, hS12⟩
    obtain ⟨hp13, hF14⟩ := ck_some hF10
    simp only [run_bin, put1_some, xadd, run_mv, run_ops_nil, x36_3, run_seq, run_reg, zf1, xrem_nz (n := n_1) hp13, run_ret, B0, reduceIte, reduceEqDiff]
    have he := some_inj hF14
    subst he
    simp only [end_ret1, B0, reduceIte, reduceEqDiff]
    exact ⟨by first | trivial | rfl, hS12⟩
  rw [iteF hc7] at hF4
  obtain ⟨hp15, hF16⟩ := ck_some hF4
  simp only [run_skip, x36_3, run_seq, run_reg, run_mv, zf1, run_bin, put1_some, xrem_nz (n := n_1) hp15, run_ops_nil, run_ret, B0, reduceIte, reduceEqDiff]
  have he := some_inj hF16
  subst he
  simp only [end_ret1, B0, reduceIte, reduceEqDiff]
  exact ⟨by first | trivial | rfl, hS6⟩
theorem spec_among_x {W : Nat → Bool} {h : Heap} {lo : Nat → Prop} {S0 : List Obj} (hW : ∀ b,
    lo b → W b = true) (pb0 : Nat) (c_0 : L1Cur) (pv1 : XV) (pc1 : List Obj) (list_1 : List Int) (ph1 : SlF cI 1 3 pv1 list_1 pc1) (r : Int × L1Cur × (List Int))
    (hF : spec_among c_0 list_1 = some r) (hS : Sep h lo ([Blk1 pb0 [lst cU8 c_0.code, .int .i64 c_0.at_, .int .u64 c_0.seed] 64] ++ (pc1 ++ (S0)))) : Ret E W 37 [.ptr pb0 0,
    pv1] h (fun v h' => ∃ ic1, v = .int .i64 r.1 ∧ SlF cI 1 3 pv1 r.2.2 ic1 ∧ Sep h' lo ([Blk1 pb0 [lst cU8 r.2.1.code, .int .i64 r.2.1.at_,
    .int .u64 r.2.1.seed] 64] ++ (ic1 ++ (S0)))) := by
  refine Ret.of (fn := x37) rfl (Run.of ?_)
  unfold spec_among at hF
  have zf0 : argFr [.ptr pb0 0, pv1] 0 = .ptr pb0 0 := rfl
  have zf1 : argFr [.ptr pb0 0, pv1] 1 = pv1 := rfl
  generalize argFr [.ptr pb0 0, pv1] = fr0 at zf0 zf1 ⊢
  obtain ⟨v1, hx2, hF3⟩ := bind_some' hF
  simp only [x37, run_seq, run_reg, run_mv, run_ops_nil, x37_1, zf1, zf0, run_len, put1_some, SlF.plen ph1, run_call, B0, reduceIte, reduceEqDiff]
  refine call0 rfl (spec_pick_x hW pb0 c_0 (List.length list_1 : Int) v1 hx2 hS) ?_
  rintro _ h4 ⟨rfl, hS5⟩
  obtain ⟨x6, hx7, hF8⟩ := bind_some' hF3
  simp only [run_ia, B0, reduceIte, reduceEqDiff]
  obtain ⟨b9, hb10⟩ := SlF.isrow ph1 (geti_ne hx7)
  refine put1_eq (SlF.ia ph1 hb10 hx7) ?_
  simp only [run_ld, B0, reduceIte, reduceEqDiff]
  refine put1_eq (v := .int .i64 x6) ((SlF.ld (o := 0) ph1 (Sep.m1 hS5) hb10 hx7 (fun _ => rfl) (Nat.le_of_ble_eq_true rfl)).trans rfl) ?_
  simp only [run_mv, run_ops_nil, run_ret, B0, reduceIte, reduceEqDiff]
  have he := some_inj hF8
  subst he
  simp only [end_ret1, B0, reduceIte, reduceEqDiff]
  exact ⟨pc1, by first | trivial | rfl, ph1, (Sep.m1 (Sep.m1 hS5))⟩
theorem spec_one_x {W : Nat → Bool} {h : Heap} {lo : Nat → Prop} {S0 : List Obj} (hW : ∀ b,
    lo b → W b = true) (pb0 : Nat) (c_0 : L1Cur) (n_1 : Int) (r : Bool × L1Cur) (hF : spec_one c_0 n_1 = some r) (hS : Sep h lo ([Blk1 pb0 [lst cU8 c_0.code, .int .i64 c_0.at_,
    .int .u64 c_0.seed] 64] ++ (S0))) : Ret E W 75 [.ptr pb0 0, .int .i64 n_1] h (fun v h' => v = .bool r.1 ∧ Sep h' lo ([Blk1 pb0 [lst cU8 r.2.code, .int .i64 r.2.at_,
    .int .u64 r.2.seed] 64] ++ (S0))) := by
  refine Ret.of (fn := x75) rfl (Run.of ?_)
  unfold spec_one at hF
  have zf0 : argFr [.ptr pb0 0, .int .i64 n_1] 0 = .ptr pb0 0 := rfl
  have zf1 : argFr [.ptr pb0 0, .int .i64 n_1] 1 = .int .i64 n_1 := rfl
  generalize argFr [.ptr pb0 0, .int .i64 n_1] = fr0 at zf0 zf1 ⊢
  obtain ⟨v1, hx2, hF3⟩ := bind_some' hF
  simp only [x75, run_seq, run_reg, run_mv, run_ops_nil, x75_1, zf0, zf1, run_call, B0, reduceIte, reduceEqDiff]
  refine call0 rfl (spec_pick_x hW pb0 c_0 n_1 v1 hx2 hS) ?_
  rintro _ h4 ⟨rfl, hS5⟩
  simp only [run_bin, put1_some, xeql, run_mv, run_ops_nil, run_ret, B0, reduceIte, reduceEqDiff]
  have he := some_inj hF3
  subst he
  simp only [end_ret1, B0, reduceIte, reduceEqDiff]
  exact ⟨by first | trivial | rfl, hS5⟩
theorem spec_snapSteps_x {W : Nat → Bool} {h : Heap} {lo : Nat → Prop} {S0 : List Obj} (hW : ∀ b,
    lo b → W b = true) (k : Nat) (pb0 : Nat) (c_0 : L1Cur) (procs_1 : Int) (r : (List SnapStep) × L1Cur) (hF : spec_snapSteps k c_0 procs_1 = some r) (hS : Sep h lo
    ([Blk1 pb0 [lst cU8 c_0.code, .int .i64 c_0.at_, .int .u64 c_0.seed] 64] ++ (S0))) : Ret E W 38 [.ptr pb0 0, .int .i64 procs_1] h (fun v h' => ∃ rv0 rc0,
    v = rv0 ∧ SlF SnapStep.cells 3 51 rv0 r.1 rc0 ∧ Sep h' lo (rc0 ++ ([Blk1 pb0 [lst cU8 r.2.code, .int .i64 r.2.at_, .int .u64 r.2.seed] 64] ++ (S0)))) := by
  refine Ret.of (fn := x38) rfl (Run.of ?_)
  unfold spec_snapSteps at hF
  have zf0 : argFr [.ptr pb0 0, .int .i64 procs_1] 0 = .ptr pb0 0 := rfl
  have zf1 : argFr [.ptr pb0 0, .int .i64 procs_1] 1 = .int .i64 procs_1 := rfl
  generalize argFr [.ptr pb0 0, .int .i64 procs_1] = fr0 at zf0 zf1 ⊢
  obtain ⟨v1, hx2, hF3⟩ := bind_some' hF
  simp only [x38, run_seq, run_reg, run_mv, run_ops_nil, x38_21, x38_20, zf0, run_call, B0, reduceIte, reduceEqDiff]
  refine call0 rfl (spec_pick_x hW pb0 c_0 40 v1 hx2 hS) ?_
  rintro _ h4 ⟨rfl, hS5⟩
  obtain ⟨v6, hx7, hF8⟩ := bind_some' hF3
  simp only [run_mv, run_ops_nil, x38_19, run_seq, run_reg, zf0, run_call, B0, reduceIte, reduceEqDiff]
  refine call0 rfl (spec_one_x hW pb0 v1.2 12 v6 hx7 hS5) ?_
  rintro _ h9 ⟨rfl, hS10⟩
  simp only [run_ops_nil, x38_2, run_cond, B0, reduceIte, reduceEqDiff]
  obtain ⟨sv16, hX14, hk15⟩ := bind_some' hF8
  refine cond_j (t := v6.1) (fun fr' h' => fr' 0 = .ptr pb0 0 ∧ fr' 1 = .int .i64 procs_1 ∧ fr' 5 = .nil ∧ fr' 6 = .int .i64 sv16.1 ∧ Sep h' lo ([Blk1 pb0 [lst cU8 sv16.2.code,
      .int .i64 sv16.2.at_, .int .u64 sv16.2.seed] 64] ++ (S0))) (fun Q17 hN18 hR19 hE20 => ⟨fun hc21 => ?_, fun hc21 => ?_⟩) ?_
  · rw [iteT hc21] at hX14
    obtain ⟨v22, hx23, hF24⟩ := bind_some' hX14
    simp only [x38_1, run_reg, zf0, run_mv, run_call, B0, reduceIte, reduceEqDiff]
    refine call0 rfl (spec_pick_x hW pb0 v6.2 12 v22 hx23 hS10) ?_
    rintro _ h25 ⟨rfl, hS26⟩
    simp only [run_bin, put1_some, xadd, run_mv, run_ops_nil, run_nil, B0, reduceIte, reduceEqDiff]
    have e27 := some_inj hF24
    subst e27
    exact hN18 _ _ ⟨zf0, zf1, rfl, rfl, hS26⟩
  · rw [iteF hc21] at hX14
    simp only [run_skip, run_nil, B0, reduceIte, reduceEqDiff]
    have e28 := some_inj hX14
    subst e28
    exact hN18 _ _ ⟨zf0, zf1, rfl, rfl, hS10⟩
  rintro fr29 h30 ⟨f32, f33, f34, f35, hS31⟩
  obtain ⟨s11, s12⟩ := sv16
  dsimp only at *
  unfold spec_snapSteps_j1 at hk15
  simp only [x38_18, run_seq, run_reg, f33, run_mv, run_bin, put1_some, xsub, xmul, xadd, run_ops_nil, x38_17, B0, reduceIte, reduceEqDiff]
  obtain ⟨oc52, hX54, hk55⟩ := jn_some hk15
  simp only [x38_16]
  refine loopF_j (σ := (List SnapStep) × Int × L1Cur) (fun s225 => spec_snapSteps_b1 procs_1 s225.1 s225.2.1 s225.2.2) (fun s fr' h' => ∃ v45 c46,
      fr' 0 = .ptr pb0 0 ∧ fr' 1 = .int .i64 procs_1 ∧ fr' 5 = v45 ∧ fr' 6 = .int .i64 s.2.1 ∧ fr' 7 = .int .i64 (IntKind.wrap .i64 ((IntKind.wrap .i64 (procs_1 *
      (IntKind.wrap .i64 (procs_1 - 1)))) + 1)) ∧ SlF SnapStep.cells 3 51 v45 s.1 c46 ∧ Sep h' lo ([Blk1 pb0 [lst cU8 s.2.2.code, .int .i64 s.2.2.at_,
      .int .u64 s.2.2.seed] 64] ++ (c46 ++ (S0)))) hX54 ⟨.nil, [], f32, f33, f34, f35, rfl, SlF.nil, (hS31 : Sep _ lo ([Blk1 pb0 [lst cU8 s12.code, .int .i64 s12.at_,
      .int .u64 s12.seed] 64] ++ (S0)))⟩ (fun _ _ _ h => h) ?_ ?_
  · rintro ⟨s43, s48, s49⟩ fr64 h65 ⟨v45, c46, f67, f68, f69, f70, f71, hv47, hS66⟩ oc53 hF56 hr57 Q58 hN59 hK60 hR61 hE62
    dsimp only at *
    unfold spec_snapSteps_b1 at hF56
    simp only [x38_15, run_seq, run_reg, f70, run_mv, run_bin, put1_some, xgtr, run_ops_nil, run_cond, B0, reduceIte, reduceEqDiff]
    refine cond_split (t := (decide ((0 : Int) < s48))) (fun hc73 => ?_) (fun hc73 => ?_)
    · rw [iteT hc73] at hF56
      simp only [run_skip, x38_14, run_seq, run_block, x38_13, run_reg, f67, run_mv, run_buildS, evp, B0, reduceIte, reduceEqDiff]
      refine put2_buildSF (n := 1) (f := cI) [1, 1, 2, 2, 2, 2, 2] hS66 rfl rfl (fun v74 c75 h76 hv77 hS78 => ?_)
      obtain ⟨v80, hx81, hF82⟩ := bind_some' hF56
      simp only [run_call, B0, reduceIte, reduceEqDiff]
      refine call0 rfl (spec_among_x hW pb0 s49 v74 c75 [1, 1, 2, 2, 2, 2, 2] hv77 v80 hx81 (Sep.m1 hS78)) ?_
      rintro _ h85 ⟨c83, rfl, hv84, hS86⟩
      obtain ⟨v87, hx88, hF89⟩ := bind_some' hF82
      simp only [f67, run_mv, f71, run_call, B0, reduceIte, reduceEqDiff]
      refine call0 rfl (spec_pick_x hW pb0 v80.2.1 (IntKind.wrap .i64 ((IntKind.wrap .i64 (procs_1 * (IntKind.wrap .i64 (procs_1 - 1)))) + 1)) v87 hx88 hS86) ?_
      rintro _ h90 ⟨rfl, hS91⟩
      simp only [run_build, evp, B0, reduceIte, reduceEqDiff]
      refine put1_eq (v := .agg [.int .i64 v80.1, .int .i64 v87.1, .int .i64 0]) rfl ?_
      simp only [run_new, B0, reduceIte, reduceEqDiff]
      refine put2_newC hS91 (fun b92 h93 hS94 => ?_)
      simp only [run_st, B0, reduceIte, reduceEqDiff]
      refine put2_stCx (us := [.int .i64 v80.1, .int .i64 v87.1, .int .i64 0]) rfl (cs' := [.int .i64 v80.1, .int .i64 v87.1,
          .int .i64 0]) hS94 hW rfl rfl (Nat.le_of_ble_eq_true rfl) rfl (fun h96 hS97 => ?_)
      simp only [run_ops_nil, x38_12, run_seq, run_reg, run_fa, put1_some, Nat.reduceAdd, Nat.zero_add, Nat.add_zero, xfa_ptr, run_ld, B0, reduceIte, reduceEqDiff]
      refine put1_eq (v := .int .i64 v80.1) ((xld_b (Sep.bk _ _ _ hS97)).trans rfl) ?_
      simp only [run_bin, put1_some, xeql, run_ops_nil, x38_4, run_cond, B0, reduceIte, reduceEqDiff]
      obtain ⟨sv103, hX101, hk102⟩ := bind_some' hF89
      refine cond_j (t := (decide (v80.1 = 1))) (fun fr' h' => fr' 0 = .ptr pb0 0 ∧ fr' 1 = .int .i64 procs_1 ∧ fr' 5 = v45 ∧ fr' 6 = .int .i64 s48 ∧ fr' 7 = .int .i64
          (IntKind.wrap .i64 ((IntKind.wrap .i64 (procs_1 * (IntKind.wrap .i64 (procs_1 - 1)))) + 1)) ∧ fr' 8 = .ptr b92 0 ∧ Sep h' lo ([Blk1 pb0 [lst cU8 sv103.1.code,
          .int .i64 sv103.1.at_, .int .u64 sv103.1.seed] 64] ++ (c46 ++ ([Blk1 b92 [.int .i64 sv103.2.Kind, .int .i64 sv103.2.K,
          .int .i64 sv103.2.N] 51] ++ (S0))))) (fun Q104 hN105 hR106 hE107 => ⟨fun hc108 => ?_, fun hc108 => ?_⟩) ?_
      · rw [iteT hc108] at hX101
        obtain ⟨v109, hx110, hF111⟩ := bind_some' hX101
        simp only [x38_3, run_reg, f67, run_mv, run_call, B0, reduceIte, reduceEqDiff]
        refine call0 rfl (spec_pick_x hW pb0 v87.2 9 v109 hx110 (Sep.m1 hS97)) ?_
        rintro _ h112 ⟨rfl, hS113⟩
        simp only [run_bin, put1_some, xadd, run_fa, Nat.reduceAdd, Nat.zero_add, Nat.add_zero, xfa_ptr, run_st, B0, reduceIte, reduceEqDiff]
        refine put2_stCx (us := [.int .i64 (IntKind.wrap .i64 ((1 : Int) + v109.1))]) rfl (cs' := [.int .i64 v80.1, .int .i64 v87.1,
            .int .i64 (IntKind.wrap .i64 ((1 : Int) + v109.1))]) (Sep.m1 hS113) hW rfl rfl (Nat.le_of_ble_eq_true rfl) rfl (fun h114 hS115 => ?_)
        simp only [run_ops_nil, run_nil, B0, reduceIte, reduceEqDiff]
        have e116 := some_inj hF111
        subst e116
        exact hN105 _ _ ⟨f67, f68, f69, f70, f71, rfl, (Sep.m2 (Sep.m2 (Sep.dc (Sep.m2 hS115))))⟩
      · rw [iteF hc108] at hX101
        simp only [run_skip, run_nil, B0, reduceIte, reduceEqDiff]
        have e117 := some_inj hX101
        subst e117
        exact hN105 _ _ ⟨f67, f68, f69, f70, f71, rfl, (Sep.m2 (Sep.m2 (Sep.dc (Sep.m2 hS97))))⟩
      rintro fr118 h119 ⟨f121, f122, f123, f124, f125, f126, hS120⟩
      obtain ⟨s98, s99⟩ := sv103
      dsimp only at *
      unfold spec_snapSteps_j2 at hk102
      obtain ⟨v127, hx128, hF129⟩ := bind_some' hk102
      simp only [x38_11, run_seq, run_reg, f121, run_mv, run_call, B0, reduceIte, reduceEqDiff]
      refine call0 rfl (spec_one_x hW pb0 s98 12 v127 hx128 hS120) ?_
      rintro _ h130 ⟨rfl, hS131⟩
      simp only [run_ops_nil, x38_6, run_cond, B0, reduceIte, reduceEqDiff]
      obtain ⟨sv137, hX135, hk136⟩ := bind_some' hF129
      refine cond_j (t := v127.1) (fun fr' h' => fr' 0 = .ptr pb0 0 ∧ fr' 1 = .int .i64 procs_1 ∧ fr' 5 = v45 ∧ fr' 6 = .int .i64 s48 ∧ fr' 7 = .int .i64 (IntKind.wrap .i64
          ((IntKind.wrap .i64 (procs_1 * (IntKind.wrap .i64 (procs_1 - 1)))) + 1)) ∧ fr' 8 = .ptr b92 0 ∧ Sep h' lo ([Blk1 pb0 [lst cU8 sv137.1.code, .int .i64 sv137.1.at_,
          .int .u64 sv137.1.seed] 64] ++ (c46 ++ ([Blk1 b92 [.int .i64 sv137.2.Kind, .int .i64 sv137.2.K,
          .int .i64 sv137.2.N] 51] ++ (S0))))) (fun Q138 hN139 hR140 hE141 => ⟨fun hc142 => ?_, fun hc142 => ?_⟩) ?_
      · rw [iteT hc142] at hX135
        obtain ⟨v143, hx144, hF145⟩ := bind_some' hX135
        simp only [x38_5, run_reg, f121, run_mv, f122, run_call, B0, reduceIte, reduceEqDiff]
        refine call0 rfl (spec_pick_x hW pb0 v127.2 procs_1 v143 hx144 hS131) ?_
        rintro _ h146 ⟨rfl, hS147⟩
        simp only [run_build, evp, B0, reduceIte, reduceEqDiff]
        refine put1_eq (v := .agg [.int .i64 3, .int .i64 v143.1, .int .i64 0]) rfl ?_
        simp only [f126, run_st, B0, reduceIte, reduceEqDiff]
        refine put2_stCx (us := [.int .i64 3, .int .i64 v143.1, .int .i64 0]) rfl (cs' := [.int .i64 3, .int .i64 v143.1,
            .int .i64 0]) (Sep.m2 hS147) hW rfl rfl (Nat.le_of_ble_eq_true rfl) rfl (fun h148 hS149 => ?_)
        simp only [run_ops_nil, run_nil, B0, reduceIte, reduceEqDiff]
        have e150 := some_inj hF145
        subst e150
        exact hN139 _ _ ⟨f121, f122, f123, f124, f125, f126, (Sep.m2 (Sep.m2 hS149))⟩
      · rw [iteF hc142] at hX135
        simp only [run_skip, run_nil, B0, reduceIte, reduceEqDiff]
        have e151 := some_inj hX135
        subst e151
        exact hN139 _ _ ⟨f121, f122, f123, f124, f125, f126, (Sep.m2 (Sep.m2 (Sep.m2 hS131)))⟩
      rintro fr152 h153 ⟨f155, f156, f157, f158, f159, f160, hS154⟩
      obtain ⟨s132, s133⟩ := sv137
      dsimp only at *
      unfold spec_snapSteps_j3 at hk136
      obtain ⟨v161, hx162, hF163⟩ := bind_some' hk136
      simp only [x38_10, run_seq, run_reg, f155, run_mv, run_call, B0, reduceIte, reduceEqDiff]
      refine call0 rfl (spec_one_x hW pb0 s132 60 v161 hx162 hS154) ?_
      rintro _ h164 ⟨rfl, hS165⟩
      simp only [run_ops_nil, x38_8, run_cond, B0, reduceIte, reduceEqDiff]
      obtain ⟨sv171, hX169, hk170⟩ := bind_some' hF163
      refine cond_j (t := v161.1) (fun fr' h' => fr' 0 = .ptr pb0 0 ∧ fr' 1 = .int .i64 procs_1 ∧ fr' 5 = v45 ∧ fr' 6 = .int .i64 s48 ∧ fr' 7 = .int .i64 (IntKind.wrap .i64
          ((IntKind.wrap .i64 (procs_1 * (IntKind.wrap .i64 (procs_1 - 1)))) + 1)) ∧ fr' 8 = .ptr b92 0 ∧ Sep h' lo ([Blk1 pb0 [lst cU8 sv171.1.code, .int .i64 sv171.1.at_,
          .int .u64 sv171.1.seed] 64] ++ (c46 ++ ([Blk1 b92 [.int .i64 sv171.2.Kind, .int .i64 sv171.2.K,
          .int .i64 sv171.2.N] 51] ++ (S0))))) (fun Q172 hN173 hR174 hE175 => ⟨fun hc176 => ?_, fun hc176 => ?_⟩) ?_
      · rw [iteT hc176] at hX169
        obtain ⟨v177, hx178, hF179⟩ := bind_some' hX169
        simp only [x38_7, run_reg, f155, run_mv, run_call, B0, reduceIte, reduceEqDiff]
        refine call0 rfl (spec_pick_x hW pb0 v161.2 5 v177 hx178 hS165) ?_
        rintro _ h180 ⟨rfl, hS181⟩
        obtain ⟨v182, hx183, hF184⟩ := bind_some' hF179
        simp only [f155, run_mv, run_call, B0, reduceIte, reduceEqDiff]
        refine call0 rfl (spec_pick_x hW pb0 v177.2 14 v182 hx183 hS181) ?_
        rintro _ h185 ⟨rfl, hS186⟩
        obtain ⟨v187, hx188, hF189⟩ := bind_some' hF184
        simp only [run_bin, put1_some, xsub, f155, run_mv, run_call, B0, reduceIte, reduceEqDiff]
        refine call0 rfl (spec_pick_x hW pb0 v182.2 3 v187 hx188 hS186) ?_
        rintro _ h190 ⟨rfl, hS191⟩
        simp only [run_build, evp, B0, reduceIte, reduceEqDiff]
        refine put1_eq (v := .agg [.int .i64 v177.1, .int .i64 (IntKind.wrap .i64 (v182.1 - 1)), .int .i64 v187.1]) rfl ?_
        simp only [f160, run_st, B0, reduceIte, reduceEqDiff]
        refine put2_stCx (us := [.int .i64 v177.1, .int .i64 (IntKind.wrap .i64 (v182.1 - 1)), .int .i64 v187.1]) rfl (cs' := [.int .i64 v177.1,
            .int .i64 (IntKind.wrap .i64 (v182.1 - 1)), .int .i64 v187.1]) (Sep.m2 hS191) hW rfl rfl (Nat.le_of_ble_eq_true rfl) rfl (fun h192 hS193 => ?_)
        simp only [run_ops_nil, run_nil, B0, reduceIte, reduceEqDiff]
        have e194 := some_inj hF189
        subst e194
        exact hN173 _ _ ⟨f155, f156, f157, f158, f159, f160, (Sep.m2 (Sep.m2 hS193))⟩
      · rw [iteF hc176] at hX169
        simp only [run_skip, run_nil, B0, reduceIte, reduceEqDiff]
        have e195 := some_inj hX169
        subst e195
        exact hN173 _ _ ⟨f155, f156, f157, f158, f159, f160, (Sep.m2 (Sep.m2 (Sep.m2 hS165)))⟩
      rintro fr196 h197 ⟨f199, f200, f201, f202, f203, f204, hS198⟩
      obtain ⟨s166, s167⟩ := sv171
      dsimp only at *
      unfold spec_snapSteps_j4 at hk170
      simp only [x38_9, run_reg, f201, run_mv, f204, run_ld, B0, reduceIte, reduceEqDiff]
      refine put1_eq (v := .agg [.int .i64 s167.Kind, .int .i64 s167.K, .int .i64 s167.N]) ((xld_bs (Sep.bk _ _ _ (Sep.m2 hS198))).trans rfl) ?_
      simp only [run_buildS, evp, B0, reduceIte, reduceEqDiff]
      refine put2_buildSF (n := 3) (f := SnapStep.cells) [s167] hS198 rfl rfl (fun v205 c206 h207 hv208 hS209 => ?_)
      simp only [run_app, B0, reduceIte, reduceEqDiff]
      obtain ⟨l211, hx212, hF213⟩ := bind_some' hk170
      refine put2_appF (f := SnapStep.cells) hv47 (Sep.m2 hS209) hW (fun _ => rfl) (fun _ => rfl) (SlF.first hv208 hS209 (fun _ => rfl)) hx212
          (fun v214 c215 h216 hv217 hS218 => ?_)
      simp only [run_mv, run_ops_nil, run_blk, run_reg, f202, run_bin, put1_some, xsub, run_nil, B0, reduceIte, reduceEqDiff]
      have e220 := some_inj hF213
      exact hN59 _ _ _ e220.symm ⟨v214, c215, f199, f200, rfl, rfl, f203, hv217, (Sep.m1 (Sep.dc (Sep.m2 (Sep.dc (Sep.m1 hS218)))))⟩
    rw [iteF hc73] at hF56
    simp only [run_exit, out_code, out_nil, B0, reduceIte, reduceEqDiff]
    have e224 := some_inj hF56
    exact hK60 _ _ _ e224.symm ⟨v45, c46, f67, f68, f69, f70, f71, hv47, (Sep.m1 (Sep.m1 hS66))⟩
  rintro ⟨s226, s231, s232⟩ fr233 h234 rfl ⟨v228, c229, f236, f237, f238, f239, f240, hv230, hS235⟩
  dsimp only [jnO] at hk55
  dsimp only at *
  unfold spec_snapSteps_j5 at hk55
  simp only [run_seq, run_reg, f238, run_mv, run_ops_nil, run_ret, B0, reduceIte, reduceEqDiff]
  have he := some_inj hk55
  subst he
  simp only [end_ret1, B0, reduceIte, reduceEqDiff]
  exact ⟨v228, c229, by first | trivial | rfl, hv230, (Sep.m1 hS235)⟩
theorem spec_DrawPlaySnap_x {W : Nat → Bool} {h : Heap} (hW : ∀ b,
    (geL h.length) b → W b = true) (k : Nat) (code_0 : List Int) (r : Int × Int × (List SnapStep)) (hF : spec_DrawPlaySnap k code_0 = some r) : Ret E W 6 [lst cU8 code_0] h
    (fun v h' => ∃ rv2 rc2, v = .tup [.int .i64 r.1, .int .i64 r.2.1, rv2] ∧ SlF SnapStep.cells 3 51 rv2 r.2.2 rc2 ∧ Sep h' (geL h.length) (rc2 ++ ([]))) := by
  refine Ret.of (fn := x6) rfl (Run.of ?_)
  unfold spec_DrawPlaySnap at hF
  have zf0 : argFr [lst cU8 code_0] 0 = lst cU8 code_0 := rfl
  generalize argFr [lst cU8 code_0] = fr0 at zf0 ⊢
  have hS : Sep h (geL h.length) [] := Sep.nil h
  simp only [x6, run_seq, run_reg, run_mv, run_ops_nil, x6_3, zf0, run_build, evp, B0, reduceIte, reduceEqDiff]
  refine put1_eq (v := .agg [lst cU8 code_0, .int .i64 0, .int .u64 0]) rfl ?_
  simp only [run_box, B0, reduceIte, reduceEqDiff]
  refine put2_boxC (cs := [lst cU8 code_0, .int .i64 0, .int .u64 0]) hS rfl rfl rfl (fun b1 h2 hS3 => ?_)
  obtain ⟨v5, hx6, hF7⟩ := bind_some' hF
  simp only [run_mv, run_ops_nil, x6_2, run_seq, run_reg, run_call, B0, reduceIte, reduceEqDiff]
  refine call0 rfl (spec_pick_x hW b1 (L1Cur.mk code_0 0 0) 3 v5 hx6 hS3) ?_
  rintro _ h8 ⟨rfl, hS9⟩
  simp only [run_bin, put1_some, xadd, run_mv, run_ops_nil, x6_1, run_seq, run_reg, run_buildS, evp, B0, reduceIte, reduceEqDiff]
  refine put2_buildSF (n := 1) (f := cI) [0, 5, 100, 250, 251] hS9 rfl rfl (fun v10 c11 h12 hv13 hS14 => ?_)
  obtain ⟨v16, hx17, hF18⟩ := bind_some' hF7
  simp only [run_call, B0, reduceIte, reduceEqDiff]
  refine call0 rfl (spec_among_x hW b1 v5.2 v10 c11 [0, 5, 100, 250, 251] hv13 v16 hx17 (Sep.m1 hS14)) ?_
  rintro _ h21 ⟨c19, rfl, hv20, hS22⟩
  obtain ⟨v23, hx24, hF25⟩ := bind_some' hF18
  simp only [run_mv, run_call, B0, reduceIte, reduceEqDiff]
  refine call0 rfl (spec_snapSteps_x hW k b1 v16.2.1 (IntKind.wrap .i64 ((2 : Int) + v5.1)) v23 hx24 hS22) ?_
  rintro v26 h30 ⟨_, c27, rfl, hv28, hS31⟩
  simp only [run_mv, run_ops_nil, run_ret, B0, reduceIte, reduceEqDiff]
  have he := some_inj hF25
  subst he
  simp only [end_ret3, B0, reduceIte, reduceEqDiff]
  exact ⟨v26, c27, by first | trivial | rfl, hv28, (Sep.dc (Sep.m1 (Sep.dc (Sep.m1 hS31))))⟩
theorem impl_in_x {W : Nat → Bool} {h : Heap} (hW : ∀ b,
    (geL h.length) b → W b = true) (n_0 : Int) (low_1 : Int) (high_2 : Int) (r : Bool) (hF : some (impl_in n_0 low_1 high_2) = some r) : Ret E W 39 [.int .i64 n_0,
    .int .i64 low_1, .int .i64 high_2] h (fun v h' => cut h.length h' E.sz false 9 v = some (.bool r)) := by
  refine Ret.of (fn := x39) rfl (Run.of ?_)
  unfold impl_in at hF
  have zf0 : argFr [.int .i64 n_0, .int .i64 low_1, .int .i64 high_2] 0 = .int .i64 n_0 := rfl
  have zf1 : argFr [.int .i64 n_0, .int .i64 low_1, .int .i64 high_2] 1 = .int .i64 low_1 := rfl
  have zf2 : argFr [.int .i64 n_0, .int .i64 low_1, .int .i64 high_2] 2 = .int .i64 high_2 := rfl
  generalize argFr [.int .i64 n_0, .int .i64 low_1, .int .i64 high_2] = fr0 at zf0 zf1 zf2 ⊢
  have hS : Sep h (geL h.length) [] := Sep.nil h
  simp only [x39, run_seq, run_reg, run_mv, run_ops_nil, x39_1, zf0, zf1, run_bin, put1_some, xgeq, B0, reduceIte, reduceEqDiff]
  refine ops_j 4 (fun fr' h' => Sep h' (geL h.length) ([]) ∧ fr' 14 = .bool ((decide (low_1 ≤ n_0)) && (decide (n_0 ≤ high_2)))) (fun Q1 hN2 => ?_) ?_
  · simp only [List.take_succ_cons, List.take_zero]
    simp only [run_guard (g := 10), B0, reduceIte, reduceEqDiff]
    refine guard_split (t := (decide (low_1 ≤ n_0))) (fun hg3 => ?_) (fun hg3 => ?_)
    · simp only [hg3, run_guard (g := 10), guard_true, zf0, run_mv, zf2, run_bin, put1_some, xleq, run_pick, xpick_t, run_ops_nil, run_nil, B0, reduceIte, reduceEqDiff]
      exact hN2 _ _ ⟨hS, by rw [andT hg3]; simp only [B0, reduceIte, reduceEqDiff]⟩
    · simp only [hg3, run_guard (g := 10), guard_off, run_pick, put1_some, xpick_f, run_ops_nil, run_nil, B0, reduceIte, reduceEqDiff]
      exact hN2 _ _ ⟨hS, by rw [andF hg3]; simp only [B0, reduceIte, reduceEqDiff]⟩
  rintro fr4 h6 ⟨hS7, f5⟩
  simp only [List.drop_succ_cons, List.drop_zero]
  simp only [f5, run_mv, run_ops_nil, run_ret, B0, reduceIte, reduceEqDiff]
  have he := some_inj hF
  subst he
  simp only [end_ret1, B0, reduceIte, reduceEqDiff]
  exact rfl
theorem impl_newSnap_x {W : Nat → Bool} {h : Heap} (hW : ∀ b,
    (geL h.length) b → W b = true) (procs_0 : Int) (amount_1 : Int) (r : Snap) (hF : impl_newSnap procs_0 amount_1 = some r) : Ret E W 40 [.int .i64 procs_0,
    .int .i64 amount_1] h (fun v h' => ∃ rv0_0 rc0_0 rv0_1 rc0_1 rv0_2 rc0_2, v = .agg [rv0_0, rv0_1, rv0_2, .int .i64 r.Sent,
    .int .i64 r.Total] ∧ SlF cI 1 3 rv0_0 r.Amounts rc0_0 ∧ SlN Chan.R 3 74 rv0_1 r.Chans rc0_1 ∧ SlN Picture.R 4 76 rv0_2 r.Pictures rc0_2 ∧ Sep h' (geL h.length) (rc0_0 ++
    (rc0_1 ++ (rc0_2 ++ ([]))))) := by
  refine Ret.of (fn := x40) rfl (Run.of ?_)
  unfold impl_newSnap at hF
  have zf0 : argFr [.int .i64 procs_0, .int .i64 amount_1] 0 = .int .i64 procs_0 := rfl
  have zf1 : argFr [.int .i64 procs_0, .int .i64 amount_1] 1 = .int .i64 amount_1 := rfl
  generalize argFr [.int .i64 procs_0, .int .i64 amount_1] = fr0 at zf0 zf1 ⊢
  have hS : Sep h (geL h.length) [] := Sep.nil h
  simp only [x40, run_seq, run_reg, run_new, B0, reduceIte, reduceEqDiff]
  refine put2_newC hS (fun b1 h2 hS3 => ?_)
  simp only [run_ops_nil, x40_14, run_seq, run_reg, zf0, run_mv, zf1, run_bin, put1_some, xmul, run_build, evp, B0, reduceIte, reduceEqDiff]
  refine put1_eq (v := .agg [.nil, .nil, .nil, .int .i64 0, .int .i64 (IntKind.wrap .i64 (procs_0 * amount_1))]) rfl ?_
  simp only [run_new, B0, reduceIte, reduceEqDiff]
  refine put2_newC hS3 (fun b5 h6 hS7 => ?_)
  simp only [run_st, B0, reduceIte, reduceEqDiff]
  refine put2_stCx (us := [.nil, .nil, .nil, .int .i64 0, .int .i64 (IntKind.wrap .i64 (procs_0 * amount_1))]) rfl (cs' := [.nil, .nil, .nil, .int .i64 0,
      .int .i64 (IntKind.wrap .i64 (procs_0 * amount_1))]) hS7 hW rfl rfl (Nat.le_of_ble_eq_true rfl) rfl (fun h9 hS10 => ?_)
  simp only [run_ops_nil, x40_13, run_seq, run_reg, zf0, run_mv, B0, reduceIte, reduceEqDiff]
  obtain ⟨oc39, hX41, hk42⟩ := jn_some hF
  simp only [x40_12]
  refine rangeN_j (σ := Snap) (fun i37 s188 => impl_newSnap_b2 procs_0 amount_1 i37 s188) (fun s fr' h' => ∃ v26 c27 v30 c31 v34 c35,
      fr' 0 = .int .i64 procs_0 ∧ fr' 1 = .int .i64 amount_1 ∧ fr' 4 = .ptr b1 0 ∧ fr' 5 = .ptr b5 0 ∧ SlF cI 1 3 v26 s.Amounts c27 ∧ SlN Chan.R 3 74 v30 s.Chans c31 ∧ SlN Picture.R 4 76 v34 s.Pictures c35 ∧ Sep h'
      (geL h.length) ([Blk1 b1 [.nil, .nil, .nil, .int .i64 0, .int .i64 0] 30] ++ ([Blk1 b5 [v26, v30, v34, .int .i64 s.Sent,
      .int .i64 s.Total] 30] ++ (c27 ++ (c31 ++ (c35 ++ ([]))))))) hX41 ⟨.nil, [], .nil, [], .nil, [], zf0, zf1, rfl, rfl, SlF.nil, SlN.nil, SlN.nil,
      ((Sep.m1 hS10) : Sep _ (geL h.length) ([Blk1 b1 [.nil, .nil, .nil, .int .i64 0, .int .i64 0] 30] ++ ([Blk1 b5 [.nil, .nil, .nil, .int .i64 0,
      .int .i64 (IntKind.wrap .i64 (procs_0 * amount_1))] 30] ++ ([]))))⟩ (by simp only [B0, reduceIte, reduceEqDiff]) (by simp only [B0, reduceIte,
      reduceEqDiff]) (fun _ _ _ h => h) rfl rfl (fun _ _ _ _ h => h) (fun _ _ _ _ h => h) (fun _ _ _ _ h => h) (by decide) ?_ ?_
  · rintro i37 s24 fr51 h52 hx58 ⟨v26, c27, v30, c31, v34, c35, f54, f55, f56, f57, hv28, hv32, hv36, hS53⟩ f59 f60 oc40 hF43 hr44 Q45 hN46 hB50 hK47 hR48 hE49
    unfold impl_newSnap_b2 at hF43
    simp only [x40_10, run_seq, run_reg, f59, run_mv, run_ops_nil, x40_9, f57, run_fa, put1_some, Nat.reduceAdd, Nat.zero_add, Nat.add_zero, xfa_ptr, run_ld, B0, reduceIte,
        reduceEqDiff]
    refine put1_eq (v := v26) ((xld_b (Sep.bk _ _ _ (Sep.m1 hS53))).trans rfl) ?_
    simp only [f55, run_mv, run_buildS, evp, B0, reduceIte, reduceEqDiff]
    refine put2_buildSF (n := 1) (f := cI) [amount_1] hS53 rfl rfl (fun v61 c62 h63 hv64 hS65 => ?_)
    simp only [run_app, B0, reduceIte, reduceEqDiff]
    obtain ⟨l67, hx68, hF69⟩ := bind_some' hF43
    refine put2_appF (f := cI) hv28 (Sep.m3 hS65) hW (fun _ => rfl) (fun _ => rfl) (SlF.first hv64 hS65 (fun _ => rfl)) hx68 (fun v70 c71 h72 hv73 hS74 => ?_)
    simp only [f57, run_fa, put1_some, Nat.reduceAdd, Nat.zero_add, Nat.add_zero, xfa_ptr, run_st, B0, reduceIte, reduceEqDiff]
    refine put2_stCx (us := [v70]) (cells_one (SlF.one hv73)) (cs' := [v70, v30, v34, .int .i64 s24.Sent,
        .int .i64 s24.Total]) (Sep.m3 hS74) hW rfl (all_c (SlF.one hv73) all_n) (Nat.le_of_ble_eq_true rfl) rfl (fun h76 hS77 => ?_)
    simp only [run_ops_nil, x40_8, run_seq, run_draw, f57, d4_fa, put1d_some, Nat.reduceAdd, Nat.zero_add, Nat.add_zero, xfa_ptr, d4_ld, B0, reduceIte, reduceEqDiff]
    refine put1d_eq (v := v34) ((xld_b (Sep.bk _ _ _ hS77)).trans rfl) ?_
    obtain ⟨l78, hx79, hF80⟩ := bind_some' hF69
    simp only [f54, d4_mv, put1d_some, d4_mkS, B0, reduceIte, reduceEqDiff]
    refine put2d_mkSF (f := cI) (z := (0 : Int)) hS77 hx79 rfl (fun v81 c82 h83 hv84 hS85 => ?_)
    obtain ⟨l87, hx88, hF89⟩ := bind_some' hF80
    simp only [f54, d4_mv, put1d_some, d4_mkS, B0, reduceIte, reduceEqDiff]
    refine put2d_mkSF (f := cB) (z := false) hS85 hx88 rfl (fun v90 c91 h92 hv93 hS94 => ?_)
    simp only [d4_build, evp, B0, reduceIte, reduceEqDiff]
    refine put1d_eq (v := .agg [.bool false, .int .i64 0, v81, v90]) (pbuild_some (fill1 (us := [v81]) (vs := [.bool false, .int .i64 0, v81,
        .nil]) (cells_one (SlF.one hv84)) rfl (Nat.le_of_ble_eq_true rfl) (all_c (SlF.one hv84) all_n) rfl (fill1 (us := [v90]) (vs := [.bool false, .int .i64 0, v81,
        v90]) (cells_one (SlF.one hv93)) rfl (Nat.le_of_ble_eq_true rfl) (all_c (SlF.one hv93) all_n) rfl fill0))) ?_
    simp only [d4_buildS, evp, B0, reduceIte, reduceEqDiff]
    refine put2d_buildSN (R := Picture.R) (n := 4) (cs := [.bool false, .int .i64 0, v81,
        v90]) (os := c82 ++ (c91)) (Sep.bi2 (c1 := c82) (c2 := c91) (Sep.m1 hS94)) (fill1 (us := [.bool false, .int .i64 0, v81, v90]) (vs := [.bool false, .int .i64 0, v81,
        v90]) rfl rfl (Nat.le_of_ble_eq_true rfl) (all_c rfl (all_c rfl (all_c (SlF.one hv84) (all_c (SlF.one hv93) all_n)))) rfl fill0) (Picture.RI (x :=
        (Picture.mk false 0 l78 l87)) hv84 hv93) rfl (fun v96 c97 h98 hv99 hS100 => ?_)
    simp only [d3_app, B0, reduceIte, reduceEqDiff]
    obtain ⟨l102, hx103, hF104⟩ := bind_some' hF89
    refine put2d_appN (R := Picture.R) (c := c35) hv36 hv99 (Sep.m6 hS100) hW Picture.RO.len Picture.RO.one hx103 (fun v105 c106 h107 hv108 hS109 => ?_)
    simp only [f57, d4_fa, put1d_some, Nat.reduceAdd, Nat.zero_add, Nat.add_zero, xfa_ptr, d3_st, B0, reduceIte, reduceEqDiff]
    refine put2d_stCx (us := [v105]) (cells_one (SlN.one hv108)) (cs' := [v70, v30, v105, .int .i64 s24.Sent,
        .int .i64 s24.Total]) (Sep.m1 hS109) hW rfl (all_c (SlN.one hv108) all_n) (Nat.le_of_ble_eq_true rfl) rfl (fun h111 hS112 => ?_)
    simp only [run_draw_nil, x40_7, run_seq, run_reg, f54, run_mv, run_ops_nil, B0, reduceIte, reduceEqDiff]
    obtain ⟨oc125, hX127, hk128⟩ := jn_some hF104
    simp only [x40_6]
    refine rangeN_j (σ := Snap) (fun i123 s170 => impl_newSnap_b1 i37 l67 l102 i123 s170) (fun s fr' h' => ∃ v120 c121,
        fr' 0 = .int .i64 procs_0 ∧ fr' 1 = .int .i64 amount_1 ∧ fr' 4 = .ptr b1 0 ∧ fr' 5 = .ptr b5 0 ∧ fr' 6 = .int .i64
        (i37 : Int) ∧ fr' 12 = .int .i64 procs_0 ∧ fr' 13 = .int .i64 (i37 : Int) ∧ SlN Chan.R 3 74 v120 s.Chans c121 ∧ Sep h' (geL h.length) ([Blk1 b1 [.nil, .nil, .nil,
        .int .i64 0, .int .i64 0] 30] ++ ([Blk1 b5 [v70, v120, v105, .int .i64 s.Sent, .int .i64 s.Total] 30] ++ (c71 ++ (c121 ++ (c106 ++ ([]))))))) hX127 ⟨v30, c31, f54, f55,
        f56, f57, rfl, f60, f59, hv32, (Sep.m4 (Sep.m3 (Sep.m3 (Sep.m4 (Sep.m1 (Sep.dc (Sep.m3 hS112)))))))⟩ (by simp only [B0, reduceIte, reduceEqDiff]) (by simp only [B0,
        reduceIte, reduceEqDiff]) (fun _ _ _ h => h) rfl rfl (fun _ _ _ _ h => h) (fun _ _ _ _ h => h) (fun _ _ _ _ h => h) (by decide) ?_ ?_
    · rintro i123 s118 fr137 h138 hx147 ⟨v120, c121, f140, f141, f142, f143, f144, f145, f146, hv122, hS139⟩ f148 f149 oc126 hF129 hr130 Q131 hN132 hB136 hK133 hR134 hE135
      unfold impl_newSnap_b1 at hF129
      simp only [x40_4, run_seq, run_reg, f148, run_mv, run_ops_nil, x40_3, f144, run_bin, put1_some, xneq, x40_2, run_cond, B0, reduceIte, reduceEqDiff]
      refine cond_split (t := (decide ((i123 : Int) ≠ (i37 : Int)))) (fun hc150 => ?_) (fun hc150 => ?_)
      · rw [iteT hc150] at hF129
        simp only [x40_1, run_reg, f143, run_fa, put1_some, Nat.reduceAdd, Nat.zero_add, Nat.add_zero, xfa_ptr, run_ld, B0, reduceIte, reduceEqDiff]
        refine put1_eq (v := v120) ((xld_b (Sep.bk _ _ _ (Sep.m1 hS139))).trans rfl) ?_
        simp only [f144, run_mv, run_build, evp, B0, reduceIte, reduceEqDiff]
        refine put1_eq (v := .agg [.int .i64 (i37 : Int), .int .i64 (i123 : Int), .nil]) rfl ?_
        simp only [run_buildS, evp, B0, reduceIte, reduceEqDiff]
        refine put2_buildSN (R := Chan.R) (n := 3) (cs := [.int .i64 (i37 : Int), .int .i64 (i123 : Int), .nil]) (os := []) (Sep.bi1 (c1 := []) (S := ([Blk1 b1 [.nil, .nil, .nil,
            .int .i64 0, .int .i64 0] 30] ++ ([Blk1 b5 [v70, v120, v105, .int .i64 s118.Sent,
            .int .i64 s118.Total] 30] ++ (c71 ++ (c121 ++ (c106 ++ ([]))))))) (hS139 : Sep _ (geL h.length) ([Blk1 b1 [.nil, .nil, .nil, .int .i64 0,
            .int .i64 0] 30] ++ ([Blk1 b5 [v70, v120, v105, .int .i64 s118.Sent,
            .int .i64 s118.Total] 30] ++ (c71 ++ (c121 ++ (c106 ++ ([])))))))) rfl (Chan.RI (x := (Chan.mk (i37 : Int) (i123 : Int) [])) SlF.nil) rfl
            (fun v151 c152 h153 hv154 hS155 => ?_)
        simp only [run_app, B0, reduceIte, reduceEqDiff]
        obtain ⟨l157, hx158, hF159⟩ := bind_some' hF129
        refine put2_appN (R := Chan.R) (c := c121) hv122 hv154 (Sep.m4 hS155) hW Chan.RO.len Chan.RO.one hx158 (fun v160 c161 h162 hv163 hS164 => ?_)
        simp only [f143, run_fa, put1_some, Nat.reduceAdd, Nat.zero_add, Nat.add_zero, xfa_ptr, run_st, B0, reduceIte, reduceEqDiff]
        refine put2_stCx (us := [v160]) (cells_one (SlN.one hv163)) (cs' := [v70, v160, v105, .int .i64 s118.Sent,
            .int .i64 s118.Total]) (Sep.m2 hS164) hW rfl (all_c (SlN.one hv163) all_n) (Nat.le_of_ble_eq_true rfl) rfl (fun h166 hS167 => ?_)
        simp only [run_ops_nil, run_nil, B0, reduceIte, reduceEqDiff]
        have e168 := some_inj hF159
        exact hN132 _ _ _ e168.symm ⟨v160, c161, f140, f141, f142, f143, f144, f145, f146, hv163, (Sep.m4 (Sep.m3 (Sep.m4 (Sep.m2 (Sep.m4 hS167)))))⟩ (f148) (f149)
      rw [iteF hc150] at hF129
      simp only [run_skip, run_nil, B0, reduceIte, reduceEqDiff]
      have e169 := some_inj hF129
      exact hN132 _ _ _ e169.symm ⟨v120, c121, f140, f141, f142, f143, f144, f145, f146, hv122, (Sep.m4 (Sep.m4 (Sep.m4 (Sep.m4 (Sep.m4 hS139)))))⟩ (f148) (f149)
    rintro s171 fr176 h177 rfl ⟨v173, c174, f179, f180, f181, f182, f183, f184, f185, hv175, hS178⟩
    dsimp only [jnO] at hk128
    unfold impl_newSnap_j1 at hk128
    simp only [run_nil, B0, reduceIte, reduceEqDiff]
    have e186 := some_inj hk128
    exact hN46 _ _ _ e186.symm ⟨v70, c71, v173, c174, v105, c106, f179, f180, f181, f182, hv73, hv175, hv108, (Sep.m4 (Sep.m4 (Sep.m4 (Sep.m4 (Sep.m4 hS178)))))⟩ (f185) (f184)
  rintro s189 fr202 h203 rfl ⟨v191, c192, v195, c196, v199, c200, f205, f206, f207, f208, hv193, hv197, hv201, hS204⟩
  dsimp only [jnO] at hk42
  unfold impl_newSnap_j2 at hk42
  simp only [run_seq, run_reg, f208, run_ld, B0, reduceIte, reduceEqDiff]
  refine put1_eq (v := .agg [v191, v195, v199, .int .i64 s189.Sent, .int .i64 s189.Total]) ((xld_bs (Sep.bk _ _ _ (Sep.m1 hS204))).trans rfl) ?_
  simp only [f207, run_st, B0, reduceIte, reduceEqDiff]
  refine put2_stCx (us := [v191, v195, v199, .int .i64 s189.Sent, .int .i64 s189.Total]) rfl (cs' := [v191, v195, v199, .int .i64 s189.Sent,
      .int .i64 s189.Total]) hS204 hW rfl (all_c (SlF.one hv193) (all_c (SlN.one hv197) (all_c (SlN.one hv201) (all_c rfl (all_c rfl all_n))))) (Nat.le_of_ble_eq_true rfl) rfl
      (fun h209 hS210 => ?_)
  simp only [run_ops_nil, run_ret, B0, reduceIte, reduceEqDiff]
  have he := some_inj hk42
  subst he
  refine end_ret_cell (bb := b1) (oo := 0) (v := .agg [v191, v195, v199, .int .i64 s189.Sent, .int .i64 s189.Total]) (by simp only [f207, B0, reduceIte,
      reduceEqDiff]) ((xld_bs (Sep.bk _ _ _ hS210)).trans rfl) ?_
  exact ⟨v191, c192, v195, c196, v199, c200, by first | trivial | rfl, hv193, hv197, hv201, (Sep.m2 (Sep.m2 (Sep.m2 (Sep.dc ((Sep.dc (hS210)))))))⟩
end Go.Proofs.Ytpkiieniipenjaa.X
namespace Go.Proofs.Ytpkiieniipenjaa.X
open Go
open Nat (reduceEqDiff)
theorem impl_Snap_take_x {W : Nat → Bool} {h : Heap} {lo : Nat → Prop} {S0 : List Obj} (hW : ∀ b,
    lo b → W b = true) (pb0 : Nat) (v_0 : Snap) (pv0_0 : XV) (pc0_0 : List Obj) (ph0_0 : SlF cI 1 3 pv0_0 v_0.Amounts pc0_0) (pv0_1 : XV) (pc0_1 : List Obj)
    (ph0_1 : SlN Chan.R 3 74 pv0_1 v_0.Chans pc0_1) (pv0_2 : XV) (pc0_2 : List Obj) (ph0_2 : SlN Picture.R 4 76 pv0_2 v_0.Pictures pc0_2) (v_1 : Int) (r : Bool × Snap)
    (hF : impl_Snap_take v_0 v_1 = some r) (hS : Sep h lo ([Blk1 pb0 [pv0_0, pv0_1, pv0_2, .int .i64 v_0.Sent,
    .int .i64 v_0.Total] 30] ++ (pc0_0 ++ (pc0_1 ++ (pc0_2 ++ (S0)))))) : Ret E W 76 [.ptr pb0 0, .int .i64 v_1] h (fun v h' => ∃ ic0_0 ic0_1 ic0_2,
    v = .bool r.1 ∧ SlF cI 1 3 pv0_0 r.2.Amounts ic0_0 ∧ SlN Chan.R 3 74 pv0_1 r.2.Chans ic0_1 ∧ SlN Picture.R 4 76 pv0_2 r.2.Pictures ic0_2 ∧ Sep h' lo ([Blk1 pb0 [pv0_0, pv0_1,
    pv0_2, .int .i64 r.2.Sent, .int .i64 r.2.Total] 30] ++ (ic0_0 ++ (ic0_1 ++ (ic0_2 ++ (S0)))))) := by
  refine Ret.of (fn := x76) rfl (Run.of ?_)
  unfold impl_Snap_take at hF
  have zf0 : argFr [.ptr pb0 0, .int .i64 v_1] 0 = .ptr pb0 0 := rfl
  have zf1 : argFr [.ptr pb0 0, .int .i64 v_1] 1 = .int .i64 v_1 := rfl
  generalize argFr [.ptr pb0 0, .int .i64 v_1] = fr0 at zf0 zf1 ⊢
  simp only [x76, run_seq, run_reg, run_mv, run_ops_nil, x76_16, zf0, run_chk, put1_some, xchk_ptr, run_fa, Nat.reduceAdd, Nat.zero_add, Nat.add_zero, xfa_ptr, run_ld, B0,
      reduceIte, reduceEqDiff]
  refine put1_eq (v := pv0_1) ((xld_b (Sep.bk _ _ _ hS)).trans rfl) ?_
  simp only [run_len, put1_some, SlN.len ph0_1, run_mv, run_ops_nil, B0, reduceIte, reduceEqDiff]
  obtain ⟨oc9, hX11, hk12⟩ := jn_some hF
  simp only [x76_4]
  refine rangeN_j (σ := (List Chan)) (fun i7 s79 => impl_Snap_take_b1 v_0 v_1 i7 s79) (fun s fr' h' => ∃ c5,
      fr' 0 = .ptr pb0 0 ∧ fr' 1 = .int .i64 v_1 ∧ fr' 12 = pv0_1 ∧ SlN Chan.R 3 74 pv0_1 s c5 ∧ Sep h' lo ([Blk1 pb0 [pv0_0, pv0_1, pv0_2, .int .i64 v_0.Sent,
      .int .i64 v_0.Total] 30] ++ (c5 ++ (pc0_0 ++ (pc0_2 ++ (S0)))))) hX11 ⟨pc0_1, zf0, zf1, rfl, ph0_1, (Sep.m3 (Sep.m3 (Sep.m2 (Sep.m3 hS))))⟩ (by simp only [B0, reduceIte,
      reduceEqDiff]) (by simp only [B0, reduceIte, reduceEqDiff]) (fun _ _ _ h => h) rfl rfl (fun _ _ _ _ h => h) (fun _ _ _ _ h => h) (fun _ _ _ _ h => h) (by decide) ?_ ?_
  · rintro i7 s4 fr21 h22 hx27 ⟨c5, f24, f25, f26, hv6, hS23⟩ f28 f29 oc10 hF13 hr14 Q15 hN16 hB20 hK17 hR18 hE19
    unfold impl_Snap_take_b1 at hF13
    obtain ⟨x30, hx31, hF32⟩ := bind_some' hF13
    simp only [x76_2, run_seq, run_reg, f26, f28, run_ia, B0, reduceIte, reduceEqDiff]
    obtain ⟨b33, hb34⟩ := SlN.isrow hv6 (geti_ne hx31)
    refine put1_eq (SlN.ia hv6 hb34 hx31) ?_
    obtain ⟨c35, cs36, os37, hv38, hR39, hS40⟩ := SlG.opn (SlN.toG hv6 hb34 Chan.RO.len) hx31 hk_nil Chan.RO.len (Sep.m1 hS23)
    obtain ⟨v42, c43, hv44, rfl, rfl⟩ := hR39
    have hS41 := Sep.no1 hS40
    simp only [run_ld, B0, reduceIte, reduceEqDiff]
    refine put1_eq (v := .agg [.int .i64 x30.From, .int .i64 x30.To, v42]) ((SlG.lds (o := 0) hv38 rfl hx31 hS41 (Nat.le_of_ble_eq_true rfl)).trans rfl) ?_
    simp only [run_new, B0, reduceIte, reduceEqDiff]
    refine put2_newC hS41 (fun b46 h47 hS48 => ?_)
    simp only [run_st, B0, reduceIte, reduceEqDiff]
    refine put2_stCx (us := [.int .i64 x30.From, .int .i64 x30.To, v42]) rfl (cs' := [.int .i64 x30.From, .int .i64 x30.To,
        v42]) hS48 hW rfl (all_c rfl (all_c rfl (all_c (SlF.one hv44) all_n))) (Nat.le_of_ble_eq_true rfl) rfl (fun h50 hS51 => ?_)
    simp only [run_ops_nil, B0, reduceIte, reduceEqDiff]
    refine frz_stepC hS51 hW (by simp only [B0, reduceIte, reduceEqDiff]) (fun h52 hS53 => ?_)
    simp only [run_frz_nil, x76_1, run_seq, run_reg, run_fa, put1_some, Nat.reduceAdd, Nat.zero_add, Nat.add_zero, xfa_ref, run_ld, B0, reduceIte, reduceEqDiff]
    refine put1_eq (v := .int .i64 x30.From) rfl ?_
    simp only [f25, run_mv, run_bin, put1_some, xeql, B0, reduceIte, reduceEqDiff]
    refine ops_j 5 (fun fr' h' => Sep h' lo ([Blk1 pb0 [pv0_0, pv0_1, pv0_2, .int .i64 v_0.Sent,
        .int .i64 v_0.Total] 30] ++ (c35 ++ (pc0_0 ++ (pc0_2 ++ (c43 ++ (S0)))))) ∧ fr' 27 = .bool ((decide (x30.From = v_1)) && (decide
        ((List.length x30.Way : Int) = 8))) ∧ fr' 0 = .ptr pb0 0 ∧ fr' 1 = .int .i64 v_1 ∧ fr' 12 = pv0_1 ∧ fr' 13 = .int .i64 (List.length v_0.Chans : Int) ∧ fr' 14 = .int .i64
        (i7 : Int)) (fun Q54 hN55 => ?_) ?_
    · simp only [List.take_succ_cons, List.take_zero]
      simp only [run_guard (g := 22), B0, reduceIte, reduceEqDiff]
      refine guard_split (t := (decide (x30.From = v_1))) (fun hg56 => ?_) (fun hg56 => ?_)
      · simp only [hg56, run_guard (g := 22), guard_true, run_fa, put1_some, Nat.reduceAdd, Nat.zero_add, Nat.add_zero, xfa_ref, run_ld, B0, reduceIte, reduceEqDiff]
        refine put1_eq (v := v42) rfl ?_
        simp only [hg56, run_guard (g := 22), guard_true, run_len, put1_some, SlF.plen hv44, run_bin, xeql, run_pick, xpick_t, run_ops_nil, run_nil, B0, reduceIte, reduceEqDiff]
        exact hN55 _ _ ⟨(Sep.m4 (Sep.m3 (Sep.m4 (Sep.m4 (Sep.m1 hS53))))), by rw [andT hg56]; simp only [B0, reduceIte, reduceEqDiff], f24, f25, f26, f29, f28⟩
      · simp only [hg56, run_guard (g := 22), guard_off, run_pick, put1_some, xpick_f, run_ops_nil, run_nil, B0, reduceIte, reduceEqDiff]
        exact hN55 _ _ ⟨(Sep.m4 (Sep.m3 (Sep.m4 (Sep.m4 (Sep.m1 hS53))))), by rw [andF hg56]; simp only [B0, reduceIte, reduceEqDiff], f24, f25, f26, f29, f28⟩
    rintro fr57 h64 ⟨hS65, f58, f59, f60, f61, f62, f63⟩
    simp only [List.drop_succ_cons, List.drop_zero]
    simp only [run_ops_nil, f58, run_cond, B0, reduceIte, reduceEqDiff]
    refine cond_split (t := ((decide (x30.From = v_1)) && (decide ((List.length x30.Way : Int) = 8)))) (fun hc66 => ?_) (fun hc66 => ?_)
    · rw [iteT hc66] at hF32
      simp only [run_seq, run_reg, run_mv, run_ops_nil, run_ret, B0, reduceIte, reduceEqDiff]
      have e67 := some_inj hF32
      subst e67
      have ho68 := hr14 _ rfl
      have hk69 := hk12
      rw [ho68] at hk69
      dsimp only [jnO] at hk69
      apply hR18
      obtain ⟨c70, hv71, hS72⟩ := SlG.cls0 (c := c35) (os := c43) hv38 rfl hx31 hk_nil (Chan.RI (x := x30) hv44) (Sep.m2 (Sep.m4 hS65))
      have hv73 := SlG.toN hv71
      have he := some_inj hk69
      subst he
      simp only [end_ret1, B0, reduceIte, reduceEqDiff]
      exact ⟨pc0_0, c70, pc0_2, by first | trivial | rfl, ph0_0, hv73, ph0_2, (Sep.m3 (Sep.m3 (Sep.m1 (Sep.m3 hS72))))⟩
    rw [iteF hc66] at hF32
    simp only [run_skip, run_nil, B0, reduceIte, reduceEqDiff]
    obtain ⟨c74, hv75, hS76⟩ := SlG.cls0 (c := c35) (os := c43) hv38 rfl hx31 hk_nil (Chan.RI (x := x30) hv44) (Sep.m2 (Sep.m4 hS65))
    have hv77 := SlG.toN hv75
    have e78 := some_inj hF32
    exact hN16 _ _ _ e78.symm ⟨c74, f59, f60, f61, hv77, (Sep.m3 (Sep.m2 (Sep.m3 (Sep.m3 hS76))))⟩ (f63) (f62)
  rintro s80 fr83 h84 rfl ⟨c81, f86, f87, f88, hv82, hS85⟩
  dsimp only [jnO] at hk12
  unfold impl_Snap_take_j2 at hk12
  simp only [x76_15, run_seq, run_reg, f86, run_mv, run_chk, put1_some, xchk_ptr, run_fa, Nat.reduceAdd, Nat.zero_add, Nat.add_zero, xfa_ptr, run_ld, B0, reduceIte, reduceEqDiff]
  refine put1_eq (v := pv0_1) ((xld_b (Sep.bk _ _ _ hS85)).trans rfl) ?_
  simp only [run_len, put1_some, SlN.len hv82, run_mv, run_ops_nil, B0, reduceIte, reduceEqDiff]
  obtain ⟨oc97, hX99, hk100⟩ := jn_some hk12
  simp only [x76_10]
  refine rangeN_j (σ := (List Chan)) (fun i95 s164 => impl_Snap_take_b2 v_1 i95 s164) (fun s fr' h' => ∃ c93,
      fr' 0 = .ptr pb0 0 ∧ fr' 1 = .int .i64 v_1 ∧ SlN Chan.R 3 74 pv0_1 s c93 ∧ Sep h' lo ([Blk1 pb0 [pv0_0, pv0_1, pv0_2, .int .i64 v_0.Sent,
      .int .i64 v_0.Total] 30] ++ (pc0_0 ++ (c93 ++ (pc0_2 ++ (S0)))))) hX99 ⟨c81, f86, f87, hv82, (Sep.m3 (Sep.m3 (Sep.m2 (Sep.m3 hS85))))⟩ (by simp only [B0, reduceIte,
      reduceEqDiff]) (by simp only [B0, reduceIte, reduceEqDiff]) (fun _ _ _ h => h) rfl rfl (fun _ _ _ _ h => h) (fun _ _ _ _ h => h) (fun _ _ _ _ h => h) (by decide) ?_ ?_
  · rintro i95 s92 fr109 h110 hx114 ⟨c93, f112, f113, hv94, hS111⟩ f115 f116 oc98 hF101 hr102 Q103 hN104 hB108 hK105 hR106 hE107
    unfold impl_Snap_take_b2 at hF101
    simp only [x76_8, run_seq, run_reg, f115, run_mv, run_ops_nil, x76_7, f112, run_chk, put1_some, xchk_ptr, run_fa, Nat.reduceAdd, Nat.zero_add, Nat.add_zero, xfa_ptr, run_ld,
        B0, reduceIte, reduceEqDiff]
    refine put1_eq (v := pv0_1) ((xld_b (Sep.bk _ _ _ hS111)).trans rfl) ?_
    obtain ⟨x117, hx118, hF119⟩ := bind_some' hF101
    simp only [run_mv, run_ia, B0, reduceIte, reduceEqDiff]
    obtain ⟨b120, hb121⟩ := SlN.isrow hv94 (geti_ne hx118)
    refine put1_eq (SlN.ia hv94 hb121 hx118) ?_
    obtain ⟨c122, cs123, os124, hv125, hR126, hS127⟩ := SlG.opn (SlN.toG hv94 hb121 Chan.RO.len) hx118 hk_nil Chan.RO.len (Sep.m2 hS111)
    obtain ⟨v129, c130, hv131, rfl, rfl⟩ := hR126
    have hS128 := Sep.no1 hS127
    simp only [run_fa, put1_some, Nat.reduceAdd, Nat.zero_add, Nat.add_zero, xfa_ptr, run_ld, B0, reduceIte, reduceEqDiff]
    refine put1_eq (v := .int .i64 x117.From) ((SlG.ld (o := 0) hv125 rfl hx118 hS128 (Nat.le_of_ble_eq_true rfl)).trans rfl) ?_
    simp only [f113, run_mv, run_bin, put1_some, xeql, run_ops_nil, x76_6, run_cond, B0, reduceIte, reduceEqDiff]
    refine cond_split (t := (decide (x117.From = v_1))) (fun hc133 => ?_) (fun hc133 => ?_)
    · rw [iteT hc133] at hF119
      simp only [x76_5, run_draw, f112, d1_mv, put1d_some, d1_chk, xchk_ptr, d1_fa, Nat.reduceAdd, Nat.zero_add, Nat.add_zero, xfa_ptr, d1_ld, B0, reduceIte, reduceEqDiff]
      refine ldd_ptr (Sep.ltk (Sep.m2 hS128)) ?_
      refine put1d_eq (v := pv0_1) ((xld_b (Sep.bk _ _ _ (Sep.m2 hS128))).trans rfl) ?_
      simp only [d1_mv, put1d_some, f112, d4_mv, d4_chk, xchk_ptr, d4_fa, Nat.reduceAdd, Nat.zero_add, Nat.add_zero, xfa_ptr, d4_ld, B0, reduceIte, reduceEqDiff]
      refine put1d_eq (v := pv0_1) ((xld_b (Sep.bk _ _ _ (Sep.m2 hS128))).trans rfl) ?_
      simp only [d4_mv, put1d_some, d4_ia, B0, reduceIte, reduceEqDiff]
      refine put1d_eq (SlG.ia hv125 hx118) ?_
      simp only [d4_fa, put1d_some, Nat.reduceAdd, Nat.zero_add, Nat.add_zero, xfa_ptr, d4_ld, B0, reduceIte, reduceEqDiff]
      refine put1d_eq (v := v129) ((SlG.ld (o := 2) hv125 rfl hx118 hS128 (Nat.le_of_ble_eq_true rfl)).trans rfl) ?_
      simp only [d4_buildS, evp, B0, reduceIte, reduceEqDiff]
      refine put2d_buildSF (n := 1) (f := cI) [0] hS128 rfl rfl (fun v134 c135 h136 hv137 hS138 => ?_)
      simp only [d2_appQ, B0, reduceIte, reduceEqDiff]
      obtain ⟨l140, hx141, hF142⟩ := bind_some' hF119
      refine q_app (disjR1 (fun z hz => Sep.dj (Sep.m3 (Sep.m3 hS138)) blkfp (SlF.rowfp hv131 z hz)) disjR0) ?_
      refine put2d_appF (f := cI) hv131 (Sep.m2 hS138) hW (fun _ => rfl) (fun _ => rfl) (SlF.first hv137 hS138 (fun _ => rfl)) hx141 (fun v143 c144 h145 hv146 hS147 => ?_)
      simp only [d4_ia, B0, reduceIte, reduceEqDiff]
      refine put1d_eq (SlG.ia hv125 hx118) ?_
      simp only [d4_fa, put1d_some, Nat.reduceAdd, Nat.zero_add, Nat.add_zero, xfa_ptr, d3_st, B0, reduceIte, reduceEqDiff]
      refine put2d_stGx (us := [v143]) (o := 2) (cs' := [.int .i64 x117.From, .int .i64 x117.To,
          v143]) (cells_one (SlF.one hv146)) hv125 rfl hx118 (Sep.m2 hS147) hW rfl (all_c (SlF.one hv146) all_n) (Nat.le_of_ble_eq_true rfl) rfl (fun c151 h149 hv152 hS150 => ?_)
      simp only [run_draw_nil, run_nil, B0, reduceIte, reduceEqDiff]
      obtain ⟨c153, hv154, hS155⟩ := SlG.cls (e' := (Chan.mk x117.From x117.To l140)) (c := c151) (os := c144) hv152 rfl hx118 hk_nil (Chan.RI (x :=
          (Chan.mk x117.From x117.To l140)) hv146) (Sep.m1 (Sep.m1 hS150))
      have hx156 := geti_set (x' := (Chan.mk x117.From x117.To l140)) hx118
      have hv157 := SlG.toN hv154
      have e158 := some_inj hF142
      exact hN104 _ _ _ e158.symm ⟨c153, f112, f113, hv157, (Sep.m3 (Sep.m3 (Sep.m1 (Sep.m3 (Sep.dc (Sep.m1 hS155))))))⟩ (f115) (f116)
    rw [iteF hc133] at hF119
    simp only [run_skip, run_nil, B0, reduceIte, reduceEqDiff]
    obtain ⟨c159, hv160, hS161⟩ := SlG.cls0 (c := c122) (os := c130) hv125 rfl hx118 hk_nil (Chan.RI (x := x117) hv131) (Sep.m1 (Sep.m1 hS128))
    have hv162 := SlG.toN hv160
    have e163 := some_inj hF119
    exact hN104 _ _ _ e163.symm ⟨c159, f112, f113, hv162, (Sep.m3 (Sep.m3 (Sep.m1 (Sep.m3 hS161))))⟩ (f115) (f116)
  rintro s165 fr168 h169 rfl ⟨c166, f171, f172, hv167, hS170⟩
  dsimp only [jnO] at hk100
  unfold impl_Snap_take_j1 at hk100
  simp only [x76_14, run_seq, run_reg, f171, run_mv, run_chk, put1_some, xchk_ptr, run_fa, Nat.reduceAdd, Nat.zero_add, Nat.add_zero, xfa_ptr, run_ld, B0, reduceIte, reduceEqDiff]
  refine put1_eq (v := pv0_2) ((xld_b (Sep.bk _ _ _ hS170)).trans rfl) ?_
  obtain ⟨x173, hx174, hF175⟩ := bind_some' hk100
  simp only [f172, run_mv, run_ia, B0, reduceIte, reduceEqDiff]
  obtain ⟨b176, hb177⟩ := SlN.isrow ph0_2 (geti_ne hx174)
  refine put1_eq (SlN.ia ph0_2 hb177 hx174) ?_
  obtain ⟨c180, cs181, os182, hv183, hR184, hS185⟩ := SlG.opn (SlN.toG ph0_2 hb177 Picture.RO.len) hx174 hk_nil Picture.RO.len (Sep.m3 hS170)
  obtain ⟨v187, c188, v191, c192, hv189, hv193, rfl, rfl⟩ := hR184
  have hS186 := Sep.no2 hS185
  simp only [run_mv, run_ops_nil, x76_13, run_seq, run_reg, run_chk, put1_some, xchk_ptr, run_fa, Nat.reduceAdd, Nat.zero_add, Nat.add_zero, xfa_ptr, run_st, B0, reduceIte,
      reduceEqDiff]
  refine put2_stGx (us := [.bool true]) (o := 0) (cs' := [.bool true, .int .i64 x173.Amount, v187,
      v191]) rfl hv183 rfl hx174 hS186 hW rfl rfl (Nat.le_of_ble_eq_true rfl) rfl (fun c195 h178 hv196 hS179 => ?_)
  simp only [run_ops_nil, x76_12, run_seq, run_reg, run_mv, f171, run_chk, put1_some, xchk_ptr, run_fa, Nat.reduceAdd, Nat.zero_add, Nat.add_zero, xfa_ptr, run_ld, B0, reduceIte,
      reduceEqDiff]
  refine put1_eq (v := pv0_0) ((xld_b (Sep.bk _ _ _ (Sep.m3 hS179))).trans rfl) ?_
  obtain ⟨x197, hx198, hF199⟩ := bind_some' hF175
  simp only [f172, run_mv, run_ia, B0, reduceIte, reduceEqDiff]
  obtain ⟨b200, hb201⟩ := SlF.isrow ph0_0 (geti_ne hx198)
  refine put1_eq (SlF.ia ph0_0 hb201 hx198) ?_
  simp only [run_ld, B0, reduceIte, reduceEqDiff]
  refine put1_eq (v := .int .i64 x197) ((SlF.ld (o := 0) ph0_0 (Sep.m4 hS179) hb201 hx198 (fun _ => rfl) (Nat.le_of_ble_eq_true rfl)).trans rfl) ?_
  simp only [run_chk, put1_some, xchk_ptr, run_fa, Nat.reduceAdd, Nat.zero_add, Nat.add_zero, xfa_ptr, run_st, B0, reduceIte, reduceEqDiff]
  refine put2_stGx (us := [.int .i64 x197]) (o := 1) (cs' := [.bool true, .int .i64 x197, v187,
      v191]) rfl hv196 rfl hx174 hS179 hW rfl rfl (Nat.le_of_ble_eq_true rfl) rfl (fun c204 h202 hv205 hS203 => ?_)
  simp only [run_ops_nil, x76_11, run_seq, run_reg, run_mv, run_chk, put1_some, xchk_ptr, run_fa, Nat.reduceAdd, Nat.zero_add, Nat.add_zero, xfa_ptr, run_ld, B0, reduceIte,
      reduceEqDiff]
  refine put1_eq (v := v191) ((SlG.ld (o := 3) hv205 rfl hx174 hS203 (Nat.le_of_ble_eq_true rfl)).trans rfl) ?_
  obtain ⟨x206, hx207, hF208⟩ := bind_some' hF199
  simp only [f172, run_mv, run_ia, B0, reduceIte, reduceEqDiff]
  obtain ⟨b209, hb210⟩ := SlF.isrow hv193 (geti_ne hx207)
  refine put1_eq (SlF.ia hv193 hb210 hx207) ?_
  simp only [run_st, B0, reduceIte, reduceEqDiff]
  refine put2_stF (f := cB) (x' := true) (o := 0) hv193 (Sep.m2 hS203) hW hb210 hx207 (fun _ => rfl) rfl rfl (Nat.le_of_ble_eq_true rfl) rfl (fun c213 h211 hv214 hS212 => ?_)
  have hx215 := geti_set (x' := true) hx207
  simp only [run_ops_nil, run_seq, run_reg, run_mv, run_ret, B0, reduceIte, reduceEqDiff]
  obtain ⟨c216, hv217, hS218⟩ := SlG.cls (e' := (Picture.mk true x197 x173.In (List.set x173.Closed v_1.toNat true))) (c := c204) (os := c188 ++ (c213)) hv205 rfl hx174 hk_nil
      (Picture.RI (x := (Picture.mk true x197 x173.In (List.set x173.Closed v_1.toNat true))) hv189 hv214) (Sep.ni2 (c1 := c188) (c2 := c213) (Sep.m2 (Sep.m2 hS212)))
  have hx219 := geti_set (x' := (Picture.mk true x197 x173.In (List.set x173.Closed v_1.toNat true))) hx174
  have hv220 := SlG.toN hv217
  have he := some_inj hF208
  subst he
  simp only [end_ret1, B0, reduceIte, reduceEqDiff]
  exact ⟨pc0_0, c166, c216, by first | trivial | rfl, ph0_0, hv167, hv220, (Sep.m3 (Sep.m3 (Sep.m3 hS218)))⟩
end Go.Proofs.Ytpkiieniipenjaa.X
