/- The functions' code comes to what the plain functions say (1). -/
import Derived.Test.YtdhibknhejhfaaaXCF
import Derived.Test.YtdhibknhejhfaaaXCD
set_option linter.unusedVariables false
set_option linter.unusedSimpArgs false
set_option maxRecDepth 100000
namespace Go.Proofs.Ytdhibknhejhfaaa.X
open Go
open Nat (reduceEqDiff)
def Reader.R : Rep Reader := fun x cs os => ∃ (v2 : XV) (c2 : List Obj) (v3 : XV) (c3 : List Obj), SlF cI 1 3 v2 x.Share c2 ∧ SlF cI 1 3 v3 x.Read c3 ∧ cs = [.bool x.In,
    .int .i64 x.Generation, v2, v3] ∧ c2 ++ (c3) = os
theorem Reader.RI {x : Reader} {v2 : XV} {c2 : List Obj} (h2 : SlF cI 1 3 v2 x.Share c2) {v3 : XV} {c3 : List Obj} (h3 : SlF cI 1 3 v3 x.Read c3) : Reader.R x [.bool x.In,
    .int .i64 x.Generation, v2, v3] (c2 ++ (c3)) := ⟨v2, c2, v3, c3, h2, h3, rfl, rfl⟩
theorem Reader.RO : RepOk E.sz Reader.R Reader.cells 4 where
  len := fun {x cs os} H => by
    obtain ⟨v2, c2, v3, c3, h2, h3, rfl, rfl⟩ := H
    rfl
  flen := fun _ => rfl
  one := fun {x cs os} H => by
    obtain ⟨v2, c2, v3, c3, h2, h3, rfl, rfl⟩ := H
    exact (all_c rfl (all_c rfl (all_c (SlF.one h2) (all_c (SlF.one h3) all_n))))
  snap := fun {x cs os h lo S} m H hS => by
    obtain ⟨v2, c2, v3, c3, h2, h3, rfl, rfl⟩ := H
    have hS2 : Sep h lo (c2 ++ (c3 ++ S)) := (by simpa only [List.append_assoc] using hS)
    exact (mapM1 snap_bool (mapM1 snap_int (mapM1 (SlF.snap h2 hS2 rfl (fun _ => rfl) (fun _ => rfl)) (mapM1 (SlF.snap h3 (Sep.m1 hS2) rfl (fun _ => rfl) (fun _ => rfl)) mapM0))))
  cut := fun {x cs os h lo n0 keep S} m H hS hge => by
    obtain ⟨v2, c2, v3, c3, h2, h3, rfl, rfl⟩ := H
    have hS2 : Sep h lo (c2 ++ (c3 ++ S)) := (by simpa only [List.append_assoc] using hS)
    exact (mapM1 rfl (mapM1 rfl (mapM1 (SlF.cut h2 hS2 hge rfl (fun _ => rfl) (fun _ => rfl)) (mapM1 (SlF.cut h3 (Sep.m1 hS2) hge rfl (fun _ => rfl) (fun _ => rfl)) mapM0))))
  free := fun {x cs os} H => by
    obtain ⟨v2, c2, v3, c3, h2, h3, rfl, rfl⟩ := H
    exact (all_c rfl (all_c rfl (all_c (SlF.free1 h2) (all_c (SlF.free1 h3) all_n))))
  pf := fun {x cs os} H => by
    obtain ⟨v2, c2, v3, c3, h2, h3, rfl, rfl⟩ := H
    exact (pf_app (SlF.pf h2 (fun _ => rfl)) (SlF.pf h3 (fun _ => rfl)))
theorem spec_next_x {W : Nat → Bool} {h : Heap} {lo : Nat → Prop} {S0 : List Obj} (hW : ∀ b,
    lo b → W b = true) (pb0 : Nat) (c_0 : L1Cur) (r : Int × L1Cur) (hF : spec_next c_0 = some r) (hS : Sep h lo ([Blk1 pb0 [lst cU8 c_0.code, .int .i64 c_0.at_,
    .int .u64 c_0.seed] 80] ++ (S0))) : Ret E W 76 [.ptr pb0 0] h (fun v h' => v = .int .i64 r.1 ∧ Sep h' lo ([Blk1 pb0 [lst cU8 r.2.code, .int .i64 r.2.at_,
    .int .u64 r.2.seed] 80] ++ (S0))) := by
  refine Ret.of (fn := x76) rfl (Run.of ?_)
  unfold spec_next at hF
  have zf0 : argFr [.ptr pb0 0] 0 = .ptr pb0 0 := rfl
  generalize argFr [.ptr pb0 0] = fr0 at zf0 ⊢
  simp only [x76, run_seq, run_reg, run_mv, run_ops_nil, x76_9, x76_8, run_draw, zf0, d4_mv, put1d_some, d4_chk, xchk_ptr, d4_fa, Nat.reduceAdd, Nat.zero_add, Nat.add_zero,
      xfa_ptr, d4_ld, B0, reduceIte, reduceEqDiff]
  refine put1d_eq (v := .int .i64 c_0.at_) ((xld_b (Sep.bk _ _ _ hS)).trans rfl) ?_
  simp only [zf0, d4_mv, put1d_some, d4_chk, xchk_ptr, d4_fa, Nat.reduceAdd, Nat.zero_add, Nat.add_zero, xfa_ptr, d4_ld, B0, reduceIte, reduceEqDiff]
  refine put1d_eq (v := lst cU8 c_0.code) ((xld_b (Sep.bk _ _ _ hS)).trans rfl) ?_
  simp only [d4_len, put1d_some, xlen_lst, d4_bin, xlss, run_draw_nil, x76_2, run_cond, B0, reduceIte, reduceEqDiff]
  obtain ⟨s1, hX3, hk4⟩ := bind_some' hF
  refine cond_j (t := (decide (c_0.at_ < (List.length c_0.code : Int)))) (fun fr' h' => fr' 0 = .ptr pb0 0 ∧ fr' 3 = .int .i64 s1 ∧ Sep h' lo ([Blk1 pb0 [lst cU8 c_0.code,
      .int .i64 c_0.at_, .int .u64 c_0.seed] 80] ++ (S0))) (fun Q5 hN6 hR7 hE8 => ⟨fun hc9 => ?_, fun hc9 => ?_⟩) ?_
  · rw [iteT hc9] at hX3
    simp only [x76_1, run_draw, zf0, d4_mv, put1d_some, d4_chk, xchk_ptr, d4_fa, Nat.reduceAdd, Nat.zero_add, Nat.add_zero, xfa_ptr, d4_ld, B0, reduceIte, reduceEqDiff]
    refine put1d_eq (v := lst cU8 c_0.code) ((xld_b (Sep.bk _ _ _ hS)).trans rfl) ?_
    simp only [zf0, d4_mv, put1d_some, d4_chk, xchk_ptr, d4_fa, Nat.reduceAdd, Nat.zero_add, Nat.add_zero, xfa_ptr, d4_ld, B0, reduceIte, reduceEqDiff]
    refine put1d_eq (v := .int .i64 c_0.at_) ((xld_b (Sep.bk _ _ _ hS)).trans rfl) ?_
    obtain ⟨x10, hx11, hF12⟩ := bind_some' hX3
    simp only [d4_ia, B0, reduceIte, reduceEqDiff]
    refine put1d_eq (v := .ref (cU8 x10) 0) (xia_lst hx11 rfl) ?_
    simp only [d4_ld, B0, reduceIte, reduceEqDiff]
    refine put1d_eq (v := .int .u8 x10) rfl ?_
    simp only [d4_cvt, put1d_some, xcvt_i, d4_mv, run_draw_nil, run_nil, B0, reduceIte, reduceEqDiff]
    have e13 := some_inj hF12
    subst e13
    exact hN6 _ _ ⟨zf0, rfl, hS⟩
  · rw [iteF hc9] at hX3
    simp only [run_skip, run_nil, B0, reduceIte, reduceEqDiff]
    have e14 := some_inj hX3
    subst e14
    exact hN6 _ _ ⟨zf0, rfl, hS⟩
  rintro fr15 h16 ⟨f18, f19, hS17⟩
  unfold spec_next_j1 at hk4
  simp only [x76_7, run_seq, run_reg, f18, run_mv, run_chk, put1_some, xchk_ptr, run_fa, Nat.reduceAdd, Nat.zero_add, Nat.add_zero, xfa_ptr, run_ld, B0, reduceIte, reduceEqDiff]
  refine put1_eq (v := .int .i64 c_0.at_) ((xld_b (Sep.bk _ _ _ hS17)).trans rfl) ?_
  simp only [run_bin, put1_some, xadd, run_chk, xchk_ptr, run_fa, Nat.reduceAdd, Nat.zero_add, Nat.add_zero, xfa_ptr, run_st, B0, reduceIte, reduceEqDiff]
  refine put2_stCx (us := [.int .i64 (IntKind.wrap .i64 (c_0.at_ + 1))]) rfl (cs' := [lst cU8 c_0.code, .int .i64 (IntKind.wrap .i64 (c_0.at_ + 1)),
      .int .u64 c_0.seed]) hS17 hW rfl rfl (Nat.le_of_ble_eq_true rfl) rfl (fun h20 hS21 => ?_)
  simp only [run_ops_nil, x76_6, run_seq, run_reg, f18, run_mv, run_chk, put1_some, xchk_ptr, run_fa, Nat.reduceAdd, Nat.zero_add, Nat.add_zero, xfa_ptr, run_ld, B0, reduceIte,
      reduceEqDiff]
  refine put1_eq (v := .int .u64 c_0.seed) ((xld_b (Sep.bk _ _ _ hS21)).trans rfl) ?_
  simp only [run_bin, put1_some, xmul, f19, run_mv, run_cvt, xcvt_i, xadd, run_chk, xchk_ptr, run_fa, Nat.reduceAdd, Nat.zero_add, Nat.add_zero, xfa_ptr, run_st, B0, reduceIte,
      reduceEqDiff]
  refine put2_stCx (us := [.int .u64 (IntKind.wrap .u64 ((IntKind.wrap .u64 ((IntKind.wrap .u64 (c_0.seed * 6364136223846793005)) +
      (IntKind.wrap .u64 s1))) + 1442695040888963407))]) rfl (cs' := [lst cU8 c_0.code, .int .i64 (IntKind.wrap .i64 (c_0.at_ + 1)),
      .int .u64 (IntKind.wrap .u64 ((IntKind.wrap .u64 ((IntKind.wrap .u64 (c_0.seed * 6364136223846793005)) + (IntKind.wrap .u64 s1))) + 1442695040888963407))]) hS21 hW rfl rfl
      (Nat.le_of_ble_eq_true rfl) rfl (fun h22 hS23 => ?_)
  simp only [run_ops_nil, x76_5, run_seq, run_draw, f18, d4_mv, put1d_some, d4_chk, xchk_ptr, d4_fa, Nat.reduceAdd, Nat.zero_add, Nat.add_zero, xfa_ptr, d4_ld, B0, reduceIte,
      reduceEqDiff]
  refine put1d_eq (v := .int .i64 (IntKind.wrap .i64 (c_0.at_ + 1))) ((xld_b (Sep.bk _ _ _ hS23)).trans rfl) ?_
  simp only [f18, d4_mv, put1d_some, d4_chk, xchk_ptr, d4_fa, Nat.reduceAdd, Nat.zero_add, Nat.add_zero, xfa_ptr, d4_ld, B0, reduceIte, reduceEqDiff]
  refine put1d_eq (v := lst cU8 c_0.code) ((xld_b (Sep.bk _ _ _ hS23)).trans rfl) ?_
  simp only [d4_len, put1d_some, xlen_lst, d4_bin, xleq, run_draw_nil, x76_3, run_cond, B0, reduceIte, reduceEqDiff]
  refine cond_split (t := (decide ((IntKind.wrap .i64 (c_0.at_ + 1)) ≤ (List.length c_0.code : Int)))) (fun hc24 => ?_) (fun hc24 => ?_)
  · rw [iteT hc24] at hk4
    simp only [run_seq, run_reg, f19, run_mv, run_ops_nil, run_ret, B0, reduceIte, reduceEqDiff]
    have he := some_inj hk4
    subst he
    simp only [end_ret1, B0, reduceIte, reduceEqDiff]
    exact ⟨by first | trivial | rfl, hS23⟩
  rw [iteF hc24] at hk4
  simp only [run_skip, x76_4, run_seq, run_reg, f18, run_mv, run_chk, put1_some, xchk_ptr, run_fa, Nat.reduceAdd, Nat.zero_add, Nat.add_zero, xfa_ptr, run_ld, B0, reduceIte,
      reduceEqDiff]
  refine put1_eq (v := .int .u64 (IntKind.wrap .u64 ((IntKind.wrap .u64 ((IntKind.wrap .u64 (c_0.seed * 6364136223846793005)) + (IntKind.wrap .u64 s1))) + 1442695040888963407)))
      ((xld_b (Sep.bk _ _ _ hS23)).trans rfl) ?_
  simp only [run_bin, put1_some, xshr_nn (n := 40) (by decide), xand_i, run_cvt, xcvt_i, run_mv, run_ops_nil, run_ret, B0, reduceIte, reduceEqDiff]
  have he := some_inj hk4
  subst he
  simp only [end_ret1, B0, reduceIte, reduceEqDiff]
  exact ⟨by first | trivial | rfl, hS23⟩
theorem spec_pick_x {W : Nat → Bool} {h : Heap} {lo : Nat → Prop} {S0 : List Obj} (hW : ∀ b,
    lo b → W b = true) (pb0 : Nat) (c_0 : L1Cur) (n_1 : Int) (r : Int × L1Cur) (hF : spec_pick c_0 n_1 = some r) (hS : Sep h lo ([Blk1 pb0 [lst cU8 c_0.code, .int .i64 c_0.at_,
    .int .u64 c_0.seed] 80] ++ (S0))) : Ret E W 48 [.ptr pb0 0, .int .i64 n_1] h (fun v h' => v = .int .i64 r.1 ∧ Sep h' lo ([Blk1 pb0 [lst cU8 r.2.code, .int .i64 r.2.at_,
    .int .u64 r.2.seed] 80] ++ (S0))) := by
  refine Ret.of (fn := x48) rfl (Run.of ?_)
  unfold spec_pick at hF
  have zf0 : argFr [.ptr pb0 0, .int .i64 n_1] 0 = .ptr pb0 0 := rfl
  have zf1 : argFr [.ptr pb0 0, .int .i64 n_1] 1 = .int .i64 n_1 := rfl
  generalize argFr [.ptr pb0 0, .int .i64 n_1] = fr0 at zf0 zf1 ⊢
  simp only [x48, run_seq, run_reg, run_mv, run_ops_nil, x48_6, zf1, run_bin, put1_some, xleq, run_cond, B0, reduceIte, reduceEqDiff]
  refine cond_split (t := (decide (n_1 ≤ 1))) (fun hc1 => ?_) (fun hc1 => ?_)
  · rw [iteT hc1] at hF
    simp only [run_seq, run_reg, run_mv, run_ops_nil, run_ret, B0, reduceIte, reduceEqDiff]
    have he := some_inj hF
    subst he
    simp only [end_ret1, B0, reduceIte, reduceEqDiff]
    exact ⟨by first | trivial | rfl, hS⟩
  rw [iteF hc1] at hF
  obtain ⟨v2, hx3, hF4⟩ := bind_some' hF
  simp only [run_skip, x48_5, run_seq, run_reg, zf0, run_mv, run_call, B0, reduceIte, reduceEqDiff]
  refine call0 rfl (spec_next_x hW pb0 c_0 v2 hx3 hS) ?_
  rintro _ h5 ⟨rfl, hS6⟩
  simp only [run_mv, run_ops_nil, x48_4, run_seq, run_reg, zf1, run_bin, put1_some, xgtr, x48_2, run_cond, B0, reduceIte, reduceEqDiff]
  refine cond_split (t := (decide ((200 : Int) < n_1))) (fun hc7 => ?_) (fun hc7 => ?_)
  · rw [iteT hc7] at hF4
    obtain ⟨v8, hx9, hF10⟩ := bind_some' hF4
    simp only [x48_1, run_reg, run_mv, run_bin, put1_some, xmul, zf0, run_call, B0, reduceIte, reduceEqDiff]
    refine call0 rfl (spec_next_x hW pb0 v2.2 v8 hx9 hS6) ?_
    rintro _ h11 ⟨rfl, hS12⟩
    obtain ⟨hp13, hF14⟩ := ck_some hF10
    simp only [run_bin, put1_some, xadd, run_mv, run_ops_nil, x48_3, run_seq, run_reg, zf1, xrem_nz (n := n_1) hp13, run_ret, B0, reduceIte, reduceEqDiff]
    have he := some_inj hF14
    subst he
    simp only [end_ret1, B0, reduceIte, reduceEqDiff]
    exact ⟨by first | trivial | rfl, hS12⟩
  rw [iteF hc7] at hF4
  obtain ⟨hp15, hF16⟩ := ck_some hF4
  simp only [run_skip, x48_3, run_seq, run_reg, run_mv, zf1, run_bin, put1_some, xrem_nz (n := n_1) hp15, run_ops_nil, run_ret, B0, reduceIte, reduceEqDiff]
  have he := some_inj hF16
  subst he
  simp only [end_ret1, B0, reduceIte, reduceEqDiff]
  exact ⟨by first | trivial | rfl, hS6⟩
theorem spec_among_x {W : Nat → Bool} {h : Heap} {lo : Nat → Prop} {S0 : List Obj} (hW : ∀ b,
    lo b → W b = true) (pb0 : Nat) (c_0 : L1Cur) (pv1 : XV) (pc1 : List Obj) (list_1 : List Int) (ph1 : SlF cI 1 3 pv1 list_1 pc1) (r : Int × L1Cur × (List Int))
    (hF : spec_among c_0 list_1 = some r) (hS : Sep h lo ([Blk1 pb0 [lst cU8 c_0.code, .int .i64 c_0.at_, .int .u64 c_0.seed] 80] ++ (pc1 ++ (S0)))) : Ret E W 77 [.ptr pb0 0,
    pv1] h (fun v h' => ∃ ic1, v = .int .i64 r.1 ∧ SlF cI 1 3 pv1 r.2.2 ic1 ∧ Sep h' lo ([Blk1 pb0 [lst cU8 r.2.1.code, .int .i64 r.2.1.at_,
    .int .u64 r.2.1.seed] 80] ++ (ic1 ++ (S0)))) := by
  refine Ret.of (fn := x77) rfl (Run.of ?_)
  unfold spec_among at hF
  have zf0 : argFr [.ptr pb0 0, pv1] 0 = .ptr pb0 0 := rfl
  have zf1 : argFr [.ptr pb0 0, pv1] 1 = pv1 := rfl
  generalize argFr [.ptr pb0 0, pv1] = fr0 at zf0 zf1 ⊢
  obtain ⟨v1, hx2, hF3⟩ := bind_some' hF
  simp only [x77, run_seq, run_reg, run_mv, run_ops_nil, x77_1, zf1, zf0, run_len, put1_some, SlF.plen ph1, run_call, B0, reduceIte, reduceEqDiff]
  refine call0 rfl (spec_pick_x hW pb0 c_0 (List.length list_1 : Int) v1 hx2 hS) ?_
  rintro _ h4 ⟨rfl, hS5⟩
  obtain ⟨x6, hx7, hF8⟩ := bind_some' hF3
  simp only [run_ia, B0, reduceIte, reduceEqDiff]
  obtain ⟨b9, hb10⟩ := SlF.isrow ph1 (geti_ne hx7)
  refine put1_eq (SlF.ia ph1 hb10 hx7) ?_
  simp only [run_ld, B0, reduceIte, reduceEqDiff]
  refine put1_eq (v := .int .i64 x6) ((SlF.ld (o := 0) ph1 (Sep.m1 hS5) hb10 hx7 (fun _ => rfl) (Nat.le_of_ble_eq_true rfl)).trans rfl) ?_
  simp only [run_mv, run_ops_nil, run_ret, B0, reduceIte, reduceEqDiff]
  have he := some_inj hF8
  subst he
  simp only [end_ret1, B0, reduceIte, reduceEqDiff]
  exact ⟨pc1, by first | trivial | rfl, ph1, (Sep.m1 (Sep.m1 hS5))⟩
theorem spec_one_x {W : Nat → Bool} {h : Heap} {lo : Nat → Prop} {S0 : List Obj} (hW : ∀ b,
    lo b → W b = true) (pb0 : Nat) (c_0 : L1Cur) (n_1 : Int) (r : Bool × L1Cur) (hF : spec_one c_0 n_1 = some r) (hS : Sep h lo ([Blk1 pb0 [lst cU8 c_0.code, .int .i64 c_0.at_,
    .int .u64 c_0.seed] 80] ++ (S0))) : Ret E W 78 [.ptr pb0 0, .int .i64 n_1] h (fun v h' => v = .bool r.1 ∧ Sep h' lo ([Blk1 pb0 [lst cU8 r.2.code, .int .i64 r.2.at_,
    .int .u64 r.2.seed] 80] ++ (S0))) := by
  refine Ret.of (fn := x78) rfl (Run.of ?_)
  unfold spec_one at hF
  have zf0 : argFr [.ptr pb0 0, .int .i64 n_1] 0 = .ptr pb0 0 := rfl
  have zf1 : argFr [.ptr pb0 0, .int .i64 n_1] 1 = .int .i64 n_1 := rfl
  generalize argFr [.ptr pb0 0, .int .i64 n_1] = fr0 at zf0 zf1 ⊢
  obtain ⟨v1, hx2, hF3⟩ := bind_some' hF
  simp only [x78, run_seq, run_reg, run_mv, run_ops_nil, x78_1, zf0, zf1, run_call, B0, reduceIte, reduceEqDiff]
  refine call0 rfl (spec_pick_x hW pb0 c_0 n_1 v1 hx2 hS) ?_
  rintro _ h4 ⟨rfl, hS5⟩
  simp only [run_bin, put1_some, xeql, run_mv, run_ops_nil, run_ret, B0, reduceIte, reduceEqDiff]
  have he := some_inj hF3
  subst he
  simp only [end_ret1, B0, reduceIte, reduceEqDiff]
  exact ⟨by first | trivial | rfl, hS5⟩
theorem spec_ends_x {W : Nat → Bool} {h : Heap} {lo : Nat → Prop} {S0 : List Obj} (hW : ∀ b,
    lo b → W b = true) (k : Nat) (pb0 : Nat) (c_0 : L1Cur) (r : (List Int) × L1Cur) (hF : spec_ends k c_0 = some r) (hS : Sep h lo ([Blk1 pb0 [lst cU8 c_0.code, .int .i64 c_0.at_,
    .int .u64 c_0.seed] 80] ++ (S0))) : Ret E W 49 [.ptr pb0 0] h (fun v h' => ∃ rv0 rc0, v = rv0 ∧ SlF cI 1 3 rv0 r.1 rc0 ∧ Sep h' lo (rc0 ++ ([Blk1 pb0 [lst cU8 r.2.code,
    .int .i64 r.2.at_, .int .u64 r.2.seed] 80] ++ (S0)))) := by
  refine Ret.of (fn := x49) rfl (Run.of ?_)
  unfold spec_ends at hF
  have zf0 : argFr [.ptr pb0 0] 0 = .ptr pb0 0 := rfl
  generalize argFr [.ptr pb0 0] = fr0 at zf0 ⊢
  obtain ⟨v1, hx2, hF3⟩ := bind_some' hF
  simp only [x49, run_seq, run_reg, run_mv, run_ops_nil, x49_10, x49_9, zf0, run_call, B0, reduceIte, reduceEqDiff]
  refine call0 rfl (spec_pick_x hW pb0 c_0 6 v1 hx2 hS) ?_
  rintro _ h4 ⟨rfl, hS5⟩
  simp only [run_bin, put1_some, xadd, run_mv, run_ops_nil, B0, reduceIte, reduceEqDiff]
  obtain ⟨oc22, hX24, hk25⟩ := jn_some hF3
  simp only [x49_5]
  refine loopF_j (σ := (List Int) × Int × L1Cur) (fun s72 => spec_ends_b1 s72.1 s72.2.1 s72.2.2) (fun s fr' h' => ∃ v15 c16,
      fr' 0 = .ptr pb0 0 ∧ fr' 3 = v15 ∧ fr' 4 = .int .i64 s.2.1 ∧ SlF cI 1 3 v15 s.1 c16 ∧ Sep h' lo ([Blk1 pb0 [lst cU8 s.2.2.code, .int .i64 s.2.2.at_,
      .int .u64 s.2.2.seed] 80] ++ (c16 ++ (S0)))) hX24 ⟨.nil, [], zf0, rfl, rfl, SlF.nil, (hS5 : Sep _ lo ([Blk1 pb0 [lst cU8 v1.2.code, .int .i64 v1.2.at_,
      .int .u64 v1.2.seed] 80] ++ (S0)))⟩ (fun _ _ _ h => h) ?_ ?_
  · rintro ⟨s13, s18, s19⟩ fr34 h35 ⟨v15, c16, f37, f38, f39, hv17, hS36⟩ oc23 hF26 hr27 Q28 hN29 hK30 hR31 hE32
    dsimp only at *
    unfold spec_ends_b1 at hF26
    simp only [x49_3, run_seq, run_reg, f39, run_mv, run_bin, put1_some, xgtr, run_ops_nil, run_cond, B0, reduceIte, reduceEqDiff]
    refine cond_split (t := (decide ((0 : Int) < s18))) (fun hc41 => ?_) (fun hc41 => ?_)
    · rw [iteT hc41] at hF26
      simp only [run_skip, x49_2, run_seq, run_block, x49_1, run_reg, f38, run_mv, f37, run_buildS, evp, B0, reduceIte, reduceEqDiff]
      refine put2_buildSF (n := 1) (f := cI) [0, 3, 5, 100] hS36 rfl rfl (fun v42 c43 h44 hv45 hS46 => ?_)
      obtain ⟨v48, hx49, hF50⟩ := bind_some' hF26
      simp only [run_call, B0, reduceIte, reduceEqDiff]
      refine call0 rfl (spec_among_x hW pb0 s19 v42 c43 [0, 3, 5, 100] hv45 v48 hx49 (Sep.m1 hS46)) ?_
      rintro _ h53 ⟨c51, rfl, hv52, hS54⟩
      simp only [run_buildS, evp, B0, reduceIte, reduceEqDiff]
      refine put2_buildSF (n := 1) (f := cI) [v48.1] hS54 rfl rfl (fun v55 c56 h57 hv58 hS59 => ?_)
      simp only [run_app, B0, reduceIte, reduceEqDiff]
      obtain ⟨l61, hx62, hF63⟩ := bind_some' hF50
      refine put2_appF (f := cI) hv17 (Sep.m3 hS59) hW (fun _ => rfl) (fun _ => rfl) (SlF.first hv58 hS59 (fun _ => rfl)) hx62 (fun v64 c65 h66 hv67 hS68 => ?_)
      simp only [run_mv, run_ops_nil, run_blk, run_reg, f39, run_bin, put1_some, xsub, run_nil, B0, reduceIte, reduceEqDiff]
      have e70 := some_inj hF63
      exact hN29 _ _ _ e70.symm ⟨v64, c65, f37, rfl, rfl, hv67, (Sep.m1 (Sep.dc (Sep.m2 (Sep.dc (Sep.m1 hS68)))))⟩
    rw [iteF hc41] at hF26
    simp only [run_exit, out_code, out_nil, B0, reduceIte, reduceEqDiff]
    have e71 := some_inj hF26
    exact hK30 _ _ _ e71.symm ⟨v15, c16, f37, f38, f39, hv17, (Sep.m1 (Sep.m1 hS36))⟩
  rintro ⟨s73, s78, s79⟩ fr80 h81 rfl ⟨v75, c76, f83, f84, f85, hv77, hS82⟩
  dsimp only [jnO] at hk25
  dsimp only at *
  unfold spec_ends_j1 at hk25
  obtain ⟨v86, hx87, hF88⟩ := bind_some' hk25
  simp only [x49_8, run_seq, run_reg, f83, run_mv, run_call, B0, reduceIte, reduceEqDiff]
  refine call0 rfl (spec_one_x hW pb0 s79 30 v86 hx87 hS82) ?_
  rintro _ h89 ⟨rfl, hS90⟩
  simp only [run_ops_nil, x49_7, run_cond, B0, reduceIte, reduceEqDiff]
  refine cond_split (t := v86.1) (fun hc91 => ?_) (fun hc91 => ?_)
  · rw [iteT hc91] at hF88
    simp only [x49_6, run_reg, f84, run_mv, f83, run_buildS, evp, B0, reduceIte, reduceEqDiff]
    refine put2_buildSF (n := 1) (f := cI) [(-1), 101] hS90 rfl rfl (fun v92 c93 h94 hv95 hS96 => ?_)
    obtain ⟨v98, hx99, hF100⟩ := bind_some' hF88
    simp only [run_call, B0, reduceIte, reduceEqDiff]
    refine call0 rfl (spec_among_x hW pb0 v86.2 v92 c93 [(-1), 101] hv95 v98 hx99 (Sep.m1 hS96)) ?_
    rintro _ h103 ⟨c101, rfl, hv102, hS104⟩
    obtain ⟨x105, hx106, hF107⟩ := bind_some' hF100
    simp only [run_ia, B0, reduceIte, reduceEqDiff]
    obtain ⟨b108, hb109⟩ := SlF.isrow hv77 (geti_ne hx106)
    refine put1_eq (SlF.ia hv77 hb109 hx106) ?_
    simp only [run_st, B0, reduceIte, reduceEqDiff]
    refine put2_stF (f := cI) (x' := v98.1) (o := 0) (i := (0 : Int)) (n := 1) hv77 (Sep.m2 hS104) hW hb109 hx106 (fun _ => rfl) rfl rfl (Nat.le_of_ble_eq_true rfl) rfl
        (fun c112 h110 hv113 hS111 => ?_)
    have hx114 := geti_set (x' := v98.1) hx106
    simp only [run_ops_nil, run_seq, run_reg, f84, run_mv, run_ret, B0, reduceIte, reduceEqDiff]
    have he := some_inj hF107
    subst he
    simp only [end_ret1, B0, reduceIte, reduceEqDiff]
    exact ⟨v75, c112, by first | trivial | rfl, hv113, (Sep.m1 (Sep.m1 (Sep.dc (Sep.m2 hS111))))⟩
  rw [iteF hc91] at hF88
  simp only [run_skip, run_seq, run_reg, f84, run_mv, run_ops_nil, run_ret, B0, reduceIte, reduceEqDiff]
  have he := some_inj hF88
  subst he
  simp only [end_ret1, B0, reduceIte, reduceEqDiff]
  exact ⟨v75, c76, by first | trivial | rfl, hv77, (Sep.m1 hS90)⟩
theorem spec_groupSteps_x {W : Nat → Bool} {h : Heap} {lo : Nat → Prop} {S0 : List Obj} (hW : ∀ b,
    lo b → W b = true) (k : Nat) (pb0 : Nat) (c_0 : L1Cur) (readers_1 : Int) (parts_2 : Int) (r : (List GroupStep) × L1Cur)
    (hF : spec_groupSteps k c_0 readers_1 parts_2 = some r) (hS : Sep h lo ([Blk1 pb0 [lst cU8 c_0.code, .int .i64 c_0.at_,
    .int .u64 c_0.seed] 80] ++ (S0))) : Ret E W 50 [.ptr pb0 0, .int .i64 readers_1, .int .i64 parts_2] h (fun v h' => ∃ rv0 rc0,
    v = rv0 ∧ SlF GroupStep.cells 4 64 rv0 r.1 rc0 ∧ Sep h' lo (rc0 ++ ([Blk1 pb0 [lst cU8 r.2.code, .int .i64 r.2.at_, .int .u64 r.2.seed] 80] ++ (S0)))) := by
  refine Ret.of (fn := x50) rfl (Run.of ?_)
  unfold spec_groupSteps at hF
  have zf0 : argFr [.ptr pb0 0, .int .i64 readers_1, .int .i64 parts_2] 0 = .ptr pb0 0 := rfl
  have zf1 : argFr [.ptr pb0 0, .int .i64 readers_1, .int .i64 parts_2] 1 = .int .i64 readers_1 := rfl
  have zf2 : argFr [.ptr pb0 0, .int .i64 readers_1, .int .i64 parts_2] 2 = .int .i64 parts_2 := rfl
  generalize argFr [.ptr pb0 0, .int .i64 readers_1, .int .i64 parts_2] = fr0 at zf0 zf1 zf2 ⊢
  obtain ⟨v1, hx2, hF3⟩ := bind_some' hF
  simp only [x50, run_seq, run_reg, run_mv, run_ops_nil, x50_20, x50_19, zf0, run_call, B0, reduceIte, reduceEqDiff]
  refine call0 rfl (spec_pick_x hW pb0 c_0 40 v1 hx2 hS) ?_
  rintro _ h4 ⟨rfl, hS5⟩
  obtain ⟨v6, hx7, hF8⟩ := bind_some' hF3
  simp only [run_mv, run_ops_nil, x50_18, run_seq, run_reg, zf0, run_call, B0, reduceIte, reduceEqDiff]
  refine call0 rfl (spec_one_x hW pb0 v1.2 8 v6 hx7 hS5) ?_
  rintro _ h9 ⟨rfl, hS10⟩
  simp only [run_ops_nil, x50_2, run_cond, B0, reduceIte, reduceEqDiff]
  obtain ⟨sv16, hX14, hk15⟩ := bind_some' hF8
  refine cond_j (t := v6.1) (fun fr' h' => fr' 0 = .ptr pb0 0 ∧ fr' 1 = .int .i64 readers_1 ∧ fr' 2 = .int .i64 parts_2 ∧ fr' 7 = .nil ∧ fr' 8 = .int .i64 sv16.1 ∧ Sep h' lo
      ([Blk1 pb0 [lst cU8 sv16.2.code, .int .i64 sv16.2.at_, .int .u64 sv16.2.seed] 80] ++ (S0))) (fun Q17 hN18 hR19 hE20 => ⟨fun hc21 => ?_, fun hc21 => ?_⟩) ?_
  · rw [iteT hc21] at hX14
    obtain ⟨v22, hx23, hF24⟩ := bind_some' hX14
    simp only [x50_1, run_reg, zf0, run_mv, run_call, B0, reduceIte, reduceEqDiff]
    refine call0 rfl (spec_pick_x hW pb0 v6.2 12 v22 hx23 hS10) ?_
    rintro _ h25 ⟨rfl, hS26⟩
    simp only [run_bin, put1_some, xadd, run_mv, run_ops_nil, run_nil, B0, reduceIte, reduceEqDiff]
    have e27 := some_inj hF24
    subst e27
    exact hN18 _ _ ⟨zf0, zf1, zf2, rfl, rfl, hS26⟩
  · rw [iteF hc21] at hX14
    simp only [run_skip, run_nil, B0, reduceIte, reduceEqDiff]
    have e28 := some_inj hX14
    subst e28
    exact hN18 _ _ ⟨zf0, zf1, zf2, rfl, rfl, hS10⟩
  rintro fr29 h30 ⟨f32, f33, f34, f35, f36, hS31⟩
  obtain ⟨s11, s12⟩ := sv16
  dsimp only at *
  unfold spec_groupSteps_j1 at hk15
  simp only [x50_17, run_seq, B0, reduceIte, reduceEqDiff]
  obtain ⟨oc53, hX55, hk56⟩ := jn_some hk15
  simp only [x50_16]
  refine loopF_j (σ := (List GroupStep) × Int × L1Cur) (fun s226 => spec_groupSteps_b1 readers_1 parts_2 s226.1 s226.2.1 s226.2.2) (fun s fr' h' => ∃ v46 c47,
      fr' 0 = .ptr pb0 0 ∧ fr' 1 = .int .i64 readers_1 ∧ fr' 2 = .int .i64 parts_2 ∧ fr' 7 = v46 ∧ fr' 8 = .int .i64 s.2.1 ∧ SlF GroupStep.cells 4 64 v46 s.1 c47 ∧ Sep h' lo
      ([Blk1 pb0 [lst cU8 s.2.2.code, .int .i64 s.2.2.at_, .int .u64 s.2.2.seed] 80] ++ (c47 ++ (S0)))) hX55 ⟨.nil, [], f32, f33, f34, f35, f36, SlF.nil,
      (hS31 : Sep _ lo ([Blk1 pb0 [lst cU8 s12.code, .int .i64 s12.at_, .int .u64 s12.seed] 80] ++ (S0)))⟩ (fun _ _ _ h => h) ?_ ?_
  · rintro ⟨s44, s49, s50⟩ fr65 h66 ⟨v46, c47, f68, f69, f70, f71, f72, hv48, hS67⟩ oc54 hF57 hr58 Q59 hN60 hK61 hR62 hE63
    dsimp only at *
    unfold spec_groupSteps_b1 at hF57
    simp only [x50_15, run_seq, run_reg, f72, run_mv, run_bin, put1_some, xgtr, run_ops_nil, run_cond, B0, reduceIte, reduceEqDiff]
    refine cond_split (t := (decide ((0 : Int) < s49))) (fun hc74 => ?_) (fun hc74 => ?_)
    · rw [iteT hc74] at hF57
      simp only [run_skip, x50_14, run_seq, run_block, x50_13, run_reg, f68, run_mv, run_buildS, evp, B0, reduceIte, reduceEqDiff]
      refine put2_buildSF (n := 1) (f := cI) [1, 1, 2, 3, 3, 3, 4, 4, 4, 5, 5, 5] hS67 rfl rfl (fun v75 c76 h77 hv78 hS79 => ?_)
      obtain ⟨v81, hx82, hF83⟩ := bind_some' hF57
      simp only [run_call, B0, reduceIte, reduceEqDiff]
      refine call0 rfl (spec_among_x hW pb0 s50 v75 c76 [1, 1, 2, 3, 3, 3, 4, 4, 4, 5, 5, 5] hv78 v81 hx82 (Sep.m1 hS79)) ?_
      rintro _ h86 ⟨c84, rfl, hv85, hS87⟩
      obtain ⟨v88, hx89, hF90⟩ := bind_some' hF83
      simp only [f68, run_mv, f69, run_call, B0, reduceIte, reduceEqDiff]
      refine call0 rfl (spec_pick_x hW pb0 v81.2.1 readers_1 v88 hx89 hS87) ?_
      rintro _ h91 ⟨rfl, hS92⟩
      simp only [run_build, evp, B0, reduceIte, reduceEqDiff]
      refine put1_eq (v := .agg [.int .i64 v81.1, .int .i64 v88.1, .int .i64 0, .int .i64 0]) rfl ?_
      simp only [run_new, B0, reduceIte, reduceEqDiff]
      refine put2_newC hS92 (fun b93 h94 hS95 => ?_)
      simp only [run_st, B0, reduceIte, reduceEqDiff]
      refine put2_stCx (us := [.int .i64 v81.1, .int .i64 v88.1, .int .i64 0, .int .i64 0]) rfl (cs' := [.int .i64 v81.1, .int .i64 v88.1, .int .i64 0,
          .int .i64 0]) hS95 hW rfl rfl (Nat.le_of_ble_eq_true rfl) rfl (fun h97 hS98 => ?_)
      simp only [run_ops_nil, x50_12, run_seq, run_reg, run_fa, put1_some, Nat.reduceAdd, Nat.zero_add, Nat.add_zero, xfa_ptr, run_ld, B0, reduceIte, reduceEqDiff]
      refine put1_eq (v := .int .i64 v81.1) ((xld_b (Sep.bk _ _ _ hS98)).trans rfl) ?_
      simp only [run_bin, put1_some, xgeq, run_ops_nil, x50_4, run_cond, B0, reduceIte, reduceEqDiff]
      obtain ⟨sv104, hX102, hk103⟩ := bind_some' hF90
      refine cond_j (t := (decide ((4 : Int) ≤ v81.1)))
          (fun fr' h' => fr' 0 = .ptr pb0 0 ∧ fr' 1 = .int .i64 readers_1 ∧ fr' 2 = .int .i64 parts_2 ∧ fr' 7 = v46 ∧ fr' 8 = .int .i64 s49 ∧ fr' 9 = .ptr b93 0 ∧ Sep h' lo
          ([Blk1 pb0 [lst cU8 sv104.1.code, .int .i64 sv104.1.at_, .int .u64 sv104.1.seed] 80] ++ (c47 ++ ([Blk1 b93 [.int .i64 sv104.2.Kind, .int .i64 sv104.2.K,
          .int .i64 sv104.2.Part, .int .i64 sv104.2.N] 64] ++ (S0))))) (fun Q105 hN106 hR107 hE108 => ⟨fun hc109 => ?_, fun hc109 => ?_⟩) ?_
      · rw [iteT hc109] at hX102
        obtain ⟨v110, hx111, hF112⟩ := bind_some' hX102
        simp only [x50_3, run_reg, f68, run_mv, f70, run_call, B0, reduceIte, reduceEqDiff]
        refine call0 rfl (spec_pick_x hW pb0 v88.2 parts_2 v110 hx111 (Sep.m1 hS98)) ?_
        rintro _ h113 ⟨rfl, hS114⟩
        simp only [run_fa, put1_some, Nat.reduceAdd, Nat.zero_add, Nat.add_zero, xfa_ptr, run_st, B0, reduceIte, reduceEqDiff]
        refine put2_stCx (us := [.int .i64 v110.1]) rfl (cs' := [.int .i64 v81.1, .int .i64 v88.1, .int .i64 v110.1,
            .int .i64 0]) (Sep.m1 hS114) hW rfl rfl (Nat.le_of_ble_eq_true rfl) rfl (fun h115 hS116 => ?_)
        simp only [run_ops_nil, run_nil, B0, reduceIte, reduceEqDiff]
        have e117 := some_inj hF112
        subst e117
        exact hN106 _ _ ⟨f68, f69, f70, f71, f72, rfl, (Sep.m2 (Sep.m2 (Sep.dc (Sep.m2 hS116))))⟩
      · rw [iteF hc109] at hX102
        simp only [run_skip, run_nil, B0, reduceIte, reduceEqDiff]
        have e118 := some_inj hX102
        subst e118
        exact hN106 _ _ ⟨f68, f69, f70, f71, f72, rfl, (Sep.m2 (Sep.m2 (Sep.dc (Sep.m2 hS98))))⟩
      rintro fr119 h120 ⟨f122, f123, f124, f125, f126, f127, hS121⟩
      obtain ⟨s99, s100⟩ := sv104
      dsimp only at *
      unfold spec_groupSteps_j2 at hk103
      simp only [x50_11, run_seq, run_reg, f127, run_fa, put1_some, Nat.reduceAdd, Nat.zero_add, Nat.add_zero, xfa_ptr, run_ld, B0, reduceIte, reduceEqDiff]
      refine put1_eq (v := .int .i64 s100.Kind) ((xld_b (Sep.bk _ _ _ (Sep.m2 hS121))).trans rfl) ?_
      simp only [run_bin, put1_some, xeql, run_ops_nil, x50_6, run_cond, B0, reduceIte, reduceEqDiff]
      obtain ⟨sv133, hX131, hk132⟩ := bind_some' hk103
      refine cond_j (t := (decide (s100.Kind = 4)))
          (fun fr' h' => fr' 0 = .ptr pb0 0 ∧ fr' 1 = .int .i64 readers_1 ∧ fr' 2 = .int .i64 parts_2 ∧ fr' 7 = v46 ∧ fr' 8 = .int .i64 s49 ∧ fr' 9 = .ptr b93 0 ∧ Sep h' lo
          ([Blk1 pb0 [lst cU8 sv133.1.code, .int .i64 sv133.1.at_, .int .u64 sv133.1.seed] 80] ++ (c47 ++ ([Blk1 b93 [.int .i64 sv133.2.Kind, .int .i64 sv133.2.K,
          .int .i64 sv133.2.Part, .int .i64 sv133.2.N] 64] ++ (S0))))) (fun Q134 hN135 hR136 hE137 => ⟨fun hc138 => ?_, fun hc138 => ?_⟩) ?_
      · rw [iteT hc138] at hX131
        obtain ⟨v139, hx140, hF141⟩ := bind_some' hX131
        simp only [x50_5, run_reg, f122, run_mv, run_call, B0, reduceIte, reduceEqDiff]
        refine call0 rfl (spec_pick_x hW pb0 s99 4 v139 hx140 hS121) ?_
        rintro _ h142 ⟨rfl, hS143⟩
        simp only [run_bin, put1_some, xadd, f127, run_fa, Nat.reduceAdd, Nat.zero_add, Nat.add_zero, xfa_ptr, run_st, B0, reduceIte, reduceEqDiff]
        refine put2_stCx (us := [.int .i64 (IntKind.wrap .i64 ((1 : Int) + v139.1))]) rfl (cs' := [.int .i64 s100.Kind, .int .i64 s100.K, .int .i64 s100.Part,
            .int .i64 (IntKind.wrap .i64 ((1 : Int) + v139.1))]) (Sep.m2 hS143) hW rfl rfl (Nat.le_of_ble_eq_true rfl) rfl (fun h144 hS145 => ?_)
        simp only [run_ops_nil, run_nil, B0, reduceIte, reduceEqDiff]
        have e146 := some_inj hF141
        subst e146
        exact hN135 _ _ ⟨f122, f123, f124, f125, f126, f127, (Sep.m2 (Sep.m2 hS145))⟩
      · rw [iteF hc138] at hX131
        simp only [run_skip, run_nil, B0, reduceIte, reduceEqDiff]
        have e147 := some_inj hX131
        subst e147
        exact hN135 _ _ ⟨f122, f123, f124, f125, f126, f127, (Sep.m2 (Sep.m2 (Sep.m2 hS121)))⟩
      rintro fr148 h149 ⟨f151, f152, f153, f154, f155, f156, hS150⟩
      obtain ⟨s128, s129⟩ := sv133
      dsimp only at *
      unfold spec_groupSteps_j3 at hk132
      obtain ⟨v157, hx158, hF159⟩ := bind_some' hk132
      simp only [x50_10, run_seq, run_reg, f151, run_mv, run_call, B0, reduceIte, reduceEqDiff]
      refine call0 rfl (spec_one_x hW pb0 s128 60 v157 hx158 hS150) ?_
      rintro _ h160 ⟨rfl, hS161⟩
      simp only [run_ops_nil, x50_8, run_cond, B0, reduceIte, reduceEqDiff]
      obtain ⟨sv167, hX165, hk166⟩ := bind_some' hF159
      refine cond_j (t := v157.1) (fun fr' h' => fr' 0 = .ptr pb0 0 ∧ fr' 1 = .int .i64 readers_1 ∧ fr' 2 = .int .i64 parts_2 ∧ fr' 7 = v46 ∧ fr' 8 = .int .i64 s49 ∧ fr' 9 = .ptr b93 0 ∧ Sep h' lo
          ([Blk1 pb0 [lst cU8 sv167.1.code, .int .i64 sv167.1.at_, .int .u64 sv167.1.seed] 80] ++ (c47 ++ ([Blk1 b93 [.int .i64 sv167.2.Kind, .int .i64 sv167.2.K,
          .int .i64 sv167.2.Part, .int .i64 sv167.2.N] 64] ++ (S0))))) (fun Q168 hN169 hR170 hE171 => ⟨fun hc172 => ?_, fun hc172 => ?_⟩) ?_
      · rw [iteT hc172] at hX165
        obtain ⟨v173, hx174, hF175⟩ := bind_some' hX165
        simp only [x50_7, run_reg, f151, run_mv, run_call, B0, reduceIte, reduceEqDiff]
        refine call0 rfl (spec_pick_x hW pb0 v157.2 7 v173 hx174 hS161) ?_
        rintro _ h176 ⟨rfl, hS177⟩
        obtain ⟨v178, hx179, hF180⟩ := bind_some' hF175
        simp only [f151, run_mv, run_call, B0, reduceIte, reduceEqDiff]
        refine call0 rfl (spec_pick_x hW pb0 v173.2 7 v178 hx179 hS177) ?_
        rintro _ h181 ⟨rfl, hS182⟩
        obtain ⟨v183, hx184, hF185⟩ := bind_some' hF180
        simp only [run_bin, put1_some, xsub, f151, run_mv, run_call, B0, reduceIte, reduceEqDiff]
        refine call0 rfl (spec_pick_x hW pb0 v178.2 8 v183 hx184 hS182) ?_
        rintro _ h186 ⟨rfl, hS187⟩
        obtain ⟨v188, hx189, hF190⟩ := bind_some' hF185
        simp only [run_bin, put1_some, xsub, f151, run_mv, run_call, B0, reduceIte, reduceEqDiff]
        refine call0 rfl (spec_pick_x hW pb0 v183.2 3 v188 hx189 hS187) ?_
        rintro _ h191 ⟨rfl, hS192⟩
        simp only [run_build, evp, B0, reduceIte, reduceEqDiff]
        refine put1_eq (v := .agg [.int .i64 v173.1, .int .i64 (IntKind.wrap .i64 (v178.1 - 1)), .int .i64 (IntKind.wrap .i64 (v183.1 - 1)), .int .i64 v188.1]) rfl ?_
        simp only [f156, run_st, B0, reduceIte, reduceEqDiff]
        refine put2_stCx (us := [.int .i64 v173.1, .int .i64 (IntKind.wrap .i64 (v178.1 - 1)), .int .i64 (IntKind.wrap .i64 (v183.1 - 1)),
            .int .i64 v188.1]) rfl (cs' := [.int .i64 v173.1, .int .i64 (IntKind.wrap .i64 (v178.1 - 1)), .int .i64 (IntKind.wrap .i64 (v183.1 - 1)),
            .int .i64 v188.1]) (Sep.m2 hS192) hW rfl rfl (Nat.le_of_ble_eq_true rfl) rfl (fun h193 hS194 => ?_)
        simp only [run_ops_nil, run_nil, B0, reduceIte, reduceEqDiff]
        have e195 := some_inj hF190
        subst e195
        exact hN169 _ _ ⟨f151, f152, f153, f154, f155, f156, (Sep.m2 (Sep.m2 hS194))⟩
      · rw [iteF hc172] at hX165
        simp only [run_skip, run_nil, B0, reduceIte, reduceEqDiff]
        have e196 := some_inj hX165
        subst e196
        exact hN169 _ _ ⟨f151, f152, f153, f154, f155, f156, (Sep.m2 (Sep.m2 (Sep.m2 hS161)))⟩
      rintro fr197 h198 ⟨f200, f201, f202, f203, f204, f205, hS199⟩
      obtain ⟨s162, s163⟩ := sv167
      dsimp only at *
      unfold spec_groupSteps_j4 at hk166
      simp only [x50_9, run_reg, f203, run_mv, f205, run_ld, B0, reduceIte, reduceEqDiff]
      refine put1_eq (v := .agg [.int .i64 s163.Kind, .int .i64 s163.K, .int .i64 s163.Part, .int .i64 s163.N]) ((xld_bs (Sep.bk _ _ _ (Sep.m2 hS199))).trans rfl) ?_
      simp only [run_buildS, evp, B0, reduceIte, reduceEqDiff]
      refine put2_buildSF (n := 4) (f := GroupStep.cells) [s163] hS199 rfl rfl (fun v206 c207 h208 hv209 hS210 => ?_)
      simp only [run_app, B0, reduceIte, reduceEqDiff]
      obtain ⟨l212, hx213, hF214⟩ := bind_some' hk166
      refine put2_appF (f := GroupStep.cells) hv48 (Sep.m2 hS210) hW (fun _ => rfl) (fun _ => rfl) (SlF.first hv209 hS210 (fun _ => rfl)) hx213
          (fun v215 c216 h217 hv218 hS219 => ?_)
      simp only [run_mv, run_ops_nil, run_blk, run_reg, f204, run_bin, put1_some, xsub, run_nil, B0, reduceIte, reduceEqDiff]
      have e221 := some_inj hF214
      exact hN60 _ _ _ e221.symm ⟨v215, c216, f200, f201, f202, rfl, rfl, hv218, (Sep.m1 (Sep.dc (Sep.m2 (Sep.dc (Sep.m1 hS219)))))⟩
    rw [iteF hc74] at hF57
    simp only [run_exit, out_code, out_nil, B0, reduceIte, reduceEqDiff]
    have e225 := some_inj hF57
    exact hK61 _ _ _ e225.symm ⟨v46, c47, f68, f69, f70, f71, f72, hv48, (Sep.m1 (Sep.m1 hS67))⟩
  rintro ⟨s227, s232, s233⟩ fr234 h235 rfl ⟨v229, c230, f237, f238, f239, f240, f241, hv231, hS236⟩
  dsimp only [jnO] at hk56
  dsimp only at *
  unfold spec_groupSteps_j5 at hk56
  simp only [run_seq, run_reg, f240, run_mv, run_ops_nil, run_ret, B0, reduceIte, reduceEqDiff]
  have he := some_inj hk56
  subst he
  simp only [end_ret1, B0, reduceIte, reduceEqDiff]
  exact ⟨v229, c230, by first | trivial | rfl, hv231, (Sep.m1 hS236)⟩
theorem spec_DrawPlayReaders_x {W : Nat → Bool} {h : Heap} (hW : ∀ b,
    (geL h.length) b → W b = true) (k : Nat) (code_0 : List Int) (r : Int × (List Int) × (List GroupStep))
    (hF : spec_DrawPlayReaders k code_0 = some r) : Ret E W 7 [lst cU8 code_0] h (fun v h' => ∃ rv1 rc1 rv2 rc2, v = .tup [.int .i64 r.1, rv1,
    rv2] ∧ SlF cI 1 3 rv1 r.2.1 rc1 ∧ SlF GroupStep.cells 4 64 rv2 r.2.2 rc2 ∧ Sep h' (geL h.length) (rc1 ++ (rc2 ++ ([])))) := by
  refine Ret.of (fn := x7) rfl (Run.of ?_)
  unfold spec_DrawPlayReaders at hF
  have zf0 : argFr [lst cU8 code_0] 0 = lst cU8 code_0 := rfl
  generalize argFr [lst cU8 code_0] = fr0 at zf0 ⊢
  have hS : Sep h (geL h.length) [] := Sep.nil h
  simp only [x7, run_seq, run_reg, run_mv, run_ops_nil, x7_4, zf0, run_build, evp, B0, reduceIte, reduceEqDiff]
  refine put1_eq (v := .agg [lst cU8 code_0, .int .i64 0, .int .u64 0]) rfl ?_
  simp only [run_box, B0, reduceIte, reduceEqDiff]
  refine put2_boxC (cs := [lst cU8 code_0, .int .i64 0, .int .u64 0]) hS rfl rfl rfl (fun b1 h2 hS3 => ?_)
  obtain ⟨v5, hx6, hF7⟩ := bind_some' hF
  simp only [run_mv, run_ops_nil, x7_3, run_seq, run_reg, run_call, B0, reduceIte, reduceEqDiff]
  refine call0 rfl (spec_pick_x hW b1 (L1Cur.mk code_0 0 0) 5 v5 hx6 hS3) ?_
  rintro _ h8 ⟨rfl, hS9⟩
  obtain ⟨v10, hx11, hF12⟩ := bind_some' hF7
  simp only [run_bin, put1_some, xadd, run_mv, run_ops_nil, x7_2, run_seq, run_reg, run_call, B0, reduceIte, reduceEqDiff]
  refine call0 rfl (spec_ends_x hW k b1 v5.2 v10 hx11 hS9) ?_
  rintro v13 h17 ⟨_, c14, rfl, hv15, hS18⟩
  obtain ⟨v19, hx20, hF21⟩ := bind_some' hF12
  simp only [run_mv, run_ops_nil, x7_1, run_seq, run_reg, run_len, put1_some, SlF.plen hv15, run_call, B0, reduceIte, reduceEqDiff]
  refine call0 rfl (spec_groupSteps_x hW k b1 v10.2 (IntKind.wrap .i64 ((1 : Int) + v5.1)) (List.length v10.1 : Int) v19 hx20 (Sep.m1 hS18)) ?_
  rintro v22 h26 ⟨_, c23, rfl, hv24, hS27⟩
  simp only [run_mv, run_ops_nil, run_ret, B0, reduceIte, reduceEqDiff]
  have he := some_inj hF21
  subst he
  simp only [end_ret3, B0, reduceIte, reduceEqDiff]
  exact ⟨v13, c14, v22, c23, by first | trivial | rfl, hv15, hv24, (Sep.m1 (Sep.dc (Sep.m1 hS27)))⟩
theorem impl_in_x {W : Nat → Bool} {h : Heap} (hW : ∀ b,
    (geL h.length) b → W b = true) (n_0 : Int) (low_1 : Int) (high_2 : Int) (r : Bool) (hF : some (impl_in n_0 low_1 high_2) = some r) : Ret E W 71 [.int .i64 n_0,
    .int .i64 low_1, .int .i64 high_2] h (fun v h' => cut h.length h' E.sz false 9 v = some (.bool r)) := by
  refine Ret.of (fn := x71) rfl (Run.of ?_)
  unfold impl_in at hF
  have zf0 : argFr [.int .i64 n_0, .int .i64 low_1, .int .i64 high_2] 0 = .int .i64 n_0 := rfl
  have zf1 : argFr [.int .i64 n_0, .int .i64 low_1, .int .i64 high_2] 1 = .int .i64 low_1 := rfl
  have zf2 : argFr [.int .i64 n_0, .int .i64 low_1, .int .i64 high_2] 2 = .int .i64 high_2 := rfl
  generalize argFr [.int .i64 n_0, .int .i64 low_1, .int .i64 high_2] = fr0 at zf0 zf1 zf2 ⊢
  have hS : Sep h (geL h.length) [] := Sep.nil h
  simp only [x71, run_seq, run_reg, run_mv, run_ops_nil, x71_1, zf0, zf1, run_bin, put1_some, xgeq, B0, reduceIte, reduceEqDiff]
  refine ops_j 4 (fun fr' h' => Sep h' (geL h.length) ([]) ∧ fr' 14 = .bool ((decide (low_1 ≤ n_0)) && (decide (n_0 ≤ high_2)))) (fun Q1 hN2 => ?_) ?_
  · simp only [List.take_succ_cons, List.take_zero]
    simp only [run_guard (g := 10), B0, reduceIte, reduceEqDiff]
    refine guard_split (t := (decide (low_1 ≤ n_0))) (fun hg3 => ?_) (fun hg3 => ?_)
    · simp only [hg3, run_guard (g := 10), guard_true, zf0, run_mv, zf2, run_bin, put1_some, xleq, run_pick, xpick_t, run_ops_nil, run_nil, B0, reduceIte, reduceEqDiff]
      exact hN2 _ _ ⟨hS, by rw [andT hg3]; simp only [B0, reduceIte, reduceEqDiff]⟩
    · simp only [hg3, run_guard (g := 10), guard_off, run_pick, put1_some, xpick_f, run_ops_nil, run_nil, B0, reduceIte, reduceEqDiff]
      exact hN2 _ _ ⟨hS, by rw [andF hg3]; simp only [B0, reduceIte, reduceEqDiff]⟩
  rintro fr4 h6 ⟨hS7, f5⟩
  simp only [List.drop_succ_cons, List.drop_zero]
  simp only [f5, run_mv, run_ops_nil, run_ret, B0, reduceIte, reduceEqDiff]
  have he := some_inj hF
  subst he
  simp only [end_ret1, B0, reduceIte, reduceEqDiff]
  exact rfl
theorem slices_IndexFunc_int_x {W : Nat → Bool} {h : Heap} (hW : ∀ b,
    (geL h.length) b → W b = true) (s_0 : List Int) {g1 : Nat} {caps1 : List XV} (hm1 : E.mode g1 = 1) (f_1 : Int → Option Bool) (hf1 : ∀ (W : Nat → Bool) (h : Heap), (∀ b,
    h.length ≤ b → W b = true) → ∀ a0 r, f_1 a0 = some r → Ret E W g1 ([.int .i64 a0] ++ caps1) h (fun v h' => cut h.length h' E.sz false 9 v = some (.bool r))) (r : Int)
    (hF : slices_IndexFunc_int s_0 f_1 = some r) : Ret E W 89 [lst cI s_0, .fn g1 caps1] h (fun v h' => cut h.length h' E.sz false 9 v = some (.int .i64 r)) := by
  refine Ret.of (fn := x89) rfl (Run.of ?_)
  unfold slices_IndexFunc_int at hF
  have zf0 : argFr [lst cI s_0, .fn g1 caps1] 0 = lst cI s_0 := rfl
  have zf1 : argFr [lst cI s_0, .fn g1 caps1] 1 = .fn g1 caps1 := rfl
  generalize argFr [lst cI s_0, .fn g1 caps1] = fr0 at zf0 zf1 ⊢
  have hS : Sep h (geL h.length) [] := Sep.nil h
  simp only [x89, run_seq, run_reg, run_mv, run_ops_nil, x89_6, zf0, run_len, put1_some, xlen_lst, B0, reduceIte, reduceEqDiff]
  obtain ⟨oc3, hX5, hk6⟩ := jn_some hF
  simp only [x89_5]
  refine rangeL_j (σ := Unit) s_0 (fun i1 x2 _ => slices_IndexFunc_int_b1 f_1 i1 x2 ) (fun s fr' h' => fr' 0 = lst cI s_0 ∧ fr' 1 = .fn g1 caps1 ∧ Sep h' (geL h.length)
      ([])) hX5 ⟨zf0, zf1, hS⟩ (by simp only [B0, reduceIte, reduceEqDiff]) (by simp only [B0, reduceIte,
      reduceEqDiff]) (fun _ _ _ h => h) rfl rfl (fun _ _ _ _ h => h) (fun _ _ _ _ h => h) (fun _ _ _ _ h => h) (by decide) ?_ ?_
  · rintro i1 x2 _ fr15 h16 hx20 ⟨f18, f19, hS17⟩ f21 f22 oc4 hF7 hr8 Q9 hN10 hB14 hK11 hR12 hE13
    unfold slices_IndexFunc_int_b1 at hF7
    simp only [x89_3, run_seq, run_reg, f21, run_mv, run_ops_nil, x89_2, f19, f18, run_ia, B0, reduceIte, reduceEqDiff]
    refine put1_eq (v := .ref (cI x2) 0) (xia_lstN hx20 rfl) ?_
    simp only [run_ld, B0, reduceIte, reduceEqDiff]
    refine put1_eq (v := .int .i64 x2) rfl ?_
    obtain ⟨v23, hx24, hF25⟩ := bind_some' hF7
    simp only [run_call, B0, reduceIte, reduceEqDiff]
    refine call1 hm1 (mapM1 snap_int mapM0) (hf1 _ _ (fun b hb => decide_eq_true hb) x2 v23 hx24) ?_
    simp only [run_ops_nil, x89_1, run_cond, B0, reduceIte, reduceEqDiff]
    refine cond_split (t := v23) (fun hc26 => ?_) (fun hc26 => ?_)
    · rw [iteT hc26] at hF25
      simp only [run_seq, run_reg, run_mv, run_ops_nil, run_ret, B0, reduceIte, reduceEqDiff]
      have e27 := some_inj hF25
      subst e27
      have ho28 := hr8 _ rfl
      have hk29 := hk6
      rw [ho28] at hk29
      dsimp only [jnO] at hk29
      apply hR12
      have he := some_inj hk29
      subst he
      simp only [end_ret1, B0, reduceIte, reduceEqDiff]
      exact rfl
    rw [iteF hc26] at hF25
    simp only [run_skip, run_nil, B0, reduceIte, reduceEqDiff]
    have e30 := some_inj hF25
    exact hN10 _ _ _ e30.symm ⟨f18, f19, hS17⟩ (f21) (f22)
  rintro _ fr32 h33 rfl ⟨f35, f36, hS34⟩
  dsimp only [jnO] at hk6
  unfold slices_IndexFunc_int_j1 at hk6
  simp only [run_seq, run_reg, run_mv, run_ops_nil, run_ret, B0, reduceIte, reduceEqDiff]
  have he := some_inj hk6
  subst he
  simp only [end_ret1, B0, reduceIte, reduceEqDiff]
  exact rfl
theorem slices_ContainsFunc_int_x {W : Nat → Bool} {h : Heap} (hW : ∀ b,
    (geL h.length) b → W b = true) (s_0 : List Int) {g1 : Nat} {caps1 : List XV} (hm1 : E.mode g1 = 1) (f_1 : Int → Option Bool) (hf1 : ∀ (W : Nat → Bool) (h : Heap), (∀ b,
    h.length ≤ b → W b = true) → ∀ a0 r, f_1 a0 = some r → Ret E W g1 ([.int .i64 a0] ++ caps1) h (fun v h' => cut h.length h' E.sz false 9 v = some (.bool r))) (r : Bool)
    (hF : slices_ContainsFunc_int s_0 f_1 = some r) : Ret E W 79 [lst cI s_0, .fn g1 caps1] h (fun v h' => cut h.length h' E.sz false 9 v = some (.bool r)) := by
  refine Ret.of (fn := x79) rfl (Run.of ?_)
  unfold slices_ContainsFunc_int at hF
  have zf0 : argFr [lst cI s_0, .fn g1 caps1] 0 = lst cI s_0 := rfl
  have zf1 : argFr [lst cI s_0, .fn g1 caps1] 1 = .fn g1 caps1 := rfl
  generalize argFr [lst cI s_0, .fn g1 caps1] = fr0 at zf0 zf1 ⊢
  have hS : Sep h (geL h.length) [] := Sep.nil h
  obtain ⟨v1, hx2, hF3⟩ := bind_some' hF
  simp only [x79, run_seq, run_reg, run_mv, run_ops_nil, x79_1, zf0, zf1, run_call, B0, reduceIte, reduceEqDiff]
  refine call1 rfl (mapM1 snap_lst (mapM1 snap_fn mapM0)) (slices_IndexFunc_int_x (fun b hb => decide_eq_true hb) s_0 (g1 := g1) (caps1 := caps1) hm1 f_1 hf1 v1 hx2) ?_
  simp only [run_bin, put1_some, xgeq, run_mv, run_ops_nil, run_ret, B0, reduceIte, reduceEqDiff]
  have he := some_inj hF3
  subst he
  simp only [end_ret1, B0, reduceIte, reduceEqDiff]
  exact rfl
theorem impl_newReaders_1_x {W : Nat → Bool} {h : Heap} (hW : ∀ b,
    (geL h.length) b → W b = true) (e_0 : Int) (r : Bool) (hF : some (impl_newReaders_1 e_0) = some r) : Ret E W 80 [.int .i64 e_0] h
    (fun v h' => cut h.length h' E.sz false 9 v = some (.bool r)) := by
  refine Ret.of (fn := x80) rfl (Run.of ?_)
  unfold impl_newReaders_1 at hF
  have zf0 : argFr [.int .i64 e_0] 0 = .int .i64 e_0 := rfl
  generalize argFr [.int .i64 e_0] = fr0 at zf0 ⊢
  have hS : Sep h (geL h.length) [] := Sep.nil h
  simp only [x80, run_seq, run_reg, run_mv, run_ops_nil, x80_1, zf0, run_call, B0, reduceIte, reduceEqDiff]
  refine call1 rfl (mapM1 snap_int (mapM1 snap_int (mapM1 snap_int mapM0))) (impl_in_x (fun b hb => decide_eq_true hb) e_0 0 100 _ rfl) ?_
  simp only [run_un, put1_some, xnot, run_mv, run_ops_nil, run_ret, B0, reduceIte, reduceEqDiff]
  have he := some_inj hF
  subst he
  simp only [end_ret1, B0, reduceIte, reduceEqDiff]
  exact rfl
theorem impl_newReaders_x {W : Nat → Bool} {h : Heap} (hW : ∀ b,
    (geL h.length) b → W b = true) (readers_0 : Int) (ends_1 : List Int) (r : Readers_ × Bool) (hF : impl_newReaders readers_0 ends_1 = some r) : Ret E W 51 [.int .i64 readers_0,
    lst cI ends_1] h (fun v h' => ∃ rv0_1 rc0_1 rv0_2 rc0_2 rv0_3 rc0_3, v = .tup [.agg [.int .i64 r.1.Generation, rv0_1, rv0_2, rv0_3],
    .bool r.2] ∧ SlN Reader.R 4 37 rv0_1 r.1.Readers rc0_1 ∧ SlF cI 1 3 rv0_2 r.1.Committed rc0_2 ∧ SlF cI 1 3 rv0_3 r.1.Ends rc0_3 ∧ Sep h' (geL h.length) (rc0_1 ++ (rc0_2 ++
    (rc0_3 ++ ([]))))) := by
  refine Ret.of (fn := x51) rfl (Run.of ?_)
  unfold impl_newReaders at hF
  have zf0 : argFr [.int .i64 readers_0, lst cI ends_1] 0 = .int .i64 readers_0 := rfl
  have zf1 : argFr [.int .i64 readers_0, lst cI ends_1] 1 = lst cI ends_1 := rfl
  generalize argFr [.int .i64 readers_0, lst cI ends_1] = fr0 at zf0 zf1 ⊢
  have hS : Sep h (geL h.length) [] := Sep.nil h
  simp only [x51, run_seq, run_reg, run_new, B0, reduceIte, reduceEqDiff]
  refine put2_newC hS (fun b1 h2 hS3 => ?_)
  simp only [run_mv, run_ops_nil, x51_7, run_seq, run_reg, zf0, run_call, B0, reduceIte, reduceEqDiff]
  refine call1 rfl (mapM1 snap_int (mapM1 snap_int (mapM1 snap_int mapM0))) (impl_in_x (fun b hb => decide_eq_true hb) readers_0 1 5 _ rfl) ?_
  simp only [run_un, put1_some, xnot, run_mv, B0, reduceIte, reduceEqDiff]
  refine ops_j 5 (fun fr' h' => Sep h' (geL h.length) ([Blk1 b1 [.int .i64 0, .nil, .nil,
      .nil] 29] ++ ([])) ∧ fr' 15 = .bool ((!(impl_in readers_0 1 5)) || (!(impl_in
      (List.length ends_1 : Int) 1 6))) ∧ fr' 0 = .int .i64 readers_0 ∧ fr' 1 = lst cI ends_1 ∧ fr' 4 = .ptr b1 0) (fun Q5 hN6 => ?_) ?_
  · simp only [List.take_succ_cons, List.take_zero]
    simp only [run_guard (g := 10), B0, reduceIte, reduceEqDiff]
    refine guard_split (t := (!(impl_in readers_0 1 5))) (fun hg7 => ?_) (fun hg7 => ?_)
    · simp only [hg7, run_guard (g := 10), guard_off', run_pick, put1_some, xpick_t, run_ops_nil, run_nil, B0, reduceIte, reduceEqDiff]
      exact hN6 _ _ ⟨hS3, by rw [orT hg7]; simp only [B0, reduceIte, reduceEqDiff], zf0, zf1, rfl⟩
    · simp only [hg7, run_guard (g := 10), guard_false, zf1, run_mv, run_len, put1_some, xlen_lst, run_call, B0, reduceIte, reduceEqDiff]
      refine call1 rfl (mapM1 snap_int (mapM1 snap_int (mapM1 snap_int mapM0))) (impl_in_x (fun b hb => decide_eq_true hb) (List.length ends_1 : Int) 1 6 _ rfl) ?_
      simp only [hg7, run_guard (g := 10), guard_false, run_un, put1_some, xnot, run_pick, xpick_f, run_ops_nil, run_nil, B0, reduceIte, reduceEqDiff]
      exact hN6 _ _ ⟨hS3, by rw [orF hg7]; simp only [B0, reduceIte, reduceEqDiff], zf0, zf1, rfl⟩
  rintro fr8 h13 ⟨hS14, f9, f10, f11, f12⟩
  simp only [List.drop_succ_cons, List.drop_zero]
  simp only [f9, run_mv, B0, reduceIte, reduceEqDiff]
  obtain ⟨v18, hx19, hF20⟩ := bind_some' hF
  refine ops_j 3 (fun fr' h' => Sep h' (geL h.length) ([Blk1 b1 [.int .i64 0, .nil, .nil,
      .nil] 29] ++ ([])) ∧ fr' 19 = .bool v18 ∧ fr' 0 = .int .i64 readers_0 ∧ fr' 1 = lst cI ends_1 ∧ fr' 4 = .ptr b1 0) (fun Q15 hN16 => ?_) ?_
  · simp only [List.take_succ_cons, List.take_zero]
    simp only [run_guard (g := 16), B0, reduceIte, reduceEqDiff]
    refine guard_split (t := ((!(impl_in readers_0 1 5)) || (!(impl_in (List.length ends_1 : Int) 1 6)))) (fun hg17 => ?_) (fun hg17 => ?_)
    · rw [iteT hg17] at hx19
      simp only [hg17, run_guard (g := 16), guard_off', run_pick, put1_some, xpick_t, run_ops_nil, run_nil, B0, reduceIte, reduceEqDiff]
      have e21 := some_inj hx19
      exact hN16 _ _ ⟨hS14, by rw [← e21]; simp only [B0, reduceIte, reduceEqDiff], f10, f11, f12⟩
    · rw [iteF hg17] at hx19
      obtain ⟨v22, hx23, hF24⟩ := bind_some' hx19
      simp only [hg17, run_guard (g := 16), guard_false, f11, run_mv, run_call, B0, reduceIte, reduceEqDiff]
      refine call1 rfl (mapM1 snap_lst (mapM1 snap_fn mapM0)) (slices_ContainsFunc_int_x (fun b hb => decide_eq_true hb) ends_1 (g1 := 80) (caps1 := []) rfl (fun a0 => some
          (impl_newReaders_1 a0)) (fun W h hW a0 r hr => impl_newReaders_1_x hW a0 r hr) v22 hx23) ?_
      simp only [hg17, run_pick, put1_some, xpick_f, run_ops_nil, run_nil, B0, reduceIte, reduceEqDiff]
      have e25 := some_inj hF24
      exact hN16 _ _ ⟨hS14, by rw [← e25]; simp only [B0, reduceIte, reduceEqDiff], f10, f11, f12⟩
  rintro fr26 h31 ⟨hS32, f27, f28, f29, f30⟩
  simp only [List.drop_succ_cons, List.drop_zero]
  simp only [run_ops_nil, x51_1, f27, run_cond, B0, reduceIte, reduceEqDiff]
  refine cond_split (t := v18) (fun hc33 => ?_) (fun hc33 => ?_)
  · rw [iteT hc33] at hF20
    simp only [run_seq, run_reg, run_build, evp, B0, reduceIte, reduceEqDiff]
    refine put1_eq (v := .agg [.int .i64 0, .nil, .nil, .nil]) rfl ?_
    simp only [f30, run_st, B0, reduceIte, reduceEqDiff]
    refine put2_stCx (us := [.int .i64 0, .nil, .nil, .nil]) rfl (cs' := [.int .i64 0, .nil, .nil, .nil]) hS32 hW rfl rfl (Nat.le_of_ble_eq_true rfl) rfl (fun h34 hS35 => ?_)
    simp only [run_mv, run_ops_nil, run_ret, B0, reduceIte, reduceEqDiff]
    have he := some_inj hF20
    subst he
    refine end_ret_m (mapM1 (res_cell (bb := b1) (oo := 0) (v := .agg [.int .i64 0, .nil, .nil,
        .nil]) (f30) ((xld_bs (Sep.bk _ _ _ hS35)).trans rfl)) (mapM1 (res_t (v := .bool false) (rfl)) mapM0)) ?_
    exact ⟨.nil, [], .nil, [], .nil, [], by first | trivial | rfl, SlN.nil, SlF.nil, SlF.nil, ((Sep.dc (hS35)) : Sep _ (geL h.length) ([]))⟩
  rw [iteF hc33] at hF20
  obtain ⟨l36, hx37, hF38⟩ := bind_some' hF20
  simp only [run_skip, x51_6, run_seq, run_draw, f29, d1_mv, put1d_some, d1_len, xlen_lst, d1_mkS, B0, reduceIte, reduceEqDiff]
  refine put2d_mkSF (f := cI) (z := (0 : Int)) hS32 hx37 rfl (fun v39 c40 h41 hv42 hS43 => ?_)
  simp only [d4_buildS, evp, B0, reduceIte, reduceEqDiff]
  refine put2d_buildSF (n := 1) (f := cI) ([] : List Int) hS43 rfl rfl (fun v45 c46 h47 hv48 hS49 => ?_)
  simp only [d1_new, B0, reduceIte, reduceEqDiff]
  refine put2d_newC hS49 (fun b51 h52 hS53 => ?_)
  simp only [f29, d4_mv, put1d_some, d3_app, B0, reduceIte, reduceEqDiff]
  obtain ⟨l55, hx56, hF57⟩ := bind_some' hF38
  refine put2d_appF (f := cI) hv48 (Sep.m1 hS53) hW (fun _ => rfl) (fun _ => rfl) (firstOf_lst (fun _ => rfl)) hx56 (fun v58 c59 h60 hv61 hS62 => ?_)
  simp only [d4_build, evp, B0, reduceIte, reduceEqDiff]
  refine put1d_eq (v := .agg [.int .i64 0, .nil, v39, v58]) (pbuild_some (fill1 (us := [v39]) (vs := [.int .i64 0, .nil, v39,
      .nil]) (cells_one (SlF.one hv42)) rfl (Nat.le_of_ble_eq_true rfl) (all_c (SlF.one hv42) all_n) rfl (fill1 (us := [v58]) (vs := [.int .i64 0, .nil, v39,
      v58]) (cells_one (SlF.one hv61)) rfl (Nat.le_of_ble_eq_true rfl) (all_c (SlF.one hv61) all_n) rfl fill0))) ?_
  simp only [d3_st, B0, reduceIte, reduceEqDiff]
  refine put2d_stCx (us := [.int .i64 0, .nil, v39, v58]) rfl (cs' := [.int .i64 0, .nil, v39,
      v58]) (Sep.m1 hS62) hW rfl (all_c rfl (all_c rfl (all_c (SlF.one hv42) (all_c (SlF.one hv61) all_n)))) (Nat.le_of_ble_eq_true rfl) rfl (fun h64 hS65 => ?_)
  simp only [run_draw_nil, x51_5, run_seq, run_reg, f28, run_mv, run_ops_nil, B0, reduceIte, reduceEqDiff]
  obtain ⟨oc78, hX80, hk81⟩ := jn_some hF57
  simp only [x51_4]
  refine rangeN_j (σ := Readers_) (fun i76 s126 => impl_newReaders_b1 ends_1 l36 l55 i76 s126) (fun s fr' h' => ∃ v73 c74,
      fr' 1 = lst cI ends_1 ∧ fr' 4 = .ptr b1 0 ∧ fr' 6 = .ptr b51 0 ∧ SlN Reader.R 4 37 v73 s.Readers c74 ∧ Sep h' (geL h.length) ([Blk1 b1 [.int .i64 0, .nil, .nil,
      .nil] 29] ++ ([Blk1 b51 [.int .i64 s.Generation, v73, v39, v58] 29] ++ (c74 ++ (c40 ++ (c59 ++ ([]))))))) hX80 ⟨.nil, [], f29, f30, rfl, SlN.nil,
      ((Sep.m3 (Sep.m2 (Sep.m2 (Sep.m1 hS65)))) : Sep _ (geL h.length) ([Blk1 b1 [.int .i64 0, .nil, .nil, .nil] 29] ++ ([Blk1 b51 [.int .i64 0, .nil, v39,
      v58] 29] ++ (c40 ++ (c59 ++ ([]))))))⟩ (by simp only [B0, reduceIte, reduceEqDiff]) (by simp only [B0, reduceIte,
      reduceEqDiff]) (fun _ _ _ h => h) rfl rfl (fun _ _ _ _ h => h) (fun _ _ _ _ h => h) (fun _ _ _ _ h => h) (by decide) ?_ ?_
  · rintro i76 s71 fr90 h91 hx96 ⟨v73, c74, f93, f94, f95, hv75, hS92⟩ f97 f98 oc79 hF82 hr83 Q84 hN85 hB89 hK86 hR87 hE88
    unfold impl_newReaders_b1 at hF82
    simp only [x51_2, run_draw, f95, d4_fa, put1d_some, Nat.reduceAdd, Nat.zero_add, Nat.add_zero, xfa_ptr, d4_ld, B0, reduceIte, reduceEqDiff]
    refine put1d_eq (v := v73) ((xld_b (Sep.bk _ _ _ (Sep.m1 hS92))).trans rfl) ?_
    obtain ⟨l99, hx100, hF101⟩ := bind_some' hF82
    simp only [f93, d4_mv, put1d_some, d4_len, xlen_lst, d4_mkS, B0, reduceIte, reduceEqDiff]
    refine put2d_mkSF (f := cI) (z := (0 : Int)) hS92 hx100 rfl (fun v102 c103 h104 hv105 hS106 => ?_)
    simp only [d4_build, evp, B0, reduceIte, reduceEqDiff]
    refine put1d_eq (v := .agg [.bool false, .int .i64 0, .nil, v102]) (pbuild_some (fill1 (us := [v102]) (vs := [.bool false, .int .i64 0, .nil,
        v102]) (cells_one (SlF.one hv105)) rfl (Nat.le_of_ble_eq_true rfl) (all_c (SlF.one hv105) all_n) rfl fill0)) ?_
    simp only [d4_buildS, evp, B0, reduceIte, reduceEqDiff]
    refine put2d_buildSN (R := Reader.R) (n := 4) (cs := [.bool false, .int .i64 0, .nil,
        v102]) (os := [] ++ (c103)) (Sep.bi2 (c1 := []) (c2 := c103) (S := ([Blk1 b1 [.int .i64 0, .nil, .nil, .nil] 29] ++ ([Blk1 b51 [.int .i64 s71.Generation, v73, v39,
        v58] 29] ++ (c74 ++ (c40 ++ (c59 ++ ([]))))))) (hS106 : Sep _ (geL h.length) (c103 ++ ([Blk1 b1 [.int .i64 0, .nil, .nil,
        .nil] 29] ++ ([Blk1 b51 [.int .i64 s71.Generation, v73, v39, v58] 29] ++ (c74 ++ (c40 ++ (c59 ++ ([]))))))))) (fill1 (us := [.bool false, .int .i64 0, .nil,
        v102]) (vs := [.bool false, .int .i64 0, .nil,
        v102]) rfl rfl (Nat.le_of_ble_eq_true rfl) (all_c rfl (all_c rfl (all_c rfl (all_c (SlF.one hv105) all_n)))) rfl fill0) (Reader.RI (x :=
        (Reader.mk false 0 [] l99)) SlF.nil hv105) rfl (fun v108 c109 h110 hv111 hS112 => ?_)
    simp only [d3_app, B0, reduceIte, reduceEqDiff]
    obtain ⟨l114, hx115, hF116⟩ := bind_some' hF101
    refine put2d_appN (R := Reader.R) (c := c74) hv75 hv111 (Sep.m3 hS112) hW Reader.RO.len Reader.RO.one hx115 (fun v117 c118 h119 hv120 hS121 => ?_)
    simp only [f95, d4_fa, put1d_some, Nat.reduceAdd, Nat.zero_add, Nat.add_zero, xfa_ptr, d3_st, B0, reduceIte, reduceEqDiff]
    refine put2d_stCx (us := [v117]) (cells_one (SlN.one hv120)) (cs' := [.int .i64 s71.Generation, v117, v39,
        v58]) (Sep.m2 hS121) hW rfl (all_c (SlN.one hv120) all_n) (Nat.le_of_ble_eq_true rfl) rfl (fun h123 hS124 => ?_)
    simp only [run_draw_nil, run_nil, B0, reduceIte, reduceEqDiff]
    have e125 := some_inj hF116
    exact hN85 _ _ _ e125.symm ⟨v117, c118, f93, f94, f95, hv120, (Sep.m4 (Sep.m3 (Sep.m3 (Sep.m4 (Sep.m4 hS124)))))⟩ (f97) (f98)
  rintro s127 fr132 h133 rfl ⟨v129, c130, f135, f136, f137, hv131, hS134⟩
  dsimp only [jnO] at hk81
  unfold impl_newReaders_j1 at hk81
  simp only [run_seq, run_reg, f137, run_ld, B0, reduceIte, reduceEqDiff]
  refine put1_eq (v := .agg [.int .i64 s127.Generation, v129, v39, v58]) ((xld_bs (Sep.bk _ _ _ (Sep.m1 hS134))).trans rfl) ?_
  simp only [f136, run_st, B0, reduceIte, reduceEqDiff]
  refine put2_stCx (us := [.int .i64 s127.Generation, v129, v39, v58]) rfl (cs' := [.int .i64 s127.Generation, v129, v39,
      v58]) hS134 hW rfl (all_c rfl (all_c (SlN.one hv131) (all_c (SlF.one hv42) (all_c (SlF.one hv61) all_n)))) (Nat.le_of_ble_eq_true rfl) rfl (fun h138 hS139 => ?_)
  simp only [run_mv, run_ops_nil, run_ret, B0, reduceIte, reduceEqDiff]
  have he := some_inj hk81
  subst he
  refine end_ret_m (mapM1 (res_cell (bb := b1) (oo := 0) (v := .agg [.int .i64 s127.Generation, v129, v39,
      v58]) (f136) ((xld_bs (Sep.bk _ _ _ hS139)).trans rfl)) (mapM1 (res_t (v := .bool true) (rfl)) mapM0)) ?_
  exact ⟨v129, c130, v39, c40, v58, c59, by first | trivial | rfl, hv131, hv42, hv61, (Sep.m2 (Sep.m2 (Sep.m2 (Sep.dc ((Sep.dc (hS139)))))))⟩
theorem slices_Index_int_x {W : Nat → Bool} {h : Heap} (hW : ∀ b,
    (geL h.length) b → W b = true) (s_0 : List Int) (v_1 : Int) (r : Int) (hF : slices_Index_int s_0 v_1 = some r) : Ret E W 83 [lst cI s_0,
    .int .i64 v_1] h (fun v h' => cut h.length h' E.sz false 9 v = some (.int .i64 r)) := by
  refine Ret.of (fn := x83) rfl (Run.of ?_)
  unfold slices_Index_int at hF
  have zf0 : argFr [lst cI s_0, .int .i64 v_1] 0 = lst cI s_0 := rfl
  have zf1 : argFr [lst cI s_0, .int .i64 v_1] 1 = .int .i64 v_1 := rfl
  generalize argFr [lst cI s_0, .int .i64 v_1] = fr0 at zf0 zf1 ⊢
  have hS : Sep h (geL h.length) [] := Sep.nil h
  simp only [x83, run_seq, run_reg, run_mv, run_ops_nil, x83_6, zf0, run_len, put1_some, xlen_lst, B0, reduceIte, reduceEqDiff]
  obtain ⟨oc3, hX5, hk6⟩ := jn_some hF
  simp only [x83_5]
  refine rangeL_j (σ := Unit) s_0 (fun i1 x2 _ => slices_Index_int_b1 v_1 i1 x2 ) (fun s fr' h' => fr' 0 = lst cI s_0 ∧ fr' 1 = .int .i64 v_1 ∧ Sep h' (geL h.length)
      ([])) hX5 ⟨zf0, zf1, hS⟩ (by simp only [B0, reduceIte, reduceEqDiff]) (by simp only [B0, reduceIte,
      reduceEqDiff]) (fun _ _ _ h => h) rfl rfl (fun _ _ _ _ h => h) (fun _ _ _ _ h => h) (fun _ _ _ _ h => h) (by decide) ?_ ?_
  · rintro i1 x2 _ fr15 h16 hx20 ⟨f18, f19, hS17⟩ f21 f22 oc4 hF7 hr8 Q9 hN10 hB14 hK11 hR12 hE13
    unfold slices_Index_int_b1 at hF7
    simp only [x83_3, run_seq, run_reg, f21, run_mv, run_ops_nil, x83_2, f19, f18, run_ia, B0, reduceIte, reduceEqDiff]
    refine put1_eq (v := .ref (cI x2) 0) (xia_lstN hx20 rfl) ?_
    simp only [run_ld, B0, reduceIte, reduceEqDiff]
    refine put1_eq (v := .int .i64 x2) rfl ?_
    simp only [run_bin, put1_some, xeql, run_ops_nil, x83_1, run_cond, B0, reduceIte, reduceEqDiff]
    refine cond_split (t := (decide (v_1 = x2))) (fun hc23 => ?_) (fun hc23 => ?_)
    · rw [iteT hc23] at hF7
      simp only [run_seq, run_reg, run_mv, run_ops_nil, run_ret, B0, reduceIte, reduceEqDiff]
      have e24 := some_inj hF7
      subst e24
      have ho25 := hr8 _ rfl
      have hk26 := hk6
      rw [ho25] at hk26
      dsimp only [jnO] at hk26
      apply hR12
      have he := some_inj hk26
      subst he
      simp only [end_ret1, B0, reduceIte, reduceEqDiff]
      exact rfl
    rw [iteF hc23] at hF7
    simp only [run_skip, run_nil, B0, reduceIte, reduceEqDiff]
    have e27 := some_inj hF7
    exact hN10 _ _ _ e27.symm ⟨f18, f19, hS17⟩ (f21) (f22)
  rintro _ fr29 h30 rfl ⟨f32, f33, hS31⟩
  dsimp only [jnO] at hk6
  unfold slices_Index_int_j1 at hk6
  simp only [run_seq, run_reg, run_mv, run_ops_nil, run_ret, B0, reduceIte, reduceEqDiff]
  have he := some_inj hk6
  subst he
  simp only [end_ret1, B0, reduceIte, reduceEqDiff]
  exact rfl
theorem slices_Contains_int_x {W : Nat → Bool} {h : Heap} (hW : ∀ b,
    (geL h.length) b → W b = true) (s_0 : List Int) (v_1 : Int) (r : Bool) (hF : slices_Contains_int s_0 v_1 = some r) : Ret E W 58 [lst cI s_0,
    .int .i64 v_1] h (fun v h' => cut h.length h' E.sz false 9 v = some (.bool r)) := by
  refine Ret.of (fn := x58) rfl (Run.of ?_)
  unfold slices_Contains_int at hF
  have zf0 : argFr [lst cI s_0, .int .i64 v_1] 0 = lst cI s_0 := rfl
  have zf1 : argFr [lst cI s_0, .int .i64 v_1] 1 = .int .i64 v_1 := rfl
  generalize argFr [lst cI s_0, .int .i64 v_1] = fr0 at zf0 zf1 ⊢
  have hS : Sep h (geL h.length) [] := Sep.nil h
  obtain ⟨v1, hx2, hF3⟩ := bind_some' hF
  simp only [x58, run_seq, run_reg, run_mv, run_ops_nil, x58_1, zf0, zf1, run_call, B0, reduceIte, reduceEqDiff]
  refine call1 rfl (mapM1 snap_lst (mapM1 snap_int mapM0)) (slices_Index_int_x (fun b hb => decide_eq_true hb) s_0 v_1 v1 hx2) ?_
  simp only [run_bin, put1_some, xgeq, run_mv, run_ops_nil, run_ret, B0, reduceIte, reduceEqDiff]
  have he := some_inj hF3
  subst he
  simp only [end_ret1, B0, reduceIte, reduceEqDiff]
  exact rfl
end Go.Proofs.Ytdhibknhejhfaaa.X
namespace Go.Proofs.Ytdhibknhejhfaaa.X
open Go
open Nat (reduceEqDiff)
theorem impl_Readers_shareOf_x {W : Nat → Bool} {h : Heap} (hW : ∀ b,
    (geL h.length) b → W b = true) (r_0 : Readers_) (k_1 : Int) (r : List Int) (hF : impl_Readers_shareOf r_0 k_1 = some r) : Ret E W 72 [.agg [.int .i64 r_0.Generation,
    lst Reader.cells r_0.Readers, lst cI r_0.Committed, lst cI r_0.Ends], .int .i64 k_1] h (fun v h' => ∃ rv0 rc0,
    v = rv0 ∧ SlF cI 1 3 rv0 r rc0 ∧ Sep h' (geL h.length) (rc0 ++ ([]))) := by
  refine Ret.of (fn := x72) rfl (Run.of ?_)
  unfold impl_Readers_shareOf at hF
  have zf0 : argFr [.agg [.int .i64 r_0.Generation, lst Reader.cells r_0.Readers, lst cI r_0.Committed, lst cI r_0.Ends], .int .i64 k_1] 0 = .agg [.int .i64 r_0.Generation,
      lst Reader.cells r_0.Readers, lst cI r_0.Committed, lst cI r_0.Ends] := rfl
  have zf1 : argFr [.agg [.int .i64 r_0.Generation, lst Reader.cells r_0.Readers, lst cI r_0.Committed, lst cI r_0.Ends], .int .i64 k_1] 1 = .int .i64 k_1 := rfl
  generalize argFr [.agg [.int .i64 r_0.Generation, lst Reader.cells r_0.Readers, lst cI r_0.Committed, lst cI r_0.Ends], .int .i64 k_1] = fr0 at zf0 zf1 ⊢
  have hS : Sep h (geL h.length) [] := Sep.nil h
  simp only [x72, run_seq, run_reg, run_box, zf0, B0, reduceIte, reduceEqDiff]
  refine put2_boxC (cs := [.int .i64 r_0.Generation, lst Reader.cells r_0.Readers, lst cI r_0.Committed, lst cI r_0.Ends]) hS rfl rfl rfl (fun b1 h2 hS3 => ?_)
  simp only [run_mv, run_ops_nil, B0, reduceIte, reduceEqDiff]
  refine frz_stepC hS3 hW (by simp only [B0, reduceIte, reduceEqDiff]) (fun h5 hS6 => ?_)
  simp only [run_frz_nil, x72_17, run_seq, run_reg, run_mv, run_ops_nil, x72_16, run_fa, put1_some, Nat.reduceAdd, Nat.zero_add, Nat.add_zero, xfa_ref, run_ld, B0, reduceIte,
      reduceEqDiff]
  refine put1_eq (v := lst Reader.cells r_0.Readers) rfl ?_
  simp only [run_len, put1_some, xlen_lst, run_mv, run_ops_nil, B0, reduceIte, reduceEqDiff]
  obtain ⟨oc13, hX15, hk16⟩ := jn_some hF
  simp only [x72_7]
  refine rangeL_j (σ := Int × Int) r_0.Readers (fun i11 x12 s49 => impl_Readers_shareOf_b1 k_1 i11 x12 s49.1 s49.2)
      (fun s fr' h' => fr' 1 = .int .i64 k_1 ∧ fr' 2 = .ref [.int .i64 r_0.Generation, lst Reader.cells r_0.Readers, lst cI r_0.Committed,
      lst cI r_0.Ends] 0 ∧ fr' 5 = .int .i64 s.1 ∧ fr' 6 = .int .i64 s.2 ∧ fr' 12 = lst Reader.cells r_0.Readers ∧ Sep h' (geL h.length) ([])) hX15 ⟨zf1, rfl, rfl, rfl, rfl,
      hS6⟩ (by simp only [B0, reduceIte, reduceEqDiff]) (by simp only [B0, reduceIte,
      reduceEqDiff]) (fun _ _ _ h => h) rfl rfl (fun _ _ _ _ h => h) (fun _ _ _ _ h => h) (fun _ _ _ _ h => h) (by decide) ?_ ?_
  · rintro i11 x12 ⟨s9, s10⟩ fr25 h26 hx33 ⟨f28, f29, f30, f31, f32, hS27⟩ f34 f35 oc14 hF17 hr18 Q19 hN20 hB24 hK21 hR22 hE23
    dsimp only at *
    unfold impl_Readers_shareOf_b1 at hF17
    simp only [x72_5, run_seq, run_reg, f34, run_mv, f32, run_ia, B0, reduceIte, reduceEqDiff]
    refine put1_eq (v := .ref (Reader.cells x12) 0) (xia_lstN hx33 rfl) ?_
    simp only [run_ld, B0, reduceIte, reduceEqDiff]
    refine put1_eq (v := .agg [.bool x12.In, .int .i64 x12.Generation, lst cI x12.Share, lst cI x12.Read]) rfl ?_
    simp only [run_new, B0, reduceIte, reduceEqDiff]
    refine put2_newC hS27 (fun b36 h37 hS38 => ?_)
    simp only [run_mv, run_st, B0, reduceIte, reduceEqDiff]
    refine put2_stCx (us := [.bool x12.In, .int .i64 x12.Generation, lst cI x12.Share, lst cI x12.Read]) rfl (cs' := [.bool x12.In, .int .i64 x12.Generation, lst cI x12.Share,
        lst cI x12.Read]) hS38 hW rfl rfl (Nat.le_of_ble_eq_true rfl) rfl (fun h40 hS41 => ?_)
    simp only [run_ops_nil, B0, reduceIte, reduceEqDiff]
    refine frz_stepC hS41 hW (by simp only [B0, reduceIte, reduceEqDiff]) (fun h42 hS43 => ?_)
    simp only [run_frz_nil, x72_4, run_seq, run_reg, run_fa, put1_some, Nat.reduceAdd, Nat.zero_add, Nat.add_zero, xfa_ref, run_ld, B0, reduceIte, reduceEqDiff]
    refine put1_eq (v := .bool x12.In) rfl ?_
    simp only [run_ops_nil, x72_3, run_cond, B0, reduceIte, reduceEqDiff]
    refine cond_split (t := x12.In) (fun hc44 => ?_) (fun hc44 => ?_)
    · rw [iteT hc44] at hF17
      simp only [x72_2, run_seq, run_reg, run_mv, f28, run_bin, put1_some, xlss, run_ops_nil, x72_1, run_cond, B0, reduceIte, reduceEqDiff]
      refine cond_split (t := (decide ((i11 : Int) < k_1))) (fun hc45 => ?_) (fun hc45 => ?_)
      · rw [iteT hc45] at hF17
        simp only [run_reg, f31, run_mv, run_bin, put1_some, xadd, run_ops_nil, f30, run_nil, B0, reduceIte, reduceEqDiff]
        have e46 := some_inj hF17
        exact hN20 _ _ _ e46.symm ⟨f28, f29, rfl, rfl, f32, hS43⟩ (f34) (f35)
      rw [iteF hc45] at hF17
      simp only [run_skip, run_reg, f30, run_mv, run_bin, put1_some, xadd, run_ops_nil, run_nil, B0, reduceIte, reduceEqDiff]
      have e47 := some_inj hF17
      exact hN20 _ _ _ e47.symm ⟨f28, f29, rfl, f31, f32, hS43⟩ (f34) (f35)
    rw [iteF hc44] at hF17
    simp only [run_skip, run_nil, B0, reduceIte, reduceEqDiff]
    have e48 := some_inj hF17
    exact hN20 _ _ _ e48.symm ⟨f28, f29, f30, f31, f32, hS43⟩ (f34) (f35)
  rintro ⟨s50, s51⟩ fr52 h53 rfl ⟨f55, f56, f57, f58, f59, hS54⟩
  dsimp only [jnO] at hk16
  dsimp only at *
  unfold impl_Readers_shareOf_j2 at hk16
  simp only [x72_15, run_seq, run_reg, run_buildS, evp, B0, reduceIte, reduceEqDiff]
  refine put2_buildSF (n := 1) (f := cI) ([] : List Int) hS54 rfl rfl (fun v60 c61 h62 hv63 hS64 => ?_)
  simp only [run_mv, run_ops_nil, x72_14, run_seq, run_reg, f56, run_fa, put1_some, Nat.reduceAdd, Nat.zero_add, Nat.add_zero, xfa_ref, run_ld, B0, reduceIte, reduceEqDiff]
  refine put1_eq (v := lst cI r_0.Ends) rfl ?_
  simp only [run_len, put1_some, xlen_lst, run_mv, run_ops_nil, B0, reduceIte, reduceEqDiff]
  obtain ⟨oc78, hX80, hk81⟩ := jn_some hk16
  simp only [x72_13]
  refine rangeN_j (σ := (List Int)) (fun i76 s119 => impl_Readers_shareOf_b2 s50 s51 i76 s119) (fun s fr' h' => ∃ v73 c74,
      fr' 5 = .int .i64 s50 ∧ fr' 6 = .int .i64 s51 ∧ fr' 9 = v73 ∧ SlF cI 1 3 v73 s c74 ∧ Sep h' (geL h.length) (c74 ++ ([]))) hX80 ⟨v60, c61, f57, f58, rfl, hv63,
      hS64⟩ (by simp only [B0, reduceIte, reduceEqDiff]) (by simp only [B0, reduceIte,
      reduceEqDiff]) (fun _ _ _ h => h) rfl rfl (fun _ _ _ _ h => h) (fun _ _ _ _ h => h) (fun _ _ _ _ h => h) (by decide) ?_ ?_
  · rintro i76 s71 fr90 h91 hx96 ⟨v73, c74, f93, f94, f95, hv75, hS92⟩ f97 f98 oc79 hF82 hr83 Q84 hN85 hB89 hK86 hR87 hE88
    unfold impl_Readers_shareOf_b2 at hF82
    obtain ⟨hp99, hF100⟩ := ck_some hF82
    simp only [x72_11, run_seq, run_reg, f97, run_mv, run_ops_nil, x72_10, f93, run_bin, put1_some, xrem_nz (n := s50) hp99, f94, xeql, x72_9, run_cond, B0, reduceIte,
        reduceEqDiff]
    refine cond_split (t := (decide ((Int.tmod (i76 : Int) s50) = s51))) (fun hc101 => ?_) (fun hc101 => ?_)
    · rw [iteT hc101] at hF100
      simp only [x72_8, run_reg, f95, run_mv, run_buildS, evp, B0, reduceIte, reduceEqDiff]
      refine put2_buildSF (n := 1) (f := cI) [(i76 : Int)] hS92 rfl rfl (fun v102 c103 h104 hv105 hS106 => ?_)
      simp only [run_app, B0, reduceIte, reduceEqDiff]
      obtain ⟨l108, hx109, hF110⟩ := bind_some' hF100
      refine put2_appF (f := cI) hv75 (Sep.m1 hS106) hW (fun _ => rfl) (fun _ => rfl) (SlF.first hv105 hS106 (fun _ => rfl)) hx109 (fun v111 c112 h113 hv114 hS115 => ?_)
      simp only [run_mv, run_ops_nil, run_nil, B0, reduceIte, reduceEqDiff]
      have e117 := some_inj hF110
      exact hN85 _ _ _ e117.symm ⟨v111, c112, f93, f94, rfl, hv114, (Sep.dc (Sep.m1 hS115))⟩ (f97) (f98)
    rw [iteF hc101] at hF100
    simp only [run_skip, run_nil, B0, reduceIte, reduceEqDiff]
    have e118 := some_inj hF100
    exact hN85 _ _ _ e118.symm ⟨v73, c74, f93, f94, f95, hv75, hS92⟩ (f97) (f98)
  rintro s120 fr125 h126 rfl ⟨v122, c123, f128, f129, f130, hv124, hS127⟩
  dsimp only [jnO] at hk81
  unfold impl_Readers_shareOf_j1 at hk81
  simp only [run_seq, run_reg, f130, run_mv, run_ops_nil, run_ret, B0, reduceIte, reduceEqDiff]
  have he := some_inj hk81
  subst he
  simp only [end_ret1, B0, reduceIte, reduceEqDiff]
  exact ⟨v122, c123, by first | trivial | rfl, hv124, hS127⟩
theorem impl_Readers_step_x {W : Nat → Bool} {h : Heap} {lo : Nat → Prop} {S0 : List Obj} (hW : ∀ b,
    lo b → W b = true) (pb0 : Nat) (v_0 : Readers_) (pv0_1 : XV) (pc0_1 : List Obj) (ph0_1 : SlN Reader.R 4 37 pv0_1 v_0.Readers pc0_1) (pv0_2 : XV) (pc0_2 : List Obj)
    (ph0_2 : SlF cI 1 3 pv0_2 v_0.Committed pc0_2) (pv0_3 : XV) (pc0_3 : List Obj) (ph0_3 : SlF cI 1 3 pv0_3 v_0.Ends pc0_3) (v_1 : GroupStep) (r : Bool × Readers_)
    (hF : impl_Readers_step v_0 v_1 = some r) (hS : Sep h lo ([Blk1 pb0 [.int .i64 v_0.Generation, pv0_1, pv0_2,
    pv0_3] 29] ++ (pc0_1 ++ (pc0_2 ++ (pc0_3 ++ (S0)))))) : Ret E W 52 [.ptr pb0 0, .agg [.int .i64 v_1.Kind, .int .i64 v_1.K, .int .i64 v_1.Part,
    .int .i64 v_1.N]] h (fun v h' => ∃ ic0_1 ic0_2 ic0_3,
    v = .bool r.1 ∧ SlN Reader.R 4 37 pv0_1 r.2.Readers ic0_1 ∧ SlF cI 1 3 pv0_2 r.2.Committed ic0_2 ∧ SlF cI 1 3 pv0_3 r.2.Ends ic0_3 ∧ Sep h' lo
    ([Blk1 pb0 [.int .i64 r.2.Generation, pv0_1, pv0_2, pv0_3] 29] ++ (ic0_1 ++ (ic0_2 ++ (ic0_3 ++ (S0)))))) := by
  refine Ret.of (fn := x52) rfl (Run.of ?_)
  unfold impl_Readers_step at hF
  have zf0 : argFr [.ptr pb0 0, .agg [.int .i64 v_1.Kind, .int .i64 v_1.K, .int .i64 v_1.Part, .int .i64 v_1.N]] 0 = .ptr pb0 0 := rfl
  have zf1 : argFr [.ptr pb0 0, .agg [.int .i64 v_1.Kind, .int .i64 v_1.K, .int .i64 v_1.Part, .int .i64 v_1.N]] 1 = .agg [.int .i64 v_1.Kind, .int .i64 v_1.K, .int .i64 v_1.Part,
      .int .i64 v_1.N] := rfl
  generalize argFr [.ptr pb0 0, .agg [.int .i64 v_1.Kind, .int .i64 v_1.K, .int .i64 v_1.Part, .int .i64 v_1.N]] = fr0 at zf0 zf1 ⊢
  simp only [x52, run_seq, run_reg, run_box, zf1, B0, reduceIte, reduceEqDiff]
  refine put2_boxC (cs := [.int .i64 v_1.Kind, .int .i64 v_1.K, .int .i64 v_1.Part, .int .i64 v_1.N]) hS rfl rfl rfl (fun b1 h2 hS3 => ?_)
  simp only [run_mv, run_ops_nil, B0, reduceIte, reduceEqDiff]
  refine frz_stepC hS3 hW (by simp only [B0, reduceIte, reduceEqDiff]) (fun h5 hS6 => ?_)
  simp only [run_frz_nil, x52_31, run_seq, run_draw, d4_fa, put1d_some, Nat.reduceAdd, Nat.zero_add, Nat.add_zero, xfa_ref, d4_ld, B0, reduceIte, reduceEqDiff]
  refine put1d_eq (v := .int .i64 v_1.K) rfl ?_
  simp only [zf0, d4_mv, put1d_some, d4_chk, xchk_ptr, d4_fa, Nat.reduceAdd, Nat.zero_add, Nat.add_zero, xfa_ptr, d4_ld, B0, reduceIte, reduceEqDiff]
  refine put1d_eq (v := pv0_1) ((xld_b (Sep.bk _ _ _ hS6)).trans rfl) ?_
  simp only [d4_len, put1d_some, SlN.len ph0_1, d4_bin, xsub, run_d3_call, B0, reduceIte, reduceEqDiff]
  refine call1d rfl (mapM1 snap_int (mapM1 snap_int (mapM1 snap_int mapM0))) (impl_in_x (fun b hb => decide_eq_true hb) v_1.K 0 (IntKind.wrap .i64
      ((List.length v_0.Readers : Int) - 1)) _ rfl) ?_
  simp only [d4_un, put1d_some, xnot, d4_mv, B0, reduceIte, reduceEqDiff]
  refine draw_j 9 (fun fr' h' => Sep h' lo ([Blk1 pb0 [.int .i64 v_0.Generation, pv0_1, pv0_2,
      pv0_3] 29] ++ (pc0_1 ++ (pc0_2 ++ (pc0_3 ++ (S0))))) ∧ fr' 28 = .bool ((!(impl_in v_1.K 0 (IntKind.wrap .i64 ((List.length v_0.Readers : Int) - 1)))) || ((decide
      (v_1.Kind ≠ 4)) && (decide (v_1.N ≠ 0)))) ∧ fr' 0 = .ptr pb0 0 ∧ fr' 3 = .ref [.int .i64 v_1.Kind, .int .i64 v_1.K, .int .i64 v_1.Part,
      .int .i64 v_1.N] 0) rfl (fun Q7 hN8 => ?_) ?_
  · simp only [List.take_succ_cons, List.take_zero]
    simp only [run_guardd (g := 19), B0, reduceIte, reduceEqDiff]
    refine guardd_split (t := (!(impl_in v_1.K 0 (IntKind.wrap .i64 ((List.length v_0.Readers : Int) - 1))))) (fun hg9 => ?_) (fun hg9 => ?_)
    · simp only [hg9, run_guardd (g := 19), guardd_off', run_guardd (g := 23), guardd_tup, d4_pick, put1d_some, xpick_t, run_draw_nil, run_nil, B0, reduceIte, reduceEqDiff]
      exact hN8 _ _ ⟨(Sep.m3 (Sep.m3 (Sep.m3 (Sep.m3 hS6)))), by rw [orT hg9]; simp only [B0, reduceIte, reduceEqDiff], zf0, rfl⟩
    · simp only [hg9, run_guardd (g := 19), guardd_false, d4_fa, put1d_some, Nat.reduceAdd, Nat.zero_add, Nat.add_zero, xfa_ref, d4_ld, B0, reduceIte, reduceEqDiff]
      refine put1d_eq (v := .int .i64 v_1.Kind) rfl ?_
      simp only [hg9, run_guardd (g := 19), guardd_false, d4_bin, put1d_some, xneq, d4_mv, B0, reduceIte, reduceEqDiff]
      refine draw_j 4 (fun fr' h' => Sep h' lo ([Blk1 pb0 [.int .i64 v_0.Generation, pv0_1, pv0_2,
          pv0_3] 29] ++ (pc0_1 ++ (pc0_2 ++ (pc0_3 ++ (S0))))) ∧ fr' 27 = .bool ((decide (v_1.Kind ≠ 4)) && (decide
          (v_1.N ≠ 0))) ∧ fr' 0 = .ptr pb0 0 ∧ fr' 3 = .ref [.int .i64 v_1.Kind, .int .i64 v_1.K, .int .i64 v_1.Part,
          .int .i64 v_1.N] 0 ∧ fr' 19 = .bool (!(impl_in v_1.K 0 (IntKind.wrap .i64 ((List.length v_0.Readers : Int) - 1))))) rfl (fun Q10 hN11 => ?_) ?_
      · simp only [List.take_succ_cons, List.take_zero]
        simp only [run_guardd (g := 23), B0, reduceIte, reduceEqDiff]
        refine guardd_split (t := (decide (v_1.Kind ≠ 4))) (fun hg12 => ?_) (fun hg12 => ?_)
        · simp only [hg12, run_guardd (g := 23), guardd_true, d4_fa, put1d_some, Nat.reduceAdd, Nat.zero_add, Nat.add_zero, xfa_ref, d4_ld, B0, reduceIte, reduceEqDiff]
          refine put1d_eq (v := .int .i64 v_1.N) rfl ?_
          simp only [hg12, run_guardd (g := 23), guardd_true, d4_bin, put1d_some, xneq, hg9, run_guardd (g := 19), guardd_false, d4_pick, xpick_t, run_draw_nil, run_nil, B0,
              reduceIte, reduceEqDiff]
          exact hN11 _ _ ⟨(Sep.m3 (Sep.m3 (Sep.m3 (Sep.m3 hS6)))), by rw [andT hg12]; simp only [B0, reduceIte, reduceEqDiff], zf0, rfl, by simp only [hg9, B0, reduceIte,
              reduceEqDiff]⟩
        · simp only [hg12, run_guardd (g := 23), guardd_off, hg9, run_guardd (g := 19), guardd_false, d4_pick, put1d_some, xpick_f, run_draw_nil, run_nil, B0, reduceIte,
            reduceEqDiff]
          exact hN11 _ _ ⟨(Sep.m3 (Sep.m3 (Sep.m3 (Sep.m3 hS6)))), by rw [andF hg12]; simp only [B0, reduceIte, reduceEqDiff], zf0, rfl, by simp only [hg9, B0, reduceIte,
              reduceEqDiff]⟩
      rintro fr13 h18 ⟨hS19, f14, f15, f16, f17⟩
      simp only [List.drop_succ_cons, List.drop_zero]
      simp only [f17, hg9, d4_pick, put1d_some, xpick_f, f14, run_draw_nil, run_nil, B0, reduceIte, reduceEqDiff]
      exact hN8 _ _ ⟨(Sep.m3 (Sep.m3 (Sep.m3 (Sep.m3 hS19)))), by rw [orF hg9]; simp only [B0, reduceIte, reduceEqDiff], f15, f16⟩
  rintro fr20 h24 ⟨hS25, f21, f22, f23⟩
  simp only [List.drop_succ_cons, List.drop_zero]
  simp only [f21, d4_mv, put1d_some, B0, reduceIte, reduceEqDiff]
  refine draw_j 14 (fun fr' h' => Sep h' lo ([Blk1 pb0 [.int .i64 v_0.Generation, pv0_1, pv0_2,
      pv0_3] 29] ++ (pc0_1 ++ (pc0_2 ++ (pc0_3 ++ (S0))))) ∧ fr' 43 = .bool (((!(impl_in v_1.K 0 (IntKind.wrap .i64 ((List.length v_0.Readers : Int) - 1)))) || ((decide
      (v_1.Kind ≠ 4)) && (decide (v_1.N ≠ 0)))) || (((decide (v_1.Kind ≠ 4)) && (decide (v_1.Kind ≠ 5))) && (decide
      (v_1.Part ≠ 0)))) ∧ fr' 0 = .ptr pb0 0 ∧ fr' 3 = .ref [.int .i64 v_1.Kind, .int .i64 v_1.K, .int .i64 v_1.Part, .int .i64 v_1.N] 0) rfl (fun Q26 hN27 => ?_) ?_
  · simp only [List.take_succ_cons, List.take_zero]
    simp only [run_guardd (g := 29), B0, reduceIte, reduceEqDiff]
    refine guardd_split (t := ((!(impl_in v_1.K 0 (IntKind.wrap .i64 ((List.length v_0.Readers : Int) - 1)))) || ((decide (v_1.Kind ≠ 4)) && (decide (v_1.N ≠ 0)))))
        (fun hg28 => ?_) (fun hg28 => ?_)
    · simp only [hg28, run_guardd (g := 29), guardd_off', run_guardd (g := 33), guardd_tup, run_guardd (g := 38), d4_pick, put1d_some, xpick_t, run_draw_nil, run_nil, B0,
        reduceIte, reduceEqDiff]
      exact hN27 _ _ ⟨(Sep.m3 (Sep.m3 (Sep.m3 (Sep.m3 hS25)))), by rw [orT hg28]; simp only [B0, reduceIte, reduceEqDiff], f22, f23⟩
    · simp only [hg28, run_guardd (g := 29), guardd_false, f23, d4_fa, put1d_some, Nat.reduceAdd, Nat.zero_add, Nat.add_zero, xfa_ref, d4_ld, B0, reduceIte, reduceEqDiff]
      refine put1d_eq (v := .int .i64 v_1.Kind) rfl ?_
      simp only [hg28, run_guardd (g := 29), guardd_false, d4_bin, put1d_some, xneq, d4_mv, B0, reduceIte, reduceEqDiff]
      refine draw_j 4 (fun fr' h' => Sep h' lo ([Blk1 pb0 [.int .i64 v_0.Generation, pv0_1, pv0_2,
          pv0_3] 29] ++ (pc0_1 ++ (pc0_2 ++ (pc0_3 ++ (S0))))) ∧ fr' 37 = .bool ((decide (v_1.Kind ≠ 4)) && (decide
          (v_1.Kind ≠ 5))) ∧ fr' 0 = .ptr pb0 0 ∧ fr' 3 = .ref [.int .i64 v_1.Kind, .int .i64 v_1.K, .int .i64 v_1.Part,
          .int .i64 v_1.N] 0 ∧ fr' 29 = .bool ((!(impl_in v_1.K 0 (IntKind.wrap .i64 ((List.length v_0.Readers : Int) - 1)))) || ((decide (v_1.Kind ≠ 4)) && (decide
          (v_1.N ≠ 0))))) rfl (fun Q29 hN30 => ?_) ?_
      · simp only [List.take_succ_cons, List.take_zero]
        simp only [run_guardd (g := 33), B0, reduceIte, reduceEqDiff]
        refine guardd_split (t := (decide (v_1.Kind ≠ 4))) (fun hg31 => ?_) (fun hg31 => ?_)
        · simp only [hg31, run_guardd (g := 33), guardd_true, f23, d4_fa, put1d_some, Nat.reduceAdd, Nat.zero_add, Nat.add_zero, xfa_ref, d4_ld, B0, reduceIte, reduceEqDiff]
          refine put1d_eq (v := .int .i64 v_1.Kind) rfl ?_
          simp only [hg31, run_guardd (g := 33), guardd_true, d4_bin, put1d_some, xneq, hg28, run_guardd (g := 29), guardd_false, d4_pick, xpick_t, run_draw_nil, run_nil, B0,
              reduceIte, reduceEqDiff]
          exact hN30 _ _ ⟨(Sep.m3 (Sep.m3 (Sep.m3 (Sep.m3 hS25)))), by rw [andT hg31]; simp only [B0, reduceIte, reduceEqDiff], f22, f23, by simp only [hg28, B0, reduceIte,
              reduceEqDiff]⟩
        · simp only [hg31, run_guardd (g := 33), guardd_off, hg28, run_guardd (g := 29), guardd_false, d4_pick, put1d_some, xpick_f, run_draw_nil, run_nil, B0, reduceIte,
            reduceEqDiff]
          exact hN30 _ _ ⟨(Sep.m3 (Sep.m3 (Sep.m3 (Sep.m3 hS25)))), by rw [andF hg31]; simp only [B0, reduceIte, reduceEqDiff], f22, f23, by simp only [hg28, B0, reduceIte,
              reduceEqDiff]⟩
      rintro fr32 h37 ⟨hS38, f33, f34, f35, f36⟩
      simp only [List.drop_succ_cons, List.drop_zero]
      simp only [f36, hg28, run_guardd (g := 29), guardd_false, f33, d4_mv, put1d_some, B0, reduceIte, reduceEqDiff]
      refine draw_j 4 (fun fr' h' => Sep h' lo ([Blk1 pb0 [.int .i64 v_0.Generation, pv0_1, pv0_2,
          pv0_3] 29] ++ (pc0_1 ++ (pc0_2 ++ (pc0_3 ++ (S0))))) ∧ fr' 42 = .bool (((decide (v_1.Kind ≠ 4)) && (decide (v_1.Kind ≠ 5))) && (decide
          (v_1.Part ≠ 0))) ∧ fr' 0 = .ptr pb0 0 ∧ fr' 3 = .ref [.int .i64 v_1.Kind, .int .i64 v_1.K, .int .i64 v_1.Part,
          .int .i64 v_1.N] 0 ∧ fr' 29 = .bool ((!(impl_in v_1.K 0 (IntKind.wrap .i64 ((List.length v_0.Readers : Int) - 1)))) || ((decide (v_1.Kind ≠ 4)) && (decide
          (v_1.N ≠ 0))))) rfl (fun Q39 hN40 => ?_) ?_
      · simp only [List.take_succ_cons, List.take_zero]
        simp only [run_guardd (g := 38), B0, reduceIte, reduceEqDiff]
        refine guardd_split (t := ((decide (v_1.Kind ≠ 4)) && (decide (v_1.Kind ≠ 5)))) (fun hg41 => ?_) (fun hg41 => ?_)
        · simp only [hg41, run_guardd (g := 38), guardd_true, f35, d4_fa, put1d_some, Nat.reduceAdd, Nat.zero_add, Nat.add_zero, xfa_ref, d4_ld, B0, reduceIte, reduceEqDiff]
          refine put1d_eq (v := .int .i64 v_1.Part) rfl ?_
          simp only [hg41, run_guardd (g := 38), guardd_true, d4_bin, put1d_some, xneq, f36, hg28, run_guardd (g := 29), guardd_false, d4_pick, xpick_t, run_draw_nil, run_nil, B0,
              reduceIte, reduceEqDiff]
          exact hN40 _ _ ⟨(Sep.m3 (Sep.m3 (Sep.m3 (Sep.m3 hS38)))), by rw [andT hg41]; simp only [B0, reduceIte, reduceEqDiff], f34, f35, by simp only [f36, hg28, B0, reduceIte,
              reduceEqDiff]⟩
        · simp only [hg41, run_guardd (g := 38), guardd_off, f36, hg28, run_guardd (g := 29), guardd_false, d4_pick, put1d_some, xpick_f, run_draw_nil, run_nil, B0, reduceIte,
            reduceEqDiff]
          exact hN40 _ _ ⟨(Sep.m3 (Sep.m3 (Sep.m3 (Sep.m3 hS38)))), by rw [andF hg41]; simp only [B0, reduceIte, reduceEqDiff], f34, f35, by simp only [f36, hg28, B0, reduceIte,
              reduceEqDiff]⟩
      rintro fr42 h47 ⟨hS48, f43, f44, f45, f46⟩
      simp only [List.drop_succ_cons, List.drop_zero]
      simp only [f46, hg28, d4_pick, put1d_some, xpick_f, f43, run_draw_nil, run_nil, B0, reduceIte, reduceEqDiff]
      exact hN27 _ _ ⟨(Sep.m3 (Sep.m3 (Sep.m3 (Sep.m3 hS48)))), by rw [orF hg28]; simp only [B0, reduceIte, reduceEqDiff], f44, f45⟩
  rintro fr49 h53 ⟨hS54, f50, f51, f52⟩
  simp only [List.drop_succ_cons, List.drop_zero]
  simp only [run_draw_nil, f50, run_cond, B0, reduceIte, reduceEqDiff]
  refine cond_split (t := (((!(impl_in v_1.K 0 (IntKind.wrap .i64 ((List.length v_0.Readers : Int) - 1)))) || ((decide (v_1.Kind ≠ 4)) && (decide (v_1.N ≠ 0)))) || (((decide
      (v_1.Kind ≠ 4)) && (decide (v_1.Kind ≠ 5))) && (decide (v_1.Part ≠ 0))))) (fun hc55 => ?_) (fun hc55 => ?_)
  · rw [iteT hc55] at hF
    simp only [run_seq, run_reg, run_mv, run_ops_nil, run_ret, B0, reduceIte, reduceEqDiff]
    have he := some_inj hF
    subst he
    simp only [end_ret1, B0, reduceIte, reduceEqDiff]
    exact ⟨pc0_1, pc0_2, pc0_3, by first | trivial | rfl, ph0_1, ph0_2, ph0_3, (Sep.m3 (Sep.m3 (Sep.m3 (Sep.m3 hS54))))⟩
  rw [iteF hc55] at hF
  simp only [run_skip, x52_30, run_seq, run_draw, f51, d4_mv, put1d_some, d4_chk, xchk_ptr, d4_fa, Nat.reduceAdd, Nat.zero_add, Nat.add_zero, xfa_ptr, d4_ld, B0, reduceIte,
      reduceEqDiff]
  refine put1d_eq (v := pv0_1) ((xld_b (Sep.bk _ _ _ hS54)).trans rfl) ?_
  simp only [f52, d4_fa, put1d_some, Nat.reduceAdd, Nat.zero_add, Nat.add_zero, xfa_ref, d4_ld, B0, reduceIte, reduceEqDiff]
  refine put1d_eq (v := .int .i64 v_1.K) rfl ?_
  obtain ⟨x56, hx57, hF58⟩ := bind_some' hF
  simp only [d4_ia, B0, reduceIte, reduceEqDiff]
  obtain ⟨b59, hb60⟩ := SlN.isrow ph0_1 (geti_ne hx57)
  refine put1d_eq (SlN.ia ph0_1 hb60 hx57) ?_
  obtain ⟨c61, cs62, os63, hv64, hR65, hS66⟩ := SlG.opn (SlN.toG ph0_1 hb60 Reader.RO.len) hx57 hk_nil Reader.RO.len (Sep.m1 hS54)
  obtain ⟨v68, c69, v72, c73, hv70, hv74, rfl, rfl⟩ := hR65
  have hS67 := Sep.no2 hS66
  simp only [d4_mv, put1d_some, run_draw_nil, x52_29, run_seq, run_draw, d4_chk, xchk_ptr, d4_fa, Nat.reduceAdd, Nat.zero_add, Nat.add_zero, xfa_ptr, d4_ld, B0, reduceIte,
      reduceEqDiff]
  refine put1d_eq (v := .bool x56.In) ((SlG.ld (o := 0) hv64 rfl hx57 hS67 (Nat.le_of_ble_eq_true rfl)).trans rfl) ?_
  simp only [f52, d4_fa, put1d_some, Nat.reduceAdd, Nat.zero_add, Nat.add_zero, xfa_ref, d4_ld, B0, reduceIte, reduceEqDiff]
  refine put1d_eq (v := .int .i64 v_1.Kind) rfl ?_
  simp only [d4_bin, put1d_some, xeql, d4_eqb, xeqb_f, run_draw_nil, run_cond, B0, reduceIte, reduceEqDiff]
  refine cond_split (t := (x56.In == (decide (v_1.Kind = 1)))) (fun hc76 => ?_) (fun hc76 => ?_)
  · rw [iteT hc76] at hF58
    simp only [run_seq, run_reg, run_mv, run_ops_nil, run_ret, B0, reduceIte, reduceEqDiff]
    obtain ⟨c77, hv78, hS79⟩ := SlG.cls0 (c := c61) (os := c69 ++ (c73)) hv64 rfl hx57 hk_nil (Reader.RI (x := x56) hv70 hv74) (Sep.ni2 (c1 := c69) (c2 := c73) (Sep.m2 (Sep.m2
        (Sep.m2 hS67))))
    have hv80 := SlG.toN hv78
    have he := some_inj hF58
    subst he
    simp only [end_ret1, B0, reduceIte, reduceEqDiff]
    exact ⟨c77, pc0_2, pc0_3, by first | trivial | rfl, hv80, ph0_2, ph0_3, (Sep.m3 (Sep.m2 (Sep.m3 (Sep.m3 hS79))))⟩
  rw [iteF hc76] at hF58
  simp only [run_skip, x52_28, run_seq, run_draw, d4_mv, put1d_some, d4_chk, xchk_ptr, d4_fa, Nat.reduceAdd, Nat.zero_add, Nat.add_zero, xfa_ptr, d4_ld, B0, reduceIte,
      reduceEqDiff]
  refine put1d_eq (v := .int .i64 x56.Generation) ((SlG.ld (o := 1) hv64 rfl hx57 hS67 (Nat.le_of_ble_eq_true rfl)).trans rfl) ?_
  simp only [f51, d4_mv, put1d_some, d4_chk, xchk_ptr, d4_fa, Nat.reduceAdd, Nat.zero_add, Nat.add_zero, xfa_ptr, d4_ld, B0, reduceIte, reduceEqDiff]
  refine put1d_eq (v := .int .i64 v_0.Generation) ((xld_b (Sep.bk _ _ _ (Sep.m3 hS67))).trans rfl) ?_
  simp only [d4_bin, put1d_some, xeql, d4_mv, run_draw_nil, x52_27, run_seq, run_reg, f52, run_fa, put1_some, Nat.reduceAdd, Nat.zero_add, Nat.add_zero, xfa_ref, run_ld, B0,
      reduceIte, reduceEqDiff]
  refine put1_eq (v := .int .i64 v_1.Kind) rfl ?_
  simp only [run_ops_nil, x52_26, run_block, x52_25, run_seq, run_reg, run_bin, put1_some, xeql, run_mv, x52_1, run_cond, B0, reduceIte, reduceEqDiff]
  obtain ⟨c81, hv82, hS83⟩ := SlG.cls0 (c := c61) (os := c69 ++ (c73)) hv64 rfl hx57 hk_nil (Reader.RI (x := x56) hv70 hv74) (Sep.ni2 (c1 := c69) (c2 := c73) (Sep.m2 (Sep.m2
      (Sep.m2 hS67))))
  have hv84 := SlG.toN hv82
  obtain ⟨s85, hX87, hk88⟩ := bind_some' hF58
  refine cond_j (t := (decide (v_1.Kind = 1))) (fun fr' h' => fr' 0 = .ptr pb0 0 ∧ fr' 3 = .ref [.int .i64 v_1.Kind, .int .i64 v_1.K, .int .i64 v_1.Part,
      .int .i64 v_1.N] 0 ∧ fr' 5 = .ptr b59 (v_1.K.toNat * 4) ∧ fr' 6 = .bool (decide
      (x56.Generation = v_0.Generation)) ∧ fr' 69 = .int .i64 v_1.Kind ∧ fr' 70 = .bool s85 ∧ Sep h' lo ([Blk1 pb0 [.int .i64 v_0.Generation, pv0_1, pv0_2,
      pv0_3] 29] ++ (c81 ++ (pc0_2 ++ (pc0_3 ++ (S0)))))) (fun Q89 hN90 hR91 hE92 => ⟨fun hc93 => ?_, fun hc93 => ?_⟩) ?_
  · rw [iteT hc93] at hX87
    simp only [run_skip, run_nil, B0, reduceIte, reduceEqDiff]
    have e94 := some_inj hX87
    subst e94
    exact hN90 _ _ ⟨f51, f52, rfl, rfl, rfl, rfl, (Sep.m3 (Sep.m2 (Sep.m3 (Sep.m3 hS83))))⟩
  · rw [iteF hc93] at hX87
    simp only [run_reg, run_bin, put1_some, xeql, run_mv, run_ops_nil, run_nil, B0, reduceIte, reduceEqDiff]
    have e95 := some_inj hX87
    subst e95
    exact hN90 _ _ ⟨f51, f52, rfl, rfl, rfl, rfl, (Sep.m3 (Sep.m2 (Sep.m3 (Sep.m3 hS83))))⟩
  rintro fr96 h97 ⟨f99, f100, f101, f102, f103, f104, hS98⟩
  unfold impl_Readers_step_j1 at hk88
  simp only [x52_24, f104, run_cond, B0, reduceIte, reduceEqDiff]
  refine cond_split (t := s85) (fun hc105 => ?_) (fun hc105 => ?_)
  · rw [iteT hc105] at hk88
    simp only [x52_4, run_seq, run_reg, f99, run_mv, run_chk, put1_some, xchk_ptr, run_fa, Nat.reduceAdd, Nat.zero_add, Nat.add_zero, xfa_ptr, run_ld, B0, reduceIte, reduceEqDiff]
    refine put1_eq (v := .int .i64 v_0.Generation) ((xld_b (Sep.bk _ _ _ hS98)).trans rfl) ?_
    simp only [run_bin, put1_some, xeql, run_ops_nil, run_cond, B0, reduceIte, reduceEqDiff]
    refine cond_split (t := (decide (v_0.Generation = 1000))) (fun hc106 => ?_) (fun hc106 => ?_)
    · rw [iteT hc106] at hk88
      simp only [run_seq, run_reg, run_mv, run_ops_nil, run_ret, B0, reduceIte, reduceEqDiff]
      have he := some_inj hk88
      subst he
      simp only [end_ret1, B0, reduceIte, reduceEqDiff]
      exact ⟨c81, pc0_2, pc0_3, by first | trivial | rfl, hv84, ph0_2, ph0_3, (Sep.m3 (Sep.m3 (Sep.m3 (Sep.m3 hS98))))⟩
    rw [iteF hc106] at hk88
    simp only [run_skip, x52_3, run_seq, run_reg, f99, run_mv, run_chk, put1_some, xchk_ptr, run_fa, Nat.reduceAdd, Nat.zero_add, Nat.add_zero, xfa_ptr, run_ld, B0, reduceIte,
        reduceEqDiff]
    refine put1_eq (v := .int .i64 v_0.Generation) ((xld_b (Sep.bk _ _ _ hS98)).trans rfl) ?_
    simp only [run_bin, put1_some, xadd, run_chk, xchk_ptr, run_fa, Nat.reduceAdd, Nat.zero_add, Nat.add_zero, xfa_ptr, run_st, B0, reduceIte, reduceEqDiff]
    refine put2_stCx (us := [.int .i64 (IntKind.wrap .i64 (v_0.Generation + 1))]) rfl (cs' := [.int .i64 (IntKind.wrap .i64 (v_0.Generation + 1)), pv0_1, pv0_2,
        pv0_3]) hS98 hW rfl rfl (Nat.le_of_ble_eq_true rfl) rfl (fun h107 hS108 => ?_)
    simp only [run_ops_nil, x52_2, run_seq, run_draw, f101, d4_mv, put1d_some, f100, d4_fa, Nat.reduceAdd, Nat.zero_add, Nat.add_zero, xfa_ref, d4_ld, B0, reduceIte, reduceEqDiff]
    refine put1d_eq (v := .int .i64 v_1.Kind) rfl ?_
    simp only [d4_bin, put1d_some, xeql, f99, d4_mv, d4_chk, xchk_ptr, d4_fa, Nat.reduceAdd, Nat.zero_add, Nat.add_zero, xfa_ptr, d4_ld, B0, reduceIte, reduceEqDiff]
    refine put1d_eq (v := pv0_3) ((xld_b (Sep.bk _ _ _ hS108)).trans rfl) ?_
    obtain ⟨l109, hx110, hF111⟩ := bind_some' hk88
    simp only [d4_len, put1d_some, SlF.plen ph0_3, d4_mkS, B0, reduceIte, reduceEqDiff]
    refine put2d_mkSF (f := cI) (z := (0 : Int)) hS108 hx110 rfl (fun v112 c113 h114 hv115 hS116 => ?_)
    simp only [d4_build, evp, B0, reduceIte, reduceEqDiff]
    refine put1d_eq (v := .agg [.bool (decide (v_1.Kind = 1)), .int .i64 0, .nil,
        v112]) (pbuild_some (fill1 (us := [.bool (decide (v_1.Kind = 1))]) (vs := [.bool (decide (v_1.Kind = 1)), .int .i64 0, .nil,
        .nil]) rfl rfl (Nat.le_of_ble_eq_true rfl) rfl rfl (fill1 (us := [v112]) (vs := [.bool (decide (v_1.Kind = 1)), .int .i64 0, .nil,
        v112]) (cells_one (SlF.one hv115)) rfl (Nat.le_of_ble_eq_true rfl) (all_c (SlF.one hv115) all_n) rfl fill0))) ?_
    obtain ⟨c120, cs121, os122, hv123, hR124, hS125⟩ := SlG.opn (SlN.toG hv84 hb60 Reader.RO.len) hx57 hk_nil Reader.RO.len (Sep.m2 hS116)
    obtain ⟨v127, c128, v131, c132, hv129, hv133, rfl, rfl⟩ := hR124
    have hS126 := Sep.no2 hS125
    simp only [d4_chk, put1d_some, xchk_ptr, d3_st, B0, reduceIte, reduceEqDiff]
    refine put2d_stGx (us := [.bool (decide (v_1.Kind = 1)), .int .i64 0, .nil, v112]) (o := 0) (cs' := [.bool (decide (v_1.Kind = 1)), .int .i64 0, .nil,
        v112]) rfl hv123 rfl hx57 hS126 hW rfl (all_c rfl (all_c rfl (all_c rfl (all_c (SlF.one hv115) all_n)))) (Nat.le_of_ble_eq_true rfl) rfl (fun c135 h118 hv136 hS119 => ?_)
    simp only [run_draw_nil, run_seq, run_reg, run_mv, run_ops_nil, run_ret, B0, reduceIte, reduceEqDiff]
    obtain ⟨c137, hv138, hS139⟩ := SlG.cls (e' := (Reader.mk (decide (v_1.Kind = 1)) 0 [] l109)) (c := c135) (os := [] ++ (c113)) hv136 rfl hx57 hk_nil (Reader.RI (x :=
        (Reader.mk (decide (v_1.Kind = 1)) 0 [] l109)) SlF.nil hv115) (Sep.ni2 (c1 := []) (c2 := c113) (S := (c128 ++ (c132 ++ ([Blk1 pb0 [.int .i64 (IntKind.wrap .i64
        (v_0.Generation + 1)), pv0_1, pv0_2, pv0_3] 29] ++ (pc0_2 ++ (pc0_3 ++ (S0))))))) ((Sep.m1 (Sep.m3 hS119)) : Sep _ lo (c135 ++ (c113 ++ (c128 ++ (c132 ++
        ([Blk1 pb0 [.int .i64 (IntKind.wrap .i64 (v_0.Generation + 1)), pv0_1, pv0_2, pv0_3] 29] ++ (pc0_2 ++ (pc0_3 ++ (S0))))))))))
    have hx140 := geti_set (x' := (Reader.mk (decide (v_1.Kind = 1)) 0 [] l109)) hx57
    have hv141 := SlG.toN hv138
    have he := some_inj hF111
    subst he
    simp only [end_ret1, B0, reduceIte, reduceEqDiff]
    exact ⟨c137, pc0_2, pc0_3, by first | trivial | rfl, hv141, ph0_2, ph0_3, (Sep.m3 (Sep.m2 (Sep.m3 (Sep.m3 (Sep.dc (Sep.m1 (Sep.dc (Sep.m1 hS139))))))))⟩
  rw [iteF hc105] at hk88
  simp only [x52_23, run_seq, run_reg, f103, run_bin, put1_some, xeql, run_mv, run_ops_nil, x52_22, run_cond, B0, reduceIte, reduceEqDiff]
  refine cond_split (t := (decide (v_1.Kind = 3))) (fun hc142 => ?_) (fun hc142 => ?_)
  · rw [iteT hc142] at hk88
    simp only [x52_13, run_seq, run_reg, f102, run_mv, run_ops_nil, run_cond, B0, reduceIte, reduceEqDiff]
    refine cond_split (t := (decide (x56.Generation = v_0.Generation))) (fun hc143 => ?_) (fun hc143 => ?_)
    · rw [iteT hc143] at hk88
      simp only [run_seq, run_reg, run_mv, run_ops_nil, run_ret, B0, reduceIte, reduceEqDiff]
      have he := some_inj hk88
      subst he
      simp only [end_ret1, B0, reduceIte, reduceEqDiff]
      exact ⟨c81, pc0_2, pc0_3, by first | trivial | rfl, hv84, ph0_2, ph0_3, (Sep.m3 (Sep.m3 (Sep.m3 (Sep.m3 hS98))))⟩
    rw [iteF hc143] at hk88
    simp only [run_skip, x52_12, run_seq, run_reg, f101, run_mv, f99, run_chk, put1_some, xchk_ptr, run_fa, Nat.reduceAdd, Nat.zero_add, Nat.add_zero, xfa_ptr, run_ld, B0,
        reduceIte, reduceEqDiff]
    refine put1_eq (v := .int .i64 v_0.Generation) ((xld_b (Sep.bk _ _ _ hS98)).trans rfl) ?_
    obtain ⟨c146, cs147, os148, hv149, hR150, hS151⟩ := SlG.opn (SlN.toG hv84 hb60 Reader.RO.len) hx57 hk_nil Reader.RO.len (Sep.m1 hS98)
    obtain ⟨v153, c154, v157, c158, hv155, hv159, rfl, rfl⟩ := hR150
    have hS152 := Sep.no2 hS151
    simp only [run_chk, put1_some, xchk_ptr, run_fa, Nat.reduceAdd, Nat.zero_add, Nat.add_zero, xfa_ptr, run_st, B0, reduceIte, reduceEqDiff]
    refine put2_stGx (us := [.int .i64 v_0.Generation]) (o := 1) (cs' := [.bool x56.In, .int .i64 v_0.Generation, v153,
        v157]) rfl hv149 rfl hx57 hS152 hW rfl rfl (Nat.le_of_ble_eq_true rfl) rfl (fun c161 h144 hv162 hS145 => ?_)
    simp only [run_ops_nil, x52_11, run_seq, run_draw, f101, d1_mv, put1d_some, f99, d4_mv, d4_chk, xchk_ptr, d4_ld, B0, reduceIte, reduceEqDiff]
    refine put1d_eq (v := .agg [.int .i64 v_0.Generation, pv0_1, pv0_2, pv0_3]) ((xld_bs (Sep.bk _ _ _ (Sep.m3 hS145))).trans rfl) ?_
    simp only [f100, d4_fa, put1d_some, Nat.reduceAdd, Nat.zero_add, Nat.add_zero, xfa_ref, d4_ld, B0, reduceIte, reduceEqDiff]
    refine put1d_eq (v := .int .i64 v_1.K) rfl ?_
    obtain ⟨c163, hv164, hS165⟩ := SlG.cls (e' := (Reader.mk x56.In v_0.Generation x56.Share x56.Read)) (c := c161) (os := c154 ++ (c158)) hv162 rfl hx57 hk_nil (Reader.RI (x :=
        (Reader.mk x56.In v_0.Generation x56.Share x56.Read)) hv155 hv159) (Sep.ni2 (c1 := c154) (c2 := c158) (Sep.m2 (Sep.m2 (Sep.m2 hS145))))
    have hx166 := geti_set (x' := (Reader.mk x56.In v_0.Generation x56.Share x56.Read)) hx57
    have hv167 := SlG.toN hv164
    obtain ⟨v168, hx169, hF170⟩ := bind_some' hk88
    simp only [run_d3_call, B0, reduceIte, reduceEqDiff]
    refine call2d rfl hS165 (mapM1 (snap_agg (mapM1 snap_int (mapM1 (SlN.snap hv167 _ hS165 rfl Reader.RO) (mapM1 (SlF.snap ph0_2 (Sep.m2 hS165) rfl (fun _ => rfl)
        (fun _ => rfl)) (mapM1 (SlF.snap ph0_3 (Sep.m3 hS165) rfl (fun _ => rfl) (fun _ => rfl)) mapM0))))) (mapM1 snap_int mapM0)) (impl_Readers_shareOf_x
        (fun b hb => decide_eq_true hb) (Readers_.mk v_0.Generation (List.set v_0.Readers v_1.K.toNat
        (Reader.mk x56.In v_0.Generation x56.Share x56.Read)) v_0.Committed v_0.Ends) v_1.K v168 hx169) ?_
    rintro v171 h175 ⟨_, c172, rfl, hv173, hS176⟩
    refine ⟨_, free_1 (SlF.free1 hv173), hS176, (pf_app (SlF.pf hv173 (fun _ => rfl)) pf_nil), fun h177 hS178 => ?_⟩
    have hS179 : Sep h177 lo (c172 ++ (c163 ++ ([Blk1 pb0 [.int .i64 v_0.Generation, pv0_1, pv0_2, pv0_3] 29] ++ (pc0_2 ++ (pc0_3 ++ (S0)))))) := by simpa only [List.append_assoc,
        List.nil_append] using hS178
    obtain ⟨c182, cs183, os184, hv185, hR186, hS187⟩ := SlG.opn (SlN.toG hv167 hb60 Reader.RO.len) hx166 hk_nil Reader.RO.len (Sep.m1 hS179)
    obtain ⟨v189, c190, v193, c194, hv191, hv195, rfl, rfl⟩ := hR186
    have hS188 := Sep.no2 hS187
    simp only [d4_chk, put1d_some, xchk_ptr, d4_fa, Nat.reduceAdd, Nat.zero_add, Nat.add_zero, xfa_ptr, d3_st, B0, reduceIte, reduceEqDiff]
    refine put2d_stGx (us := [v171]) (o := 2) (cs' := [.bool ((Reader.mk x56.In v_0.Generation x56.Share x56.Read).In),
        .int .i64 ((Reader.mk x56.In v_0.Generation x56.Share x56.Read).Generation), v171,
        v193]) (cells_one (SlF.one hv173)) hv185 rfl hx166 hS188 hW rfl (all_c (SlF.one hv173) all_n) (Nat.le_of_ble_eq_true rfl) rfl (fun c197 h180 hv198 hS181 => ?_)
    simp only [run_draw_nil, x52_10, run_seq, run_reg, f101, run_mv, f99, run_chk, put1_some, xchk_ptr, run_fa, Nat.reduceAdd, Nat.zero_add, Nat.add_zero, xfa_ptr, run_ld, B0,
        reduceIte, reduceEqDiff]
    refine put1_eq (v := pv0_3) ((xld_b (Sep.bk _ _ _ (Sep.m4 hS181))).trans rfl) ?_
    obtain ⟨l199, hx200, hF201⟩ := bind_some' hF170
    simp only [run_len, put1_some, SlF.plen ph0_3, run_mkS, B0, reduceIte, reduceEqDiff]
    refine put2_mkSF (f := cI) (z := (0 : Int)) hS181 hx200 rfl (fun v202 c203 h204 hv205 hS206 => ?_)
    simp only [run_chk, put1_some, xchk_ptr, run_fa, Nat.reduceAdd, Nat.zero_add, Nat.add_zero, xfa_ptr, run_st, B0, reduceIte, reduceEqDiff]
    refine put2_stGx (us := [v202]) (o := 3) (cs' := [.bool ((Reader.mk x56.In v_0.Generation x56.Share x56.Read).In),
        .int .i64 ((Reader.mk x56.In v_0.Generation x56.Share x56.Read).Generation), v171,
        v202]) (cells_one (SlF.one hv205)) hv198 rfl hx166 (Sep.m1 hS206) hW rfl (all_c (SlF.one hv205) all_n) (Nat.le_of_ble_eq_true rfl) rfl (fun c210 h208 hv211 hS209 => ?_)
    simp only [run_ops_nil, x52_9, run_seq, run_reg, f101, run_mv, run_chk, put1_some, xchk_ptr, run_fa, Nat.reduceAdd, Nat.zero_add, Nat.add_zero, xfa_ptr, run_ld, B0, reduceIte,
        reduceEqDiff]
    refine put1_eq (v := v171) ((SlG.ld (o := 2) hv211 rfl hx166 hS209 (Nat.le_of_ble_eq_true rfl)).trans rfl) ?_
    simp only [run_len, put1_some, SlF.plen hv173, run_mv, run_ops_nil, B0, reduceIte, reduceEqDiff]
    obtain ⟨oc220, hX222, hk223⟩ := jn_some hF201
    simp only [x52_8]
    refine rangeN_j (σ := (List Int)) (fun i218 s262 => impl_Readers_step_b1 v_0 v168 i218 s262) (fun s fr' h' => ∃ c216,
        fr' 0 = .ptr pb0 0 ∧ fr' 5 = .ptr b59 (v_1.K.toNat * 4) ∧ fr' 128 = v171 ∧ SlF cI 1 3 v202 s c216 ∧ Sep h' lo ([Blk1 pb0 [.int .i64 v_0.Generation, pv0_1, pv0_2,
        pv0_3] 29] ++ (c210 ++ (c172 ++ (pc0_2 ++ (pc0_3 ++ (c216 ++ (S0)))))))) hX222 ⟨c203, f99, f101, rfl, hv205,
        (Sep.m5 (Sep.m4 (Sep.m4 (Sep.m5 (Sep.m5 (Sep.m1 (Sep.dc (Sep.m2 (Sep.dc (Sep.m2 hS209))))))))))⟩ (by simp only [B0, reduceIte, reduceEqDiff]) (by simp only [B0, reduceIte,
        reduceEqDiff]) (fun _ _ _ h => h) rfl rfl (fun _ _ _ _ h => h) (fun _ _ _ _ h => h) (fun _ _ _ _ h => h) (by decide) ?_ ?_
    · rintro i218 s215 fr232 h233 hx238 ⟨c216, f235, f236, f237, hv217, hS234⟩ f239 f240 oc221 hF224 hr225 Q226 hN227 hB231 hK228 hR229 hE230
      unfold impl_Readers_step_b1 at hF224
      obtain ⟨x241, hx242, hF243⟩ := bind_some' hF224
      simp only [x52_6, run_seq, run_reg, f237, f239, run_ia, B0, reduceIte, reduceEqDiff]
      obtain ⟨b244, hb245⟩ := SlF.isrow hv173 (geti_ne hx242)
      refine put1_eq (SlF.ia hv173 hb245 hx242) ?_
      simp only [run_ld, B0, reduceIte, reduceEqDiff]
      refine put1_eq (v := .int .i64 x241) ((SlF.ld (o := 0) hv173 (Sep.m2 hS234) hb245 hx242 (fun _ => rfl) (Nat.le_of_ble_eq_true rfl)).trans rfl) ?_
      simp only [run_mv, run_ops_nil, x52_5, run_draw, f236, d4_mv, put1d_some, d4_chk, xchk_ptr, d4_fa, Nat.reduceAdd, Nat.zero_add, Nat.add_zero, xfa_ptr, d4_ld, B0, reduceIte,
          reduceEqDiff]
      refine put1d_eq (v := v202) ((SlG.ld (o := 3) hv211 rfl hx166 (Sep.m1 hS234) (Nat.le_of_ble_eq_true rfl)).trans rfl) ?_
      simp only [d4_mv, put1d_some, f235, d4_chk, xchk_ptr, d4_fa, Nat.reduceAdd, Nat.zero_add, Nat.add_zero, xfa_ptr, d4_ld, B0, reduceIte, reduceEqDiff]
      refine put1d_eq (v := pv0_2) ((xld_b (Sep.bk _ _ _ hS234)).trans rfl) ?_
      obtain ⟨x246, hx247, hF248⟩ := bind_some' hF243
      simp only [d4_mv, put1d_some, d4_ia, B0, reduceIte, reduceEqDiff]
      obtain ⟨b249, hb250⟩ := SlF.isrow ph0_2 (geti_ne hx247)
      refine put1d_eq (SlF.ia ph0_2 hb250 hx247) ?_
      simp only [d4_ld, B0, reduceIte, reduceEqDiff]
      refine put1d_eq (v := .int .i64 x246) ((SlF.ld (o := 0) ph0_2 (Sep.m3 hS234) hb250 hx247 (fun _ => rfl) (Nat.le_of_ble_eq_true rfl)).trans rfl) ?_
      obtain ⟨x251, hx252, hF253⟩ := bind_some' hF248
      simp only [d4_ia, B0, reduceIte, reduceEqDiff]
      obtain ⟨b254, hb255⟩ := SlF.isrow hv217 (geti_ne hx252)
      refine put1d_eq (SlF.ia hv217 hb255 hx252) ?_
      simp only [d3_st, B0, reduceIte, reduceEqDiff]
      refine put2d_stF (f := cI) (x' := x246) (o := 0) hv217 (Sep.m5 hS234) hW hb255 hx252 (fun _ => rfl) rfl rfl (Nat.le_of_ble_eq_true rfl) rfl (fun c258 h256 hv259 hS257 => ?_)
      have hx260 := geti_set (x' := x246) hx252
      simp only [run_draw_nil, run_nil, B0, reduceIte, reduceEqDiff]
      have e261 := some_inj hF253
      exact hN227 _ _ _ e261.symm ⟨c258, f235, f236, f237, hv259, (Sep.m5 (Sep.m5 (Sep.m5 (Sep.m5 (Sep.m5 hS257)))))⟩ (f239) (f240)
    rintro s263 fr266 h267 rfl ⟨c264, f269, f270, f271, hv265, hS268⟩
    dsimp only [jnO] at hk223
    unfold impl_Readers_step_j2 at hk223
    simp only [run_seq, run_reg, run_mv, run_ops_nil, run_ret, B0, reduceIte, reduceEqDiff]
    obtain ⟨c272, hv273, hS274⟩ := SlG.cls (e' := (Reader.mk ((Reader.mk x56.In v_0.Generation x56.Share x56.Read).In)
        ((Reader.mk x56.In v_0.Generation x56.Share x56.Read).Generation) v168 s263)) (c := c210) (os := c172 ++ (c264)) hv211 rfl hx166 hk_nil (Reader.RI (x := (Reader.mk
        ((Reader.mk x56.In v_0.Generation x56.Share x56.Read).In) ((Reader.mk x56.In v_0.Generation x56.Share x56.Read).Generation) v168 s263)) hv173 hv265) (Sep.ni2 (c1 := c172)
        (c2 := c264) (Sep.m3 (Sep.m3 (Sep.m5 hS268))))
    rw [List.set_set] at hv273
    have hx275 := geti_set (x' := (Reader.mk ((Reader.mk x56.In v_0.Generation x56.Share x56.Read).In)
        ((Reader.mk x56.In v_0.Generation x56.Share x56.Read).Generation) v168 s263)) hx57
    have hv276 := SlG.toN hv273
    have he := some_inj hk223
    subst he
    simp only [end_ret1, B0, reduceIte, reduceEqDiff]
    exact ⟨c272, pc0_2, pc0_3, by first | trivial | rfl, hv276, ph0_2, ph0_3, (Sep.m3 (Sep.m2 (Sep.m3 (Sep.m3 hS274))))⟩
  rw [iteF hc142] at hk88
  simp only [x52_21, run_seq, run_reg, f103, run_bin, put1_some, xeql, run_mv, run_ops_nil, x52_20, run_cond, B0, reduceIte, reduceEqDiff]
  refine cond_split (t := (decide (v_1.Kind = 4))) (fun hc278 => ?_) (fun hc278 => ?_)
  · rw [iteT hc278] at hk88
    obtain ⟨c279, cs280, os281, hv282, hR283, hS284⟩ := SlG.opn (SlN.toG hv84 hb60 Reader.RO.len) hx57 hk_nil Reader.RO.len (Sep.m1 hS98)
    obtain ⟨v286, c287, v290, c291, hv288, hv292, rfl, rfl⟩ := hR283
    have hS285 := Sep.no2 hS284
    simp only [x52_15, run_seq, run_draw, f101, d4_mv, put1d_some, d4_chk, xchk_ptr, d4_fa, Nat.reduceAdd, Nat.zero_add, Nat.add_zero, xfa_ptr, d4_ld, B0, reduceIte, reduceEqDiff]
    refine put1d_eq (v := v286) ((SlG.ld (o := 2) hv282 rfl hx57 hS285 (Nat.le_of_ble_eq_true rfl)).trans rfl) ?_
    simp only [f100, d4_fa, put1d_some, Nat.reduceAdd, Nat.zero_add, Nat.add_zero, xfa_ref, d4_ld, B0, reduceIte, reduceEqDiff]
    refine put1d_eq (v := .int .i64 v_1.Part) rfl ?_
    obtain ⟨v294, hx295, hF296⟩ := bind_some' hk88
    simp only [run_d3_call, B0, reduceIte, reduceEqDiff]
    refine call1d rfl (mapM1 (SlF.snap hv288 (Sep.m1 hS285) rfl (fun _ => rfl) (fun _ => rfl)) (mapM1 snap_int mapM0)) (slices_Contains_int_x
        (fun b hb => decide_eq_true hb) x56.Share v_1.Part v294 hx295) ?_
    simp only [d4_un, put1d_some, xnot, d4_mv, B0, reduceIte, reduceEqDiff]
    refine draw_j 4 (fun fr' h' => Sep h' lo ([Blk1 pb0 [.int .i64 v_0.Generation, pv0_1, pv0_2,
        pv0_3] 29] ++ (c279 ++ (pc0_2 ++ (pc0_3 ++ (c287 ++ (c291 ++ (S0))))))) ∧ fr' 162 = .bool ((!v294) || (decide
        (v_1.N < 1))) ∧ fr' 0 = .ptr pb0 0 ∧ fr' 3 = .ref [.int .i64 v_1.Kind, .int .i64 v_1.K, .int .i64 v_1.Part,
        .int .i64 v_1.N] 0 ∧ fr' 5 = .ptr b59 (v_1.K.toNat * 4)) rfl (fun Q297 hN298 => ?_) ?_
    · simp only [List.take_succ_cons, List.take_zero]
      simp only [run_guardd (g := 158), B0, reduceIte, reduceEqDiff]
      refine guardd_split (t := (!v294)) (fun hg299 => ?_) (fun hg299 => ?_)
      · simp only [hg299, run_guardd (g := 158), guardd_off', d4_pick, put1d_some, xpick_t, run_draw_nil, run_nil, B0, reduceIte, reduceEqDiff]
        exact hN298 _ _ ⟨(Sep.m5 (Sep.m4 (Sep.m5 (Sep.m5 (Sep.m2 (Sep.m2 hS285)))))), by rw [orT hg299]; simp only [B0, reduceIte, reduceEqDiff], f99, f100, f101⟩
      · simp only [hg299, run_guardd (g := 158), guardd_false, f100, d4_fa, put1d_some, Nat.reduceAdd, Nat.zero_add, Nat.add_zero, xfa_ref, d4_ld, B0, reduceIte, reduceEqDiff]
        refine put1d_eq (v := .int .i64 v_1.N) rfl ?_
        simp only [hg299, run_guardd (g := 158), guardd_false, d4_bin, put1d_some, xlss, d4_pick, xpick_f, run_draw_nil, run_nil, B0, reduceIte, reduceEqDiff]
        exact hN298 _ _ ⟨(Sep.m5 (Sep.m4 (Sep.m5 (Sep.m5 (Sep.m2 (Sep.m2 hS285)))))), by rw [orF hg299]; simp only [B0, reduceIte, reduceEqDiff], f99, f100, f101⟩
    rintro fr300 h305 ⟨hS306, f301, f302, f303, f304⟩
    simp only [List.drop_succ_cons, List.drop_zero]
    simp only [run_draw_nil, f301, run_cond, B0, reduceIte, reduceEqDiff]
    refine cond_split (t := ((!v294) || (decide (v_1.N < 1)))) (fun hc307 => ?_) (fun hc307 => ?_)
    · rw [iteT hc307] at hF296
      simp only [run_seq, run_reg, run_mv, run_ops_nil, run_ret, B0, reduceIte, reduceEqDiff]
      obtain ⟨c308, hv309, hS310⟩ := SlG.cls0 (c := c279) (os := c287 ++ (c291)) hv282 rfl hx57 hk_nil (Reader.RI (x := x56) hv288 hv292) (Sep.ni2 (c1 := c287) (c2 := c291)
          (Sep.m3 (Sep.m5 (Sep.m5 hS306))))
      have hv311 := SlG.toN hv309
      have he := some_inj hF296
      subst he
      simp only [end_ret1, B0, reduceIte, reduceEqDiff]
      exact ⟨c308, pc0_2, pc0_3, by first | trivial | rfl, hv311, ph0_2, ph0_3, (Sep.m3 (Sep.m2 (Sep.m3 (Sep.m3 hS310))))⟩
    rw [iteF hc307] at hF296
    simp only [run_skip, x52_14, run_seq, run_draw, f304, d4_mv, put1d_some, d4_chk, xchk_ptr, d4_fa, Nat.reduceAdd, Nat.zero_add, Nat.add_zero, xfa_ptr, d4_ld, B0, reduceIte,
        reduceEqDiff]
    refine put1d_eq (v := v290) ((SlG.ld (o := 3) hv282 rfl hx57 (Sep.m1 hS306) (Nat.le_of_ble_eq_true rfl)).trans rfl) ?_
    simp only [f303, d4_fa, put1d_some, Nat.reduceAdd, Nat.zero_add, Nat.add_zero, xfa_ref, d4_ld, B0, reduceIte, reduceEqDiff]
    refine put1d_eq (v := .int .i64 v_1.Part) rfl ?_
    obtain ⟨x312, hx313, hF314⟩ := bind_some' hF296
    simp only [d4_ia, B0, reduceIte, reduceEqDiff]
    obtain ⟨b315, hb316⟩ := SlF.isrow hv292 (geti_ne hx313)
    refine put1d_eq (SlF.ia hv292 hb316 hx313) ?_
    simp only [d4_ld, B0, reduceIte, reduceEqDiff]
    refine put1d_eq (v := .int .i64 x312) ((SlF.ld (o := 0) hv292 (Sep.m5 hS306) hb316 hx313 (fun _ => rfl) (Nat.le_of_ble_eq_true rfl)).trans rfl) ?_
    simp only [f303, d4_fa, put1d_some, Nat.reduceAdd, Nat.zero_add, Nat.add_zero, xfa_ref, d4_ld, B0, reduceIte, reduceEqDiff]
    refine put1d_eq (v := .int .i64 v_1.N) rfl ?_
    simp only [f302, d4_mv, put1d_some, d4_chk, xchk_ptr, d4_fa, Nat.reduceAdd, Nat.zero_add, Nat.add_zero, xfa_ptr, d4_ld, B0, reduceIte, reduceEqDiff]
    refine put1d_eq (v := pv0_3) ((xld_b (Sep.bk _ _ _ hS306)).trans rfl) ?_
    simp only [f303, d4_fa, put1d_some, Nat.reduceAdd, Nat.zero_add, Nat.add_zero, xfa_ref, d4_ld, B0, reduceIte, reduceEqDiff]
    refine put1d_eq (v := .int .i64 v_1.Part) rfl ?_
    obtain ⟨x317, hx318, hF319⟩ := bind_some' hF314
    simp only [d4_ia, B0, reduceIte, reduceEqDiff]
    obtain ⟨b320, hb321⟩ := SlF.isrow ph0_3 (geti_ne hx318)
    refine put1d_eq (SlF.ia ph0_3 hb321 hx318) ?_
    simp only [d4_ld, B0, reduceIte, reduceEqDiff]
    refine put1d_eq (v := .int .i64 x317) ((SlF.ld (o := 0) ph0_3 (Sep.m3 hS306) hb321 hx318 (fun _ => rfl) (Nat.le_of_ble_eq_true rfl)).trans rfl) ?_
    simp only [f304, d4_mv, put1d_some, d4_chk, xchk_ptr, d4_fa, Nat.reduceAdd, Nat.zero_add, Nat.add_zero, xfa_ptr, d4_ld, B0, reduceIte, reduceEqDiff]
    refine put1d_eq (v := v290) ((SlG.ld (o := 3) hv282 rfl hx57 (Sep.m1 hS306) (Nat.le_of_ble_eq_true rfl)).trans rfl) ?_
    simp only [f303, d4_fa, put1d_some, Nat.reduceAdd, Nat.zero_add, Nat.add_zero, xfa_ref, d4_ld, B0, reduceIte, reduceEqDiff]
    refine put1d_eq (v := .int .i64 v_1.Part) rfl ?_
    simp only [d4_ia, B0, reduceIte, reduceEqDiff]
    refine put1d_eq (SlF.ia hv292 hb316 hx313) ?_
    simp only [d4_ld, B0, reduceIte, reduceEqDiff]
    refine put1d_eq (v := .int .i64 x312) ((SlF.ld (o := 0) hv292 (Sep.m5 hS306) hb316 hx313 (fun _ => rfl) (Nat.le_of_ble_eq_true rfl)).trans rfl) ?_
    simp only [d4_bin, put1d_some, xsub, d4_mnx, pminI, xadd, d4_ia, B0, reduceIte, reduceEqDiff]
    refine put1d_eq (SlF.ia hv292 hb316 hx313) ?_
    simp only [d3_st, B0, reduceIte, reduceEqDiff]
    refine put2d_stF (f := cI) (x' := (IntKind.wrap .i64 (x312 + (mnI v_1.N (IntKind.wrap .i64 (x317 - x312)))))) (o := 0) hv292 (Sep.m5 hS306) hW hb316 hx313
        (fun _ => rfl) rfl rfl (Nat.le_of_ble_eq_true rfl) rfl (fun c324 h322 hv325 hS323 => ?_)
    have hx326 := geti_set (x' := (IntKind.wrap .i64 (x312 + (mnI v_1.N (IntKind.wrap .i64 (x317 - x312)))))) hx313
    simp only [run_draw_nil, run_seq, run_reg, run_mv, run_ops_nil, run_ret, B0, reduceIte, reduceEqDiff]
    obtain ⟨c327, hv328, hS329⟩ := SlG.cls (e' := (Reader.mk x56.In x56.Generation x56.Share (List.set x56.Read v_1.Part.toNat (IntKind.wrap .i64 (x312 + (mnI v_1.N
        (IntKind.wrap .i64 (x317 - x312)))))))) (c := c279) (os := c287 ++ (c324)) hv282 rfl hx57 hk_nil (Reader.RI (x := (Reader.mk x56.In x56.Generation x56.Share
        (List.set x56.Read v_1.Part.toNat (IntKind.wrap .i64 (x312 + (mnI v_1.N (IntKind.wrap .i64 (x317 - x312)))))))) hv288 hv325) (Sep.ni2 (c1 := c287) (c2 := c324) (Sep.m3
        (Sep.m5 hS323)))
    have hx330 := geti_set (x' := (Reader.mk x56.In x56.Generation x56.Share (List.set x56.Read v_1.Part.toNat (IntKind.wrap .i64 (x312 + (mnI v_1.N (IntKind.wrap .i64
        (x317 - x312)))))))) hx57
    have hv331 := SlG.toN hv328
    have he := some_inj hF319
    subst he
    simp only [end_ret1, B0, reduceIte, reduceEqDiff]
    exact ⟨c327, pc0_2, pc0_3, by first | trivial | rfl, hv331, ph0_2, ph0_3, (Sep.m3 (Sep.m2 (Sep.m3 (Sep.m3 hS329))))⟩
  rw [iteF hc278] at hk88
  simp only [x52_19, run_seq, run_reg, f103, run_bin, put1_some, xeql, run_mv, run_ops_nil, x52_18, run_cond, B0, reduceIte, reduceEqDiff]
  refine cond_split (t := (decide (v_1.Kind = 5))) (fun hc332 => ?_) (fun hc332 => ?_)
  · rw [iteT hc332] at hk88
    simp only [x52_17, run_seq, run_draw, f102, d4_mv, put1d_some, d4_un, xnot, B0, reduceIte, reduceEqDiff]
    simp only [run_guardd (g := 197), B0, reduceIte, reduceEqDiff]
    refine guardd_split (t := (!(decide (x56.Generation = v_0.Generation)))) (fun hg333 => ?_) (fun hg333 => ?_)
    · rw [iteT hg333] at hk88
      simp only [hg333, run_guardd (g := 197), guardd_off', d4_pick, put1d_some, xpick_t, run_draw_nil, run_cond, cond_true, run_seq, run_reg, run_mv, run_ops_nil, run_ret, B0,
          reduceIte, reduceEqDiff]
      have he := some_inj hk88
      subst he
      simp only [end_ret1, B0, reduceIte, reduceEqDiff]
      exact ⟨c81, pc0_2, pc0_3, by first | trivial | rfl, hv84, ph0_2, ph0_3, (Sep.m3 (Sep.m3 (Sep.m3 (Sep.m3 hS98))))⟩
    rw [iteF hg333] at hk88
    obtain ⟨c334, cs335, os336, hv337, hR338, hS339⟩ := SlG.opn (SlN.toG hv84 hb60 Reader.RO.len) hx57 hk_nil Reader.RO.len (Sep.m1 hS98)
    obtain ⟨v341, c342, v345, c346, hv343, hv347, rfl, rfl⟩ := hR338
    have hS340 := Sep.no2 hS339
    simp only [hg333, run_guardd (g := 197), guardd_false, f101, d4_mv, put1d_some, d4_chk, xchk_ptr, d4_fa, Nat.reduceAdd, Nat.zero_add, Nat.add_zero, xfa_ptr, d4_ld, B0,
        reduceIte, reduceEqDiff]
    refine put1d_eq (v := v341) ((SlG.ld (o := 2) hv337 rfl hx57 hS340 (Nat.le_of_ble_eq_true rfl)).trans rfl) ?_
    simp only [hg333, run_guardd (g := 197), guardd_false, f100, d4_fa, put1d_some, Nat.reduceAdd, Nat.zero_add, Nat.add_zero, xfa_ref, d4_ld, B0, reduceIte, reduceEqDiff]
    refine put1d_eq (v := .int .i64 v_1.Part) rfl ?_
    obtain ⟨v349, hx350, hF351⟩ := bind_some' hk88
    simp only [hg333, run_guardd (g := 197), guardd_false, run_d3_call, B0, reduceIte, reduceEqDiff]
    refine call1d rfl (mapM1 (SlF.snap hv343 (Sep.m1 hS340) rfl (fun _ => rfl) (fun _ => rfl)) (mapM1 snap_int mapM0)) (slices_Contains_int_x
        (fun b hb => decide_eq_true hb) x56.Share v_1.Part v349 hx350) ?_
    simp only [hg333, run_guardd (g := 197), guardd_false, d4_un, put1d_some, xnot, d4_pick, xpick_f, run_draw_nil, run_cond, B0, reduceIte, reduceEqDiff]
    refine cond_split (t := (!v349)) (fun hc352 => ?_) (fun hc352 => ?_)
    · rw [iteT hc352] at hF351
      simp only [run_seq, run_reg, run_mv, run_ops_nil, run_ret, B0, reduceIte, reduceEqDiff]
      obtain ⟨c353, hv354, hS355⟩ := SlG.cls0 (c := c334) (os := c342 ++ (c346)) hv337 rfl hx57 hk_nil (Reader.RI (x := x56) hv343 hv347) (Sep.ni2 (c1 := c342) (c2 := c346)
          (Sep.m2 (Sep.m2 (Sep.m2 hS340))))
      have hv356 := SlG.toN hv354
      have he := some_inj hF351
      subst he
      simp only [end_ret1, B0, reduceIte, reduceEqDiff]
      exact ⟨c353, pc0_2, pc0_3, by first | trivial | rfl, hv356, ph0_2, ph0_3, (Sep.m3 (Sep.m2 (Sep.m3 (Sep.m3 hS355))))⟩
    rw [iteF hc352] at hF351
    simp only [run_skip, x52_16, run_seq, run_draw, f99, d4_mv, put1d_some, d4_chk, xchk_ptr, d4_fa, Nat.reduceAdd, Nat.zero_add, Nat.add_zero, xfa_ptr, d4_ld, B0, reduceIte,
        reduceEqDiff]
    refine put1d_eq (v := pv0_2) ((xld_b (Sep.bk _ _ _ (Sep.m3 hS340))).trans rfl) ?_
    simp only [f100, d4_fa, put1d_some, Nat.reduceAdd, Nat.zero_add, Nat.add_zero, xfa_ref, d4_ld, B0, reduceIte, reduceEqDiff]
    refine put1d_eq (v := .int .i64 v_1.Part) rfl ?_
    simp only [f99, d4_mv, put1d_some, d4_chk, xchk_ptr, d4_fa, Nat.reduceAdd, Nat.zero_add, Nat.add_zero, xfa_ptr, d4_ld, B0, reduceIte, reduceEqDiff]
    refine put1d_eq (v := pv0_2) ((xld_b (Sep.bk _ _ _ (Sep.m3 hS340))).trans rfl) ?_
    simp only [f100, d4_fa, put1d_some, Nat.reduceAdd, Nat.zero_add, Nat.add_zero, xfa_ref, d4_ld, B0, reduceIte, reduceEqDiff]
    refine put1d_eq (v := .int .i64 v_1.Part) rfl ?_
    obtain ⟨x357, hx358, hF359⟩ := bind_some' hF351
    simp only [d4_ia, B0, reduceIte, reduceEqDiff]
    obtain ⟨b360, hb361⟩ := SlF.isrow ph0_2 (geti_ne hx358)
    refine put1d_eq (SlF.ia ph0_2 hb361 hx358) ?_
    simp only [d4_ld, B0, reduceIte, reduceEqDiff]
    refine put1d_eq (v := .int .i64 x357) ((SlF.ld (o := 0) ph0_2 (Sep.m4 hS340) hb361 hx358 (fun _ => rfl) (Nat.le_of_ble_eq_true rfl)).trans rfl) ?_
    simp only [f101, d4_mv, put1d_some, d4_chk, xchk_ptr, d4_fa, Nat.reduceAdd, Nat.zero_add, Nat.add_zero, xfa_ptr, d4_ld, B0, reduceIte, reduceEqDiff]
    refine put1d_eq (v := v345) ((SlG.ld (o := 3) hv337 rfl hx57 hS340 (Nat.le_of_ble_eq_true rfl)).trans rfl) ?_
    simp only [f100, d4_fa, put1d_some, Nat.reduceAdd, Nat.zero_add, Nat.add_zero, xfa_ref, d4_ld, B0, reduceIte, reduceEqDiff]
    refine put1d_eq (v := .int .i64 v_1.Part) rfl ?_
    obtain ⟨x362, hx363, hF364⟩ := bind_some' hF359
    simp only [d4_ia, B0, reduceIte, reduceEqDiff]
    obtain ⟨b365, hb366⟩ := SlF.isrow hv347 (geti_ne hx363)
    refine put1d_eq (SlF.ia hv347 hb366 hx363) ?_
    simp only [d4_ld, B0, reduceIte, reduceEqDiff]
    refine put1d_eq (v := .int .i64 x362) ((SlF.ld (o := 0) hv347 (Sep.m2 hS340) hb366 hx363 (fun _ => rfl) (Nat.le_of_ble_eq_true rfl)).trans rfl) ?_
    simp only [d4_mnx, put1d_some, pmaxI, d4_ia, B0, reduceIte, reduceEqDiff]
    refine put1d_eq (SlF.ia ph0_2 hb361 hx358) ?_
    simp only [d3_st, B0, reduceIte, reduceEqDiff]
    refine put2d_stF (f := cI) (x' := (mxI x357 x362)) (o := 0) ph0_2 (Sep.m4 hS340) hW hb361 hx358 (fun _ => rfl) rfl rfl (Nat.le_of_ble_eq_true rfl) rfl
        (fun c369 h367 hv370 hS368 => ?_)
    have hx371 := geti_set (x' := (mxI x357 x362)) hx358
    simp only [run_draw_nil, run_seq, run_reg, run_mv, run_ops_nil, run_ret, B0, reduceIte, reduceEqDiff]
    obtain ⟨c372, hv373, hS374⟩ := SlG.cls0 (c := c334) (os := c342 ++ (c346)) hv337 rfl hx57 hk_nil (Reader.RI (x := x56) hv343 hv347) (Sep.ni2 (c1 := c342) (c2 := c346) (Sep.m3
        (Sep.m3 (Sep.m3 hS368))))
    have hv375 := SlG.toN hv373
    have he := some_inj hF364
    subst he
    simp only [end_ret1, B0, reduceIte, reduceEqDiff]
    exact ⟨c372, c369, pc0_3, by first | trivial | rfl, hv375, hv370, ph0_3, (Sep.m3 (Sep.m2 (Sep.m2 (Sep.m3 hS374))))⟩
  rw [iteF hc332] at hk88
  simp only [run_skip, run_blk, run_seq, run_reg, run_mv, run_ops_nil, run_ret, B0, reduceIte, reduceEqDiff]
  have he := some_inj hk88
  subst he
  simp only [end_ret1, B0, reduceIte, reduceEqDiff]
  exact ⟨c81, pc0_2, pc0_3, by first | trivial | rfl, hv84, ph0_2, ph0_3, (Sep.m3 (Sep.m3 (Sep.m3 (Sep.m3 hS98))))⟩
end Go.Proofs.Ytdhibknhejhfaaa.X
