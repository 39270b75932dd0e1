/- The functions' code comes to what the plain functions say (2). -/
import Derived.Test.YtefgfcalgjmhjaaXCH1
set_option linter.unusedVariables false
set_option linter.unusedSimpArgs false
set_option maxRecDepth 100000
namespace Go.Proofs.Ytefgfcalgjmhjaa.X
open Go
open Nat (reduceEqDiff)
theorem impl_Group_step_x {W : Nat → Bool} {h : Heap} {lo : Nat → Prop} {S0 : List Obj} (hW : ∀ b,
    lo b → W b = true) (k : Nat) (pb0 : Nat) (v_0 : Group) (pv0_2 : XV) (pc0_2 : List Obj) (ph0_2 : SlF cI 1 3 pv0_2 v_0.InStep pc0_2) (pv0_4 : XV) (pc0_4 : List Obj)
    (ph0_4 : SlN Replica.R 3 51 pv0_4 v_0.Replicas pc0_4) (v_1 : IsrStep) (r : Bool × Group) (hF : impl_Group_step k v_0 v_1 = some r) (hS : Sep h lo
    ([Blk1 pb0 [.int .i64 v_0.Epoch, .int .i64 v_0.Leader, pv0_2, .int .i64 v_0.High, pv0_4] 29] ++ (pc0_2 ++ (pc0_4 ++ (S0))))) : Ret E W 66 [.ptr pb0 0,
    .agg [.int .i64 v_1.Kind, .int .i64 v_1.K, .int .i64 v_1.N]] h (fun v h' => ∃ iv0_2 ic0_2 ic0_4,
    v = .bool r.1 ∧ SlF cI 1 3 iv0_2 r.2.InStep ic0_2 ∧ SlN Replica.R 3 51 pv0_4 r.2.Replicas ic0_4 ∧ Sep h' lo ([Blk1 pb0 [.int .i64 r.2.Epoch, .int .i64 r.2.Leader, iv0_2,
    .int .i64 r.2.High, pv0_4] 29] ++ (ic0_2 ++ (ic0_4 ++ (S0))))) := by
  refine Ret.of (fn := x66) rfl (Run.of ?_)
  unfold impl_Group_step at hF
  have zf0 : argFr [.ptr pb0 0, .agg [.int .i64 v_1.Kind, .int .i64 v_1.K, .int .i64 v_1.N]] 0 = .ptr pb0 0 := rfl
  have zf1 : argFr [.ptr pb0 0, .agg [.int .i64 v_1.Kind, .int .i64 v_1.K, .int .i64 v_1.N]] 1 = .agg [.int .i64 v_1.Kind, .int .i64 v_1.K, .int .i64 v_1.N] := rfl
  generalize argFr [.ptr pb0 0, .agg [.int .i64 v_1.Kind, .int .i64 v_1.K, .int .i64 v_1.N]] = fr0 at zf0 zf1 ⊢
  simp only [x66, run_seq, run_reg, run_box, zf1, B0, reduceIte, reduceEqDiff]
  refine put2_boxC (cs := [.int .i64 v_1.Kind, .int .i64 v_1.K, .int .i64 v_1.N]) hS rfl rfl rfl (fun b1 h2 hS3 => ?_)
  simp only [run_mv, run_ops_nil, B0, reduceIte, reduceEqDiff]
  refine frz_stepC hS3 hW (by simp only [B0, reduceIte, reduceEqDiff]) (fun h5 hS6 => ?_)
  simp only [run_frz_nil, x66_41, run_seq, run_reg, run_fa, put1_some, Nat.reduceAdd, Nat.zero_add, Nat.add_zero, xfa_ref, run_ld, B0, reduceIte, reduceEqDiff]
  refine put1_eq (v := .int .i64 v_1.Kind) rfl ?_
  simp only [run_bin, put1_some, xneq, run_mv, B0, reduceIte, reduceEqDiff]
  refine ops_j 4 (fun fr' h' => Sep h' lo ([Blk1 pb0 [.int .i64 v_0.Epoch, .int .i64 v_0.Leader, pv0_2, .int .i64 v_0.High,
      pv0_4] 29] ++ (pc0_2 ++ (pc0_4 ++ (S0)))) ∧ fr' 19 = .bool ((decide (v_1.Kind ≠ 2)) && (decide (v_1.Kind ≠ 3))) ∧ fr' 0 = .ptr pb0 0 ∧ fr' 3 = .ref [.int .i64 v_1.Kind,
      .int .i64 v_1.K, .int .i64 v_1.N] 0) (fun Q7 hN8 => ?_) ?_
  · simp only [List.take_succ_cons, List.take_zero]
    simp only [run_guard (g := 15), B0, reduceIte, reduceEqDiff]
    refine guard_split (t := (decide (v_1.Kind ≠ 2))) (fun hg9 => ?_) (fun hg9 => ?_)
    · simp only [hg9, run_guard (g := 15), guard_true, run_fa, put1_some, Nat.reduceAdd, Nat.zero_add, Nat.add_zero, xfa_ref, run_ld, B0, reduceIte, reduceEqDiff]
      refine put1_eq (v := .int .i64 v_1.Kind) rfl ?_
      simp only [hg9, run_guard (g := 15), guard_true, run_bin, put1_some, xneq, run_pick, xpick_t, run_ops_nil, run_nil, B0, reduceIte, reduceEqDiff]
      exact hN8 _ _ ⟨(Sep.m2 (Sep.m2 (Sep.m2 hS6))), by rw [andT hg9]; simp only [B0, reduceIte, reduceEqDiff], zf0, rfl⟩
    · simp only [hg9, run_guard (g := 15), guard_off, run_pick, put1_some, xpick_f, run_ops_nil, run_nil, B0, reduceIte, reduceEqDiff]
      exact hN8 _ _ ⟨(Sep.m2 (Sep.m2 (Sep.m2 hS6))), by rw [andF hg9]; simp only [B0, reduceIte, reduceEqDiff], zf0, rfl⟩
  rintro fr10 h14 ⟨hS15, f11, f12, f13⟩
  simp only [List.drop_succ_cons, List.drop_zero]
  simp only [f11, run_mv, B0, reduceIte, reduceEqDiff]
  refine ops_j 4 (fun fr' h' => Sep h' lo ([Blk1 pb0 [.int .i64 v_0.Epoch, .int .i64 v_0.Leader, pv0_2, .int .i64 v_0.High,
      pv0_4] 29] ++ (pc0_2 ++ (pc0_4 ++ (S0)))) ∧ fr' 24 = .bool (((decide (v_1.Kind ≠ 2)) && (decide (v_1.Kind ≠ 3))) && (decide
      (v_1.N ≠ 0))) ∧ fr' 0 = .ptr pb0 0 ∧ fr' 3 = .ref [.int .i64 v_1.Kind, .int .i64 v_1.K, .int .i64 v_1.N] 0) (fun Q16 hN17 => ?_) ?_
  · simp only [List.take_succ_cons, List.take_zero]
    simp only [run_guard (g := 20), B0, reduceIte, reduceEqDiff]
    refine guard_split (t := ((decide (v_1.Kind ≠ 2)) && (decide (v_1.Kind ≠ 3)))) (fun hg18 => ?_) (fun hg18 => ?_)
    · simp only [hg18, run_guard (g := 20), guard_true, f13, run_fa, put1_some, Nat.reduceAdd, Nat.zero_add, Nat.add_zero, xfa_ref, run_ld, B0, reduceIte, reduceEqDiff]
      refine put1_eq (v := .int .i64 v_1.N) rfl ?_
      simp only [hg18, run_guard (g := 20), guard_true, run_bin, put1_some, xneq, run_pick, xpick_t, run_ops_nil, run_nil, B0, reduceIte, reduceEqDiff]
      exact hN17 _ _ ⟨(Sep.m2 (Sep.m2 (Sep.m2 hS15))), by rw [andT hg18]; simp only [B0, reduceIte, reduceEqDiff], f12, f13⟩
    · simp only [hg18, run_guard (g := 20), guard_off, run_pick, put1_some, xpick_f, run_ops_nil, run_nil, B0, reduceIte, reduceEqDiff]
      exact hN17 _ _ ⟨(Sep.m2 (Sep.m2 (Sep.m2 hS15))), by rw [andF hg18]; simp only [B0, reduceIte, reduceEqDiff], f12, f13⟩
  rintro fr19 h23 ⟨hS24, f20, f21, f22⟩
  simp only [List.drop_succ_cons, List.drop_zero]
  simp only [run_ops_nil, f20, run_cond, B0, reduceIte, reduceEqDiff]
  refine cond_split (t := (((decide (v_1.Kind ≠ 2)) && (decide (v_1.Kind ≠ 3))) && (decide (v_1.N ≠ 0)))) (fun hc25 => ?_) (fun hc25 => ?_)
  · rw [iteT hc25] at hF
    simp only [run_seq, run_reg, run_mv, run_ops_nil, run_ret, B0, reduceIte, reduceEqDiff]
    have he := some_inj hF
    subst he
    simp only [end_ret1, B0, reduceIte, reduceEqDiff]
    exact ⟨pv0_2, pc0_2, pc0_4, by first | trivial | rfl, ph0_2, ph0_4, (Sep.m2 (Sep.m2 (Sep.m2 hS24)))⟩
  rw [iteF hc25] at hF
  simp only [run_skip, x66_40, run_seq, run_draw, f22, d4_fa, put1d_some, Nat.reduceAdd, Nat.zero_add, Nat.add_zero, xfa_ref, d4_ld, B0, reduceIte, reduceEqDiff]
  refine put1d_eq (v := .int .i64 v_1.K) rfl ?_
  simp only [f21, d4_mv, put1d_some, d4_chk, xchk_ptr, d4_fa, Nat.reduceAdd, Nat.zero_add, Nat.add_zero, xfa_ptr, d4_ld, B0, reduceIte, reduceEqDiff]
  refine put1d_eq (v := pv0_4) ((xld_b (Sep.bk _ _ _ hS24)).trans rfl) ?_
  simp only [d4_len, put1d_some, SlN.len ph0_4, d4_bin, xsub, run_d3_call, B0, reduceIte, reduceEqDiff]
  refine call1d rfl (mapM1 snap_int (mapM1 snap_int (mapM1 snap_int mapM0))) (impl_in_x (fun b hb => decide_eq_true hb) v_1.K 0 (IntKind.wrap .i64
      ((List.length v_0.Replicas : Int) - 1)) _ rfl) ?_
  simp only [d4_un, put1d_some, xnot, run_draw_nil, run_cond, B0, reduceIte, reduceEqDiff]
  refine cond_split (t := (!(impl_in v_1.K 0 (IntKind.wrap .i64 ((List.length v_0.Replicas : Int) - 1))))) (fun hc26 => ?_) (fun hc26 => ?_)
  · rw [iteT hc26] at hF
    simp only [run_seq, run_reg, run_mv, run_ops_nil, run_ret, B0, reduceIte, reduceEqDiff]
    have he := some_inj hF
    subst he
    simp only [end_ret1, B0, reduceIte, reduceEqDiff]
    exact ⟨pv0_2, pc0_2, pc0_4, by first | trivial | rfl, ph0_2, ph0_4, (Sep.m2 (Sep.m2 (Sep.m2 hS24)))⟩
  rw [iteF hc26] at hF
  simp only [run_skip, x66_39, run_seq, run_draw, f21, d4_mv, put1d_some, d4_chk, xchk_ptr, d4_fa, Nat.reduceAdd, Nat.zero_add, Nat.add_zero, xfa_ptr, d4_ld, B0, reduceIte,
      reduceEqDiff]
  refine put1d_eq (v := pv0_2) ((xld_b (Sep.bk _ _ _ hS24)).trans rfl) ?_
  simp only [f22, d4_fa, put1d_some, Nat.reduceAdd, Nat.zero_add, Nat.add_zero, xfa_ref, d4_ld, B0, reduceIte, reduceEqDiff]
  refine put1d_eq (v := .int .i64 v_1.K) rfl ?_
  obtain ⟨v27, hx28, hF29⟩ := bind_some' hF
  simp only [run_d3_call, B0, reduceIte, reduceEqDiff]
  refine call1d rfl (mapM1 (SlF.snap ph0_2 (Sep.m1 hS24) rfl (fun _ => rfl) (fun _ => rfl)) (mapM1 snap_int mapM0)) (slices_BinarySearch_int_x
      (fun b hb => decide_eq_true hb) k v_0.InStep v_1.K v27 hx28) ?_
  simp only [d4_mv, put1d_some, d4_ext, xext_0, xext_1, run_draw_nil, x66_38, run_seq, run_draw, f21, d4_chk, xchk_ptr, d4_fa, Nat.reduceAdd, Nat.zero_add, Nat.add_zero, xfa_ptr,
      d4_ld, B0, reduceIte, reduceEqDiff]
  refine put1d_eq (v := pv0_4) ((xld_b (Sep.bk _ _ _ hS24)).trans rfl) ?_
  simp only [f22, d4_fa, put1d_some, Nat.reduceAdd, Nat.zero_add, Nat.add_zero, xfa_ref, d4_ld, B0, reduceIte, reduceEqDiff]
  refine put1d_eq (v := .int .i64 v_1.K) rfl ?_
  obtain ⟨x30, hx31, hF32⟩ := bind_some' hF29
  simp only [d4_ia, B0, reduceIte, reduceEqDiff]
  obtain ⟨b33, hb34⟩ := SlN.isrow ph0_4 (geti_ne hx31)
  refine put1d_eq (SlN.ia ph0_4 hb34 hx31) ?_
  obtain ⟨c35, cs36, os37, hv38, hR39, hS40⟩ := SlG.opn (SlN.toG ph0_4 hb34 Replica.RO.len) hx31 hk_nil Replica.RO.len (Sep.m2 hS24)
  obtain ⟨v42, c43, hv44, rfl, rfl⟩ := hR39
  have hS41 := Sep.no1 hS40
  simp only [d4_ld, B0, reduceIte, reduceEqDiff]
  refine put1d_eq (v := .agg [v42, .int .i64 x30.Epoch, .int .i64 x30.Known]) ((SlG.lds (o := 0) hv38 rfl hx31 hS41 (Nat.le_of_ble_eq_true rfl)).trans rfl) ?_
  simp only [d4_new, B0, reduceIte, reduceEqDiff]
  refine put2d_newC hS41 (fun b46 h47 hS48 => ?_)
  simp only [d3_st, B0, reduceIte, reduceEqDiff]
  refine put2d_stCx (us := [v42, .int .i64 x30.Epoch, .int .i64 x30.Known]) rfl (cs' := [v42, .int .i64 x30.Epoch,
      .int .i64 x30.Known]) hS48 hW rfl (all_c (SlF.one hv44) (all_c rfl (all_c rfl all_n))) (Nat.le_of_ble_eq_true rfl) rfl (fun h50 hS51 => ?_)
  simp only [run_draw_nil, B0, reduceIte, reduceEqDiff]
  refine frz_stepC hS51 hW (by simp only [B0, reduceIte, reduceEqDiff]) (fun h52 hS53 => ?_)
  simp only [run_frz_nil, x66_37, run_seq, run_reg, f22, run_fa, put1_some, Nat.reduceAdd, Nat.zero_add, Nat.add_zero, xfa_ref, run_ld, B0, reduceIte, reduceEqDiff]
  refine put1_eq (v := .int .i64 v_1.Kind) rfl ?_
  simp only [run_ops_nil, x66_36, run_block, x66_35, run_seq, run_reg, run_bin, put1_some, xeql, run_mv, x66_34, run_cond, B0, reduceIte, reduceEqDiff]
  refine cond_split (t := (decide (v_1.Kind = 1))) (fun hc54 => ?_) (fun hc54 => ?_)
  · rw [iteT hc54] at hF32
    simp only [x66_4, run_seq, run_reg, run_mv, run_un, put1_some, xnot, B0, reduceIte, reduceEqDiff]
    refine ops_j 6 (fun fr' h' => Sep h' lo ([Blk1 pb0 [.int .i64 v_0.Epoch, .int .i64 v_0.Leader, pv0_2, .int .i64 v_0.High,
        pv0_4] 29] ++ (pc0_2 ++ (c35 ++ (c43 ++ (S0))))) ∧ fr' 65 = .bool ((!v27.2) || (decide (v_0.Epoch = 100))) ∧ fr' 0 = .ptr pb0 0 ∧ fr' 3 = .ref [.int .i64 v_1.Kind,
        .int .i64 v_1.K, .int .i64 v_1.N] 0) (fun Q55 hN56 => ?_) ?_
    · simp only [List.take_succ_cons, List.take_zero]
      simp only [run_guard (g := 59), B0, reduceIte, reduceEqDiff]
      refine guard_split (t := (!v27.2)) (fun hg57 => ?_) (fun hg57 => ?_)
      · simp only [hg57, run_guard (g := 59), guard_off', run_pick, put1_some, xpick_t, run_ops_nil, run_nil, B0, reduceIte, reduceEqDiff]
        exact hN56 _ _ ⟨(Sep.m3 (Sep.m3 (Sep.m1 (Sep.m1 hS53)))), by rw [orT hg57]; simp only [B0, reduceIte, reduceEqDiff], f21, f22⟩
      · simp only [hg57, run_guard (g := 59), guard_false, f21, run_mv, run_chk, put1_some, xchk_ptr, run_fa, Nat.reduceAdd, Nat.zero_add, Nat.add_zero, xfa_ptr, run_ld, B0,
          reduceIte, reduceEqDiff]
        refine put1_eq (v := .int .i64 v_0.Epoch) ((xld_b (Sep.bk _ _ _ (Sep.m2 hS53))).trans rfl) ?_
        simp only [hg57, run_guard (g := 59), guard_false, run_bin, put1_some, xeql, run_pick, xpick_f, run_ops_nil, run_nil, B0, reduceIte, reduceEqDiff]
        exact hN56 _ _ ⟨(Sep.m3 (Sep.m3 (Sep.m1 (Sep.m1 hS53)))), by rw [orF hg57]; simp only [B0, reduceIte, reduceEqDiff], f21, f22⟩
    rintro fr58 h62 ⟨hS63, f59, f60, f61⟩
    simp only [List.drop_succ_cons, List.drop_zero]
    simp only [run_ops_nil, f59, run_cond, B0, reduceIte, reduceEqDiff]
    refine cond_split (t := ((!v27.2) || (decide (v_0.Epoch = 100)))) (fun hc64 => ?_) (fun hc64 => ?_)
    · rw [iteT hc64] at hF32
      simp only [run_seq, run_reg, run_mv, run_ops_nil, run_ret, B0, reduceIte, reduceEqDiff]
      obtain ⟨c65, hv66, hS67⟩ := SlG.cls0 (c := c35) (os := c43) hv38 rfl hx31 hk_nil (Replica.RI (x := x30) hv44) (Sep.m3 (Sep.m3 hS63))
      have hv68 := SlG.toN hv66
      have he := some_inj hF32
      subst he
      simp only [end_ret1, B0, reduceIte, reduceEqDiff]
      exact ⟨pv0_2, pc0_2, c65, by first | trivial | rfl, ph0_2, hv68, (Sep.m2 (Sep.m2 hS67))⟩
    rw [iteF hc64] at hF32
    simp only [run_skip, x66_3, run_seq, run_reg, f60, run_mv, run_chk, put1_some, xchk_ptr, run_fa, Nat.reduceAdd, Nat.zero_add, Nat.add_zero, xfa_ptr, run_ld, B0, reduceIte,
        reduceEqDiff]
    refine put1_eq (v := .int .i64 v_0.Epoch) ((xld_b (Sep.bk _ _ _ hS63)).trans rfl) ?_
    simp only [run_bin, put1_some, xadd, run_chk, xchk_ptr, run_fa, Nat.reduceAdd, Nat.zero_add, Nat.add_zero, xfa_ptr, run_st, B0, reduceIte, reduceEqDiff]
    refine put2_stCx (us := [.int .i64 (IntKind.wrap .i64 (v_0.Epoch + 1))]) rfl (cs' := [.int .i64 (IntKind.wrap .i64 (v_0.Epoch + 1)), .int .i64 v_0.Leader, pv0_2,
        .int .i64 v_0.High, pv0_4]) hS63 hW rfl rfl (Nat.le_of_ble_eq_true rfl) rfl (fun h69 hS70 => ?_)
    simp only [run_ops_nil, x66_2, run_seq, run_reg, f60, run_mv, f61, run_fa, put1_some, Nat.reduceAdd, Nat.zero_add, Nat.add_zero, xfa_ref, run_ld, B0, reduceIte, reduceEqDiff]
    refine put1_eq (v := .int .i64 v_1.K) rfl ?_
    simp only [run_chk, put1_some, xchk_ptr, run_fa, Nat.reduceAdd, Nat.zero_add, Nat.add_zero, xfa_ptr, run_st, B0, reduceIte, reduceEqDiff]
    refine put2_stCx (us := [.int .i64 v_1.K]) rfl (cs' := [.int .i64 (IntKind.wrap .i64 (v_0.Epoch + 1)), .int .i64 v_1.K, pv0_2, .int .i64 v_0.High,
        pv0_4]) hS70 hW rfl rfl (Nat.le_of_ble_eq_true rfl) rfl (fun h71 hS72 => ?_)
    simp only [run_ops_nil, x66_1, run_seq, run_reg, f60, run_mv, f61, run_fa, put1_some, Nat.reduceAdd, Nat.zero_add, Nat.add_zero, xfa_ref, run_ld, B0, reduceIte, reduceEqDiff]
    refine put1_eq (v := .int .i64 v_1.K) rfl ?_
    obtain ⟨c73, hv74, hS75⟩ := SlG.cls0 (c := c35) (os := c43) hv38 rfl hx31 hk_nil (Replica.RI (x := x30) hv44) (Sep.m3 (Sep.m3 hS72))
    have hv76 := SlG.toN hv74
    obtain ⟨v77, hx78, hF79⟩ := bind_some' hF32
    simp only [run_call, B0, reduceIte, reduceEqDiff]
    refine call0 rfl (impl_Group_know_x hW pb0 (Group.mk (IntKind.wrap .i64
        (v_0.Epoch + 1)) v_1.K v_0.InStep v_0.High v_0.Replicas) pv0_2 pc0_2 ph0_2 pv0_4 c73 hv76 v_1.K v77 hx78 (Sep.m2 (Sep.m2 hS75))) ?_
    rintro _ h84 ⟨c80, c82, rfl, hv81, hv83, hS85⟩
    simp only [run_ops_nil, run_seq, run_reg, run_mv, run_ret, B0, reduceIte, reduceEqDiff]
    have he := some_inj hF79
    subst he
    simp only [end_ret1, B0, reduceIte, reduceEqDiff]
    exact ⟨pv0_2, c80, c82, by first | trivial | rfl, hv81, hv83, (Sep.m2 (Sep.m2 (Sep.m2 hS85)))⟩
  rw [iteF hc54] at hF32
  simp only [x66_33, run_seq, run_reg, run_bin, put1_some, xeql, run_mv, run_ops_nil, x66_32, run_cond, B0, reduceIte, reduceEqDiff]
  refine cond_split (t := (decide (v_1.Kind = 2))) (fun hc86 => ?_) (fun hc86 => ?_)
  · rw [iteT hc86] at hF32
    simp only [x66_8, run_seq, run_draw, f21, d4_mv, put1d_some, d4_chk, xchk_ptr, d4_fa, Nat.reduceAdd, Nat.zero_add, Nat.add_zero, xfa_ptr, d4_ld, B0, reduceIte, reduceEqDiff]
    refine put1d_eq (v := pv0_4) ((xld_b (Sep.bk _ _ _ (Sep.m2 hS53))).trans rfl) ?_
    simp only [f21, d4_mv, put1d_some, d4_chk, xchk_ptr, d4_fa, Nat.reduceAdd, Nat.zero_add, Nat.add_zero, xfa_ptr, d4_ld, B0, reduceIte, reduceEqDiff]
    refine put1d_eq (v := .int .i64 v_0.Leader) ((xld_b (Sep.bk _ _ _ (Sep.m2 hS53))).trans rfl) ?_
    obtain ⟨x87, hx88, hF89⟩ := bind_some' hF32
    simp only [d4_ia, B0, reduceIte, reduceEqDiff]
    refine put1d_eq (SlG.ia hv38 hx88) ?_
    simp only [d4_mv, put1d_some, run_draw_nil, x66_7, run_seq, run_reg, f22, run_fa, put1_some, Nat.reduceAdd, Nat.zero_add, Nat.add_zero, xfa_ref, run_ld, B0, reduceIte,
        reduceEqDiff]
    refine put1_eq (v := .int .i64 v_1.K) rfl ?_
    simp only [run_bin, put1_some, xneq, run_mv, B0, reduceIte, reduceEqDiff]
    refine ops_j 5 (fun fr' h' => Sep h' lo ([Blk1 pb0 [.int .i64 v_0.Epoch, .int .i64 v_0.Leader, pv0_2, .int .i64 v_0.High,
        pv0_4] 29] ++ (c35 ++ (pc0_2 ++ (c43 ++ (S0))))) ∧ fr' 101 = .bool ((decide (v_1.K ≠ 0)) ||
        (!(impl_in v_1.N 0 99))) ∧ fr' 0 = .ptr pb0 0 ∧ fr' 3 = .ref [.int .i64 v_1.Kind, .int .i64 v_1.K,
        .int .i64 v_1.N] 0 ∧ fr' 8 = .ptr b33 (v_0.Leader.toNat * 3)) (fun Q90 hN91 => ?_) ?_
    · simp only [List.take_succ_cons, List.take_zero]
      simp only [run_guard (g := 96), B0, reduceIte, reduceEqDiff]
      refine guard_split (t := (decide (v_1.K ≠ 0))) (fun hg92 => ?_) (fun hg92 => ?_)
      · simp only [hg92, run_guard (g := 96), guard_off', run_pick, put1_some, xpick_t, run_ops_nil, run_nil, B0, reduceIte, reduceEqDiff]
        exact hN91 _ _ ⟨(Sep.m3 (Sep.m2 (Sep.m3 (Sep.m1 hS53)))), by rw [orT hg92]; simp only [B0, reduceIte, reduceEqDiff], f21, f22, rfl⟩
      · simp only [hg92, run_guard (g := 96), guard_false, f22, run_fa, put1_some, Nat.reduceAdd, Nat.zero_add, Nat.add_zero, xfa_ref, run_ld, B0, reduceIte, reduceEqDiff]
        refine put1_eq (v := .int .i64 v_1.N) rfl ?_
        simp only [hg92, run_guard (g := 96), guard_false, run_call, B0, reduceIte, reduceEqDiff]
        refine call1 rfl (mapM1 snap_int (mapM1 snap_int (mapM1 snap_int mapM0))) (impl_in_x (fun b hb => decide_eq_true hb) v_1.N 0 99 _ rfl) ?_
        simp only [hg92, run_guard (g := 96), guard_false, run_un, put1_some, xnot, run_pick, xpick_f, run_ops_nil, run_nil, B0, reduceIte, reduceEqDiff]
        exact hN91 _ _ ⟨(Sep.m3 (Sep.m2 (Sep.m3 (Sep.m1 hS53)))), by rw [orF hg92]; simp only [B0, reduceIte, reduceEqDiff], f21, f22, rfl⟩
    rintro fr93 h98 ⟨hS99, f94, f95, f96, f97⟩
    simp only [List.drop_succ_cons, List.drop_zero]
    simp only [f94, run_mv, B0, reduceIte, reduceEqDiff]
    refine ops_j 7 (fun fr' h' => Sep h' lo ([Blk1 pb0 [.int .i64 v_0.Epoch, .int .i64 v_0.Leader, pv0_2, .int .i64 v_0.High,
        pv0_4] 29] ++ (c35 ++ (pc0_2 ++ (c43 ++ (S0))))) ∧ fr' 109 = .bool (((decide (v_1.K ≠ 0)) || (!(impl_in v_1.N 0 99))) || (decide
        ((List.length x87.Log : Int) = 30))) ∧ fr' 0 = .ptr pb0 0 ∧ fr' 3 = .ref [.int .i64 v_1.Kind, .int .i64 v_1.K,
        .int .i64 v_1.N] 0 ∧ fr' 8 = .ptr b33 (v_0.Leader.toNat * 3)) (fun Q100 hN101 => ?_) ?_
    · simp only [List.take_succ_cons, List.take_zero]
      simp only [run_guard (g := 102), B0, reduceIte, reduceEqDiff]
      refine guard_split (t := ((decide (v_1.K ≠ 0)) || (!(impl_in v_1.N 0 99)))) (fun hg102 => ?_) (fun hg102 => ?_)
      · simp only [hg102, run_guard (g := 102), guard_off', run_pick, put1_some, xpick_t, run_ops_nil, run_nil, B0, reduceIte, reduceEqDiff]
        exact hN101 _ _ ⟨(Sep.m3 (Sep.m3 (Sep.m3 (Sep.m3 hS99)))), by rw [orT hg102]; simp only [B0, reduceIte, reduceEqDiff], f95, f96, f97⟩
      · obtain ⟨c103, hv104, hS105⟩ := SlG.cls0 (c := c35) (os := c43) hv38 rfl hx31 hk_nil (Replica.RI (x := x30) hv44) (Sep.m2 (Sep.m3 hS99))
        have hv106 := SlG.toN hv104
        obtain ⟨c107, cs108, os109, hv110, hR111, hS112⟩ := SlG.opn (SlN.toG hv106 hb34 Replica.RO.len) hx88 hk_nil Replica.RO.len hS105
        obtain ⟨v114, c115, hv116, rfl, rfl⟩ := hR111
        have hS113 := Sep.no1 hS112
        simp only [hg102, run_guard (g := 102), guard_false, f97, run_mv, run_chk, put1_some, xchk_ptr, run_fa, Nat.reduceAdd, Nat.zero_add, Nat.add_zero, xfa_ptr, run_ld, B0,
            reduceIte, reduceEqDiff]
        refine put1_eq (v := v114) ((SlG.ld (o := 0) hv110 rfl hx88 hS113 (Nat.le_of_ble_eq_true rfl)).trans rfl) ?_
        simp only [hg102, run_guard (g := 102), guard_false, run_len, put1_some, SlF.plen hv116, run_bin, xeql, run_pick, xpick_f, run_ops_nil, run_nil, B0, reduceIte,
            reduceEqDiff]
        exact hN101 _ _ ⟨(Sep.m3 (Sep.m3 (Sep.m3 (Sep.m3 hS99)))), by rw [orF hg102]; simp only [B0, reduceIte, reduceEqDiff], f95, f96, f97⟩
    rintro fr118 h123 ⟨hS124, f119, f120, f121, f122⟩
    simp only [List.drop_succ_cons, List.drop_zero]
    simp only [run_ops_nil, f119, run_cond, B0, reduceIte, reduceEqDiff]
    refine cond_split (t := (((decide (v_1.K ≠ 0)) || (!(impl_in v_1.N 0 99))) || (decide ((List.length x87.Log : Int) = 30)))) (fun hc125 => ?_) (fun hc125 => ?_)
    · rw [iteT hc125] at hF89
      simp only [run_seq, run_reg, run_mv, run_ops_nil, run_ret, B0, reduceIte, reduceEqDiff]
      obtain ⟨c126, hv127, hS128⟩ := SlG.cls0 (c := c35) (os := c43) hv38 rfl hx31 hk_nil (Replica.RI (x := x30) hv44) (Sep.m2 (Sep.m3 hS124))
      have hv129 := SlG.toN hv127
      have he := some_inj hF89
      subst he
      simp only [end_ret1, B0, reduceIte, reduceEqDiff]
      exact ⟨pv0_2, pc0_2, c126, by first | trivial | rfl, ph0_2, hv129, (Sep.m2 (Sep.m2 hS128))⟩
    rw [iteF hc125] at hF89
    obtain ⟨c130, hv131, hS132⟩ := SlG.cls0 (c := c35) (os := c43) hv38 rfl hx31 hk_nil (Replica.RI (x := x30) hv44) (Sep.m2 (Sep.m3 hS124))
    have hv133 := SlG.toN hv131
    obtain ⟨c134, cs135, os136, hv137, hR138, hS139⟩ := SlG.opn (SlN.toG hv133 hb34 Replica.RO.len) hx88 hk_nil Replica.RO.len hS132
    obtain ⟨v141, c142, hv143, rfl, rfl⟩ := hR138
    have hS140 := Sep.no1 hS139
    simp only [run_skip, x66_6, run_seq, run_draw, f122, d1_mv, put1d_some, d4_mv, d4_chk, xchk_ptr, d4_fa, Nat.reduceAdd, Nat.zero_add, Nat.add_zero, xfa_ptr, d4_ld, B0,
        reduceIte, reduceEqDiff]
    refine put1d_eq (v := v141) ((SlG.ld (o := 0) hv137 rfl hx88 hS140 (Nat.le_of_ble_eq_true rfl)).trans rfl) ?_
    simp only [f120, d4_mv, put1d_some, d4_chk, xchk_ptr, d4_fa, Nat.reduceAdd, Nat.zero_add, Nat.add_zero, xfa_ptr, d4_ld, B0, reduceIte, reduceEqDiff]
    refine put1d_eq (v := .int .i64 v_0.Epoch) ((xld_b (Sep.bk _ _ _ (Sep.m2 hS140))).trans rfl) ?_
    simp only [f121, d4_fa, put1d_some, Nat.reduceAdd, Nat.zero_add, Nat.add_zero, xfa_ref, d4_ld, B0, reduceIte, reduceEqDiff]
    refine put1d_eq (v := .int .i64 v_1.N) rfl ?_
    simp only [d4_build, evp, B0, reduceIte, reduceEqDiff]
    refine put1d_eq (v := .agg [.int .i64 v_0.Epoch, .int .i64 v_1.N]) rfl ?_
    simp only [d4_buildS, evp, B0, reduceIte, reduceEqDiff]
    refine put2d_buildSF (n := 2) (f := Row.cells) [(Row.mk v_0.Epoch v_1.N)] hS140 rfl rfl (fun v145 c146 h147 hv148 hS149 => ?_)
    simp only [d3_app, B0, reduceIte, reduceEqDiff]
    obtain ⟨l151, hx152, hF153⟩ := bind_some' hF89
    refine put2d_appF (f := Row.cells) hv143 (Sep.m2 hS149) hW (fun _ => rfl) (fun _ => rfl) (SlF.first hv148 hS149 (fun _ => rfl)) hx152 (fun v154 c155 h156 hv157 hS158 => ?_)
    simp only [d4_chk, put1d_some, xchk_ptr, d4_fa, Nat.reduceAdd, Nat.zero_add, Nat.add_zero, xfa_ptr, d3_st, B0, reduceIte, reduceEqDiff]
    refine put2d_stGx (us := [v154]) (o := 0) (cs' := [v154, .int .i64 x87.Epoch,
        .int .i64 x87.Known]) (cells_one (SlF.one hv157)) hv137 rfl hx88 (Sep.m2 hS158) hW rfl (all_c (SlF.one hv157) all_n) (Nat.le_of_ble_eq_true rfl) rfl
        (fun c162 h160 hv163 hS161 => ?_)
    simp only [run_draw_nil, x66_5, run_seq, run_reg, f120, run_mv, run_chk, put1_some, xchk_ptr, run_fa, Nat.reduceAdd, Nat.zero_add, Nat.add_zero, xfa_ptr, run_ld, B0,
        reduceIte, reduceEqDiff]
    refine put1_eq (v := .int .i64 v_0.Leader) ((xld_b (Sep.bk _ _ _ (Sep.m3 hS161))).trans rfl) ?_
    obtain ⟨c164, hv165, hS166⟩ := SlG.cls (e' := (Replica.mk l151 x87.Epoch x87.Known)) (c := c162) (os := c155) hv163 rfl hx88 hk_nil (Replica.RI (x :=
        (Replica.mk l151 x87.Epoch x87.Known)) hv157) (Sep.m1 (Sep.m1 hS161))
    have hx167 := geti_set (x' := (Replica.mk l151 x87.Epoch x87.Known)) hx88
    have hv168 := SlG.toN hv165
    obtain ⟨v169, hx170, hF171⟩ := bind_some' hF153
    simp only [run_call, B0, reduceIte, reduceEqDiff]
    refine call0 rfl (impl_Group_know_x hW pb0 (Group.mk v_0.Epoch v_0.Leader v_0.InStep v_0.High (List.set v_0.Replicas v_0.Leader.toNat
        (Replica.mk l151 x87.Epoch x87.Known))) pv0_2 pc0_2 ph0_2 pv0_4 c164 hv168 v_0.Leader v169 hx170 (Sep.m3 (Sep.m3 hS166))) ?_
    rintro _ h176 ⟨c172, c174, rfl, hv173, hv175, hS177⟩
    simp only [run_ops_nil, run_seq, run_reg, run_mv, run_ret, B0, reduceIte, reduceEqDiff]
    have he := some_inj hF171
    subst he
    simp only [end_ret1, B0, reduceIte, reduceEqDiff]
    exact ⟨pv0_2, c172, c174, by first | trivial | rfl, hv173, hv175, (Sep.m2 (Sep.m2 (Sep.m2 (Sep.dc (Sep.m3 hS177)))))⟩
  rw [iteF hc86] at hF32
  simp only [x66_31, run_seq, run_reg, run_bin, put1_some, xeql, run_mv, run_ops_nil, x66_30, run_cond, B0, reduceIte, reduceEqDiff]
  refine cond_split (t := (decide (v_1.Kind = 3))) (fun hc178 => ?_) (fun hc178 => ?_)
  · rw [iteT hc178] at hF32
    simp only [x66_10, run_seq, run_draw, f22, d4_fa, put1d_some, Nat.reduceAdd, Nat.zero_add, Nat.add_zero, xfa_ref, d4_ld, B0, reduceIte, reduceEqDiff]
    refine put1d_eq (v := .int .i64 v_1.K) rfl ?_
    simp only [f21, d4_mv, put1d_some, d4_chk, xchk_ptr, d4_fa, Nat.reduceAdd, Nat.zero_add, Nat.add_zero, xfa_ptr, d4_ld, B0, reduceIte, reduceEqDiff]
    refine put1d_eq (v := .int .i64 v_0.Leader) ((xld_b (Sep.bk _ _ _ (Sep.m2 hS53))).trans rfl) ?_
    simp only [d4_bin, put1d_some, xeql, d4_mv, B0, reduceIte, reduceEqDiff]
    simp only [run_guardd (g := 141), B0, reduceIte, reduceEqDiff]
    refine guardd_split (t := (decide (v_1.K = v_0.Leader))) (fun hg179 => ?_) (fun hg179 => ?_)
    · rw [iteT hg179] at hF32
      simp only [hg179, run_guardd (g := 141), guardd_off', d4_pick, put1d_some, xpick_t, run_draw_nil, run_cond, cond_true, run_seq, run_reg, run_mv, run_ops_nil, run_ret, B0,
          reduceIte, reduceEqDiff]
      obtain ⟨c180, hv181, hS182⟩ := SlG.cls0 (c := c35) (os := c43) hv38 rfl hx31 hk_nil (Replica.RI (x := x30) hv44) (Sep.m1 (Sep.m1 hS53))
      have hv183 := SlG.toN hv181
      have he := some_inj hF32
      subst he
      simp only [end_ret1, B0, reduceIte, reduceEqDiff]
      exact ⟨pv0_2, pc0_2, c180, by first | trivial | rfl, ph0_2, hv183, (Sep.m2 (Sep.m2 hS182))⟩
    rw [iteF hg179] at hF32
    simp only [hg179, run_guardd (g := 141), guardd_false, f22, d4_fa, put1d_some, Nat.reduceAdd, Nat.zero_add, Nat.add_zero, xfa_ref, d4_ld, B0, reduceIte, reduceEqDiff]
    refine put1d_eq (v := .int .i64 v_1.N) rfl ?_
    simp only [hg179, run_guardd (g := 141), guardd_false, run_d3_call, B0, reduceIte, reduceEqDiff]
    refine call1d rfl (mapM1 snap_int (mapM1 snap_int (mapM1 snap_int mapM0))) (impl_in_x (fun b hb => decide_eq_true hb) v_1.N 0 30 _ rfl) ?_
    simp only [hg179, run_guardd (g := 141), guardd_false, d4_un, put1d_some, xnot, d4_pick, xpick_f, run_draw_nil, run_cond, B0, reduceIte, reduceEqDiff]
    refine cond_split (t := (!(impl_in v_1.N 0 30))) (fun hc184 => ?_) (fun hc184 => ?_)
    · rw [iteT hc184] at hF32
      simp only [run_seq, run_reg, run_mv, run_ops_nil, run_ret, B0, reduceIte, reduceEqDiff]
      obtain ⟨c185, hv186, hS187⟩ := SlG.cls0 (c := c35) (os := c43) hv38 rfl hx31 hk_nil (Replica.RI (x := x30) hv44) (Sep.m1 (Sep.m1 hS53))
      have hv188 := SlG.toN hv186
      have he := some_inj hF32
      subst he
      simp only [end_ret1, B0, reduceIte, reduceEqDiff]
      exact ⟨pv0_2, pc0_2, c185, by first | trivial | rfl, ph0_2, hv188, (Sep.m2 (Sep.m2 hS187))⟩
    rw [iteF hc184] at hF32
    simp only [run_skip, x66_9, run_seq, run_reg, f21, run_mv, f22, run_fa, put1_some, Nat.reduceAdd, Nat.zero_add, Nat.add_zero, xfa_ref, run_ld, B0, reduceIte, reduceEqDiff]
    refine put1_eq (v := .int .i64 v_1.K) rfl ?_
    simp only [f22, run_fa, put1_some, Nat.reduceAdd, Nat.zero_add, Nat.add_zero, xfa_ref, run_ld, B0, reduceIte, reduceEqDiff]
    refine put1_eq (v := .int .i64 v_1.N) rfl ?_
    obtain ⟨c189, hv190, hS191⟩ := SlG.cls0 (c := c35) (os := c43) hv38 rfl hx31 hk_nil (Replica.RI (x := x30) hv44) (Sep.m1 (Sep.m1 hS53))
    have hv192 := SlG.toN hv190
    obtain ⟨v193, hx194, hF195⟩ := bind_some' hF32
    simp only [run_call, B0, reduceIte, reduceEqDiff]
    refine call0 rfl (impl_Group_fetch_x hW k pb0 v_0 pv0_2 pc0_2 ph0_2 pv0_4 c189 hv192 v_1.K v_1.N v193 hx194 (Sep.m2 (Sep.m2 hS191))) ?_
    rintro _ h200 ⟨c196, c198, rfl, hv197, hv199, hS201⟩
    simp only [run_ops_nil, run_seq, run_reg, run_mv, run_ret, B0, reduceIte, reduceEqDiff]
    have he := some_inj hF195
    subst he
    simp only [end_ret1, B0, reduceIte, reduceEqDiff]
    exact ⟨pv0_2, c196, c198, by first | trivial | rfl, hv197, hv199, (Sep.m2 (Sep.m2 (Sep.m2 hS201)))⟩
  rw [iteF hc178] at hF32
  simp only [x66_29, run_seq, run_reg, run_bin, put1_some, xeql, run_mv, run_ops_nil, x66_28, run_cond, B0, reduceIte, reduceEqDiff]
  refine cond_split (t := (decide (v_1.Kind = 4))) (fun hc202 => ?_) (fun hc202 => ?_)
  · rw [iteT hc202] at hF32
    simp only [x66_12, run_seq, run_draw, d4_mv, put1d_some, d4_un, xnot, B0, reduceIte, reduceEqDiff]
    refine draw_j 8 (fun fr' h' => Sep h' lo ([Blk1 pb0 [.int .i64 v_0.Epoch, .int .i64 v_0.Leader, pv0_2, .int .i64 v_0.High,
        pv0_4] 29] ++ (pc0_2 ++ (c35 ++ (c43 ++ (S0))))) ∧ fr' 165 = .bool ((!v27.2) || (decide (v_1.K = v_0.Leader))) ∧ fr' 0 = .ptr pb0 0 ∧ fr' 5 = .int .i64 v27.1) rfl
        (fun Q203 hN204 => ?_) ?_
    · simp only [List.take_succ_cons, List.take_zero]
      simp only [run_guardd (g := 157), B0, reduceIte, reduceEqDiff]
      refine guardd_split (t := (!v27.2)) (fun hg205 => ?_) (fun hg205 => ?_)
      · simp only [hg205, run_guardd (g := 157), guardd_off', d4_pick, put1d_some, xpick_t, run_draw_nil, run_nil, B0, reduceIte, reduceEqDiff]
        exact hN204 _ _ ⟨(Sep.m3 (Sep.m3 (Sep.m1 (Sep.m1 hS53)))), by rw [orT hg205]; simp only [B0, reduceIte, reduceEqDiff], f21, rfl⟩
      · simp only [hg205, run_guardd (g := 157), guardd_false, f22, d4_fa, put1d_some, Nat.reduceAdd, Nat.zero_add, Nat.add_zero, xfa_ref, d4_ld, B0, reduceIte, reduceEqDiff]
        refine put1d_eq (v := .int .i64 v_1.K) rfl ?_
        simp only [hg205, run_guardd (g := 157), guardd_false, f21, d4_mv, put1d_some, d4_chk, xchk_ptr, d4_fa, Nat.reduceAdd, Nat.zero_add, Nat.add_zero, xfa_ptr, d4_ld, B0,
            reduceIte, reduceEqDiff]
        refine put1d_eq (v := .int .i64 v_0.Leader) ((xld_b (Sep.bk _ _ _ (Sep.m2 hS53))).trans rfl) ?_
        simp only [hg205, run_guardd (g := 157), guardd_false, d4_bin, put1d_some, xeql, d4_pick, xpick_f, run_draw_nil, run_nil, B0, reduceIte, reduceEqDiff]
        exact hN204 _ _ ⟨(Sep.m3 (Sep.m3 (Sep.m1 (Sep.m1 hS53)))), by rw [orF hg205]; simp only [B0, reduceIte, reduceEqDiff], f21, rfl⟩
    rintro fr206 h210 ⟨hS211, f207, f208, f209⟩
    simp only [List.drop_succ_cons, List.drop_zero]
    simp only [run_draw_nil, f207, run_cond, B0, reduceIte, reduceEqDiff]
    refine cond_split (t := ((!v27.2) || (decide (v_1.K = v_0.Leader)))) (fun hc212 => ?_) (fun hc212 => ?_)
    · rw [iteT hc212] at hF32
      simp only [run_seq, run_reg, run_mv, run_ops_nil, run_ret, B0, reduceIte, reduceEqDiff]
      obtain ⟨c213, hv214, hS215⟩ := SlG.cls0 (c := c35) (os := c43) hv38 rfl hx31 hk_nil (Replica.RI (x := x30) hv44) (Sep.m3 (Sep.m3 hS211))
      have hv216 := SlG.toN hv214
      have he := some_inj hF32
      subst he
      simp only [end_ret1, B0, reduceIte, reduceEqDiff]
      exact ⟨pv0_2, pc0_2, c213, by first | trivial | rfl, ph0_2, hv216, (Sep.m2 (Sep.m2 hS215))⟩
    rw [iteF hc212] at hF32
    simp only [run_skip, x66_11, run_seq, run_reg, f208, run_mv, run_chk, put1_some, xchk_ptr, run_fa, Nat.reduceAdd, Nat.zero_add, Nat.add_zero, xfa_ptr, run_ld, B0, reduceIte,
        reduceEqDiff]
    refine put1_eq (v := pv0_2) ((xld_b (Sep.bk _ _ _ hS211)).trans rfl) ?_
    obtain ⟨v217, hx218, hF219⟩ := bind_some' hF32
    simp only [f209, run_mv, run_bin, put1_some, xadd, run_call, B0, reduceIte, reduceEqDiff]
    refine call0 rfl (slices_Delete_int_x hW pv0_2 pc0_2 v_0.InStep ph0_2 v27.1 (IntKind.wrap .i64 (v27.1 + 1)) v217 hx218 (Sep.m1 hS211)) ?_
    rintro v220 h224 ⟨_, c221, rfl, hv222, hS225⟩
    simp only [run_chk, put1_some, xchk_ptr, run_fa, Nat.reduceAdd, Nat.zero_add, Nat.add_zero, xfa_ptr, run_st, B0, reduceIte, reduceEqDiff]
    refine put2_stCx (us := [v220]) (cells_one (SlF.one hv222)) (cs' := [.int .i64 v_0.Epoch, .int .i64 v_0.Leader, v220, .int .i64 v_0.High,
        pv0_4]) (Sep.m1 hS225) hW rfl (all_c (SlF.one hv222) all_n) (Nat.le_of_ble_eq_true rfl) rfl (fun h226 hS227 => ?_)
    simp only [run_ops_nil, run_seq, run_reg, run_mv, run_ret, B0, reduceIte, reduceEqDiff]
    obtain ⟨c228, hv229, hS230⟩ := SlG.cls0 (c := c35) (os := c43) hv38 rfl hx31 hk_nil (Replica.RI (x := x30) hv44) (Sep.m3 (Sep.m3 hS227))
    have hv231 := SlG.toN hv229
    have he := some_inj hF219
    subst he
    simp only [end_ret1, B0, reduceIte, reduceEqDiff]
    exact ⟨v220, c221, c228, by first | trivial | rfl, hv222, hv231, (Sep.m2 (Sep.m2 hS230))⟩
  rw [iteF hc202] at hF32
  simp only [x66_27, run_seq, run_reg, run_bin, put1_some, xeql, run_mv, run_ops_nil, x66_26, run_cond, B0, reduceIte, reduceEqDiff]
  refine cond_split (t := (decide (v_1.Kind = 5))) (fun hc232 => ?_) (fun hc232 => ?_)
  · rw [iteT hc232] at hF32
    simp only [x66_14, run_seq, run_draw, d4_mv, put1d_some, B0, reduceIte, reduceEqDiff]
    refine draw_j 8 (fun fr' h' => Sep h' lo ([Blk1 pb0 [.int .i64 v_0.Epoch, .int .i64 v_0.Leader, pv0_2, .int .i64 v_0.High,
        pv0_4] 29] ++ (c43 ++ (pc0_2 ++ (c35 ++ (S0))))) ∧ fr' 188 = .bool (v27.2 || (decide (x30.Epoch ≠ v_0.Epoch))) ∧ fr' 0 = .ptr pb0 0 ∧ fr' 3 = .ref [.int .i64 v_1.Kind,
        .int .i64 v_1.K, .int .i64 v_1.N] 0 ∧ fr' 5 = .int .i64 v27.1 ∧ fr' 7 = .ref [v42, .int .i64 x30.Epoch, .int .i64 x30.Known] 0) rfl (fun Q233 hN234 => ?_) ?_
    · simp only [List.take_succ_cons, List.take_zero]
      simp only [run_guardd (g := 180), B0, reduceIte, reduceEqDiff]
      refine guardd_split (t := v27.2) (fun hg235 => ?_) (fun hg235 => ?_)
      · simp only [hg235, run_guardd (g := 180), guardd_off', d4_pick, put1d_some, xpick_t, run_draw_nil, run_nil, B0, reduceIte, reduceEqDiff]
        exact hN234 _ _ ⟨(Sep.m3 (Sep.m2 (Sep.m3 hS53))), by rw [orT hg235]; simp only [B0, reduceIte, reduceEqDiff], f21, f22, rfl, rfl⟩
      · simp only [hg235, run_guardd (g := 180), guardd_false, d4_fa, put1d_some, Nat.reduceAdd, Nat.zero_add, Nat.add_zero, xfa_ref, d4_ld, B0, reduceIte, reduceEqDiff]
        refine put1d_eq (v := .int .i64 x30.Epoch) rfl ?_
        simp only [hg235, run_guardd (g := 180), guardd_false, f21, d4_mv, put1d_some, d4_chk, xchk_ptr, d4_fa, Nat.reduceAdd, Nat.zero_add, Nat.add_zero, xfa_ptr, d4_ld, B0,
            reduceIte, reduceEqDiff]
        refine put1d_eq (v := .int .i64 v_0.Epoch) ((xld_b (Sep.bk _ _ _ (Sep.m2 hS53))).trans rfl) ?_
        simp only [hg235, run_guardd (g := 180), guardd_false, d4_bin, put1d_some, xneq, d4_pick, xpick_f, run_draw_nil, run_nil, B0, reduceIte, reduceEqDiff]
        exact hN234 _ _ ⟨(Sep.m3 (Sep.m2 (Sep.m3 hS53))), by rw [orF hg235]; simp only [B0, reduceIte, reduceEqDiff], f21, f22, rfl, rfl⟩
    rintro fr236 h242 ⟨hS243, f237, f238, f239, f240, f241⟩
    simp only [List.drop_succ_cons, List.drop_zero]
    simp only [f237, d4_mv, put1d_some, B0, reduceIte, reduceEqDiff]
    refine draw_j 8 (fun fr' h' => Sep h' lo ([Blk1 pb0 [.int .i64 v_0.Epoch, .int .i64 v_0.Leader, pv0_2, .int .i64 v_0.High,
        pv0_4] 29] ++ (pc0_2 ++ (c35 ++ (c43 ++ (S0))))) ∧ fr' 197 = .bool ((v27.2 || (decide (x30.Epoch ≠ v_0.Epoch))) || (decide
        (x30.Known < v_0.High))) ∧ fr' 0 = .ptr pb0 0 ∧ fr' 3 = .ref [.int .i64 v_1.Kind, .int .i64 v_1.K,
        .int .i64 v_1.N] 0 ∧ fr' 5 = .int .i64 v27.1) rfl (fun Q244 hN245 => ?_) ?_
    · simp only [List.take_succ_cons, List.take_zero]
      simp only [run_guardd (g := 189), B0, reduceIte, reduceEqDiff]
      refine guardd_split (t := (v27.2 || (decide (x30.Epoch ≠ v_0.Epoch)))) (fun hg246 => ?_) (fun hg246 => ?_)
      · simp only [hg246, run_guardd (g := 189), guardd_off', d4_pick, put1d_some, xpick_t, run_draw_nil, run_nil, B0, reduceIte, reduceEqDiff]
        exact hN245 _ _ ⟨(Sep.m3 (Sep.m3 (Sep.m3 (Sep.m1 hS243)))), by rw [orT hg246]; simp only [B0, reduceIte, reduceEqDiff], f238, f239, f240⟩
      · simp only [hg246, run_guardd (g := 189), guardd_false, f241, d4_fa, put1d_some, Nat.reduceAdd, Nat.zero_add, Nat.add_zero, xfa_ref, d4_ld, B0, reduceIte, reduceEqDiff]
        refine put1d_eq (v := .int .i64 x30.Known) rfl ?_
        simp only [hg246, run_guardd (g := 189), guardd_false, f238, d4_mv, put1d_some, d4_chk, xchk_ptr, d4_fa, Nat.reduceAdd, Nat.zero_add, Nat.add_zero, xfa_ptr, d4_ld, B0,
            reduceIte, reduceEqDiff]
        refine put1d_eq (v := .int .i64 v_0.High) ((xld_b (Sep.bk _ _ _ hS243)).trans rfl) ?_
        simp only [hg246, run_guardd (g := 189), guardd_false, d4_bin, put1d_some, xlss, d4_pick, xpick_f, run_draw_nil, run_nil, B0, reduceIte, reduceEqDiff]
        exact hN245 _ _ ⟨(Sep.m3 (Sep.m3 (Sep.m3 (Sep.m1 hS243)))), by rw [orF hg246]; simp only [B0, reduceIte, reduceEqDiff], f238, f239, f240⟩
    rintro fr247 h252 ⟨hS253, f248, f249, f250, f251⟩
    simp only [List.drop_succ_cons, List.drop_zero]
    simp only [run_draw_nil, f248, run_cond, B0, reduceIte, reduceEqDiff]
    refine cond_split (t := ((v27.2 || (decide (x30.Epoch ≠ v_0.Epoch))) || (decide (x30.Known < v_0.High)))) (fun hc254 => ?_) (fun hc254 => ?_)
    · rw [iteT hc254] at hF32
      simp only [run_seq, run_reg, run_mv, run_ops_nil, run_ret, B0, reduceIte, reduceEqDiff]
      obtain ⟨c255, hv256, hS257⟩ := SlG.cls0 (c := c35) (os := c43) hv38 rfl hx31 hk_nil (Replica.RI (x := x30) hv44) (Sep.m3 (Sep.m3 hS253))
      have hv258 := SlG.toN hv256
      have he := some_inj hF32
      subst he
      simp only [end_ret1, B0, reduceIte, reduceEqDiff]
      exact ⟨pv0_2, pc0_2, c255, by first | trivial | rfl, ph0_2, hv258, (Sep.m2 (Sep.m2 hS257))⟩
    rw [iteF hc254] at hF32
    simp only [run_skip, x66_13, run_seq, run_draw, f249, d1_mv, put1d_some, d4_mv, d4_chk, xchk_ptr, d4_fa, Nat.reduceAdd, Nat.zero_add, Nat.add_zero, xfa_ptr, d4_ld, B0,
        reduceIte, reduceEqDiff]
    refine put1d_eq (v := pv0_2) ((xld_b (Sep.bk _ _ _ hS253)).trans rfl) ?_
    simp only [f251, d4_mv, put1d_some, f250, d4_fa, Nat.reduceAdd, Nat.zero_add, Nat.add_zero, xfa_ref, d4_ld, B0, reduceIte, reduceEqDiff]
    refine put1d_eq (v := .int .i64 v_1.K) rfl ?_
    simp only [d4_buildS, evp, B0, reduceIte, reduceEqDiff]
    refine put2d_buildSF (n := 1) (f := cI) [v_1.K] hS253 rfl rfl (fun v259 c260 h261 hv262 hS263 => ?_)
    obtain ⟨v265, hx266, hF267⟩ := bind_some' hF32
    simp only [run_d3_call, B0, reduceIte, reduceEqDiff]
    refine call0d rfl (slices_Insert_int_x hW pv0_2 pc0_2 v_0.InStep ph0_2 v27.1 v259 c260 [v_1.K] hv262 v265 hx266 (Sep.m2 hS263)) ?_
    rintro v268 h274 ⟨_, c269, c272, rfl, hv270, hv273, hS275⟩
    simp only [d4_chk, put1d_some, xchk_ptr, d4_fa, Nat.reduceAdd, Nat.zero_add, Nat.add_zero, xfa_ptr, d3_st, B0, reduceIte, reduceEqDiff]
    refine put2d_stCx (us := [v268]) (cells_one (SlF.one hv270)) (cs' := [.int .i64 v_0.Epoch, .int .i64 v_0.Leader, v268, .int .i64 v_0.High,
        pv0_4]) (Sep.m2 hS275) hW rfl (all_c (SlF.one hv270) all_n) (Nat.le_of_ble_eq_true rfl) rfl (fun h276 hS277 => ?_)
    simp only [run_draw_nil, run_seq, run_reg, run_mv, run_ops_nil, run_ret, B0, reduceIte, reduceEqDiff]
    obtain ⟨c278, hv279, hS280⟩ := SlG.cls0 (c := c35) (os := c43) hv38 rfl hx31 hk_nil (Replica.RI (x := x30) hv44) (Sep.m4 (Sep.m4 hS277))
    have hv281 := SlG.toN hv279
    have he := some_inj hF267
    subst he
    simp only [end_ret1, B0, reduceIte, reduceEqDiff]
    exact ⟨v268, c269, c278, by first | trivial | rfl, hv270, hv281, (Sep.m2 (Sep.m2 (Sep.dc (Sep.m3 hS280))))⟩
  rw [iteF hc232] at hF32
  simp only [x66_25, run_seq, run_reg, run_bin, put1_some, xeql, run_mv, run_ops_nil, x66_24, run_cond, B0, reduceIte, reduceEqDiff]
  refine cond_split (t := (decide (v_1.Kind = 6))) (fun hc282 => ?_) (fun hc282 => ?_)
  · rw [iteT hc282] at hF32
    simp only [x66_23, run_seq, run_reg, run_mv, run_ops_nil, x66_22, f21, run_chk, put1_some, xchk_ptr, run_fa, Nat.reduceAdd, Nat.zero_add, Nat.add_zero, xfa_ptr, run_ld, B0,
        reduceIte, reduceEqDiff]
    refine put1_eq (v := pv0_2) ((xld_b (Sep.bk _ _ _ (Sep.m2 hS53))).trans rfl) ?_
    simp only [run_len, put1_some, SlF.plen ph0_2, run_mv, run_ops_nil, B0, reduceIte, reduceEqDiff]
    obtain ⟨c283, hv284, hS285⟩ := SlG.cls0 (c := c35) (os := c43) hv38 rfl hx31 hk_nil (Replica.RI (x := x30) hv44) (Sep.m1 (Sep.m1 hS53))
    have hv286 := SlG.toN hv284
    obtain ⟨oc297, hX299, hk300⟩ := jn_some hF32
    simp only [x66_19]
    refine rangeN_j (σ := Int × (List Replica)) (fun i295 s351 => impl_Group_step_b1 v_0 i295 s351.1 s351.2) (fun s fr' h' => ∃ c293,
        fr' 0 = .ptr pb0 0 ∧ fr' 3 = .ref [.int .i64 v_1.Kind, .int .i64 v_1.K,
        .int .i64 v_1.N] 0 ∧ fr' 9 = .int .i64 s.1 ∧ fr' 215 = pv0_2 ∧ SlN Replica.R 3 51 pv0_4 s.2 c293 ∧ Sep h' lo ([Blk1 pb0 [.int .i64 v_0.Epoch, .int .i64 v_0.Leader, pv0_2,
        .int .i64 v_0.High, pv0_4] 29] ++ (pc0_2 ++ (c293 ++ (S0))))) hX299 ⟨c283, f21, f22, rfl, rfl, hv286, (Sep.m2 (Sep.m2 hS285))⟩ (by simp only [B0, reduceIte,
        reduceEqDiff]) (by simp only [B0, reduceIte, reduceEqDiff]) (fun _ _ _ h => h) rfl rfl (fun _ _ _ _ h => h) (fun _ _ _ _ h => h) (fun _ _ _ _ h => h) (by decide) ?_ ?_
    · rintro i295 ⟨s291, s292⟩ fr309 h310 hx316 ⟨c293, f312, f313, f314, f315, hv294, hS311⟩ f317 f318 oc298 hF301 hr302 Q303 hN304 hB308 hK305 hR306 hE307
      dsimp only at *
      unfold impl_Group_step_b1 at hF301
      obtain ⟨x319, hx320, hF321⟩ := bind_some' hF301
      simp only [x66_17, run_seq, run_reg, f315, f317, run_ia, B0, reduceIte, reduceEqDiff]
      obtain ⟨b322, hb323⟩ := SlF.isrow ph0_2 (geti_ne hx320)
      refine put1_eq (SlF.ia ph0_2 hb323 hx320) ?_
      simp only [run_ld, B0, reduceIte, reduceEqDiff]
      refine put1_eq (v := .int .i64 x319) ((SlF.ld (o := 0) ph0_2 (Sep.m1 hS311) hb323 hx320 (fun _ => rfl) (Nat.le_of_ble_eq_true rfl)).trans rfl) ?_
      simp only [run_mv, run_ops_nil, x66_16, run_seq, run_draw, f312, d4_mv, put1d_some, d4_chk, xchk_ptr, d4_fa, Nat.reduceAdd, Nat.zero_add, Nat.add_zero, xfa_ptr, d4_ld, B0,
          reduceIte, reduceEqDiff]
      refine put1d_eq (v := pv0_4) ((xld_b (Sep.bk _ _ _ hS311)).trans rfl) ?_
      obtain ⟨x324, hx325, hF326⟩ := bind_some' hF321
      simp only [d4_mv, put1d_some, d4_ia, B0, reduceIte, reduceEqDiff]
      refine put1d_eq (SlN.ia hv294 hb34 hx325) ?_
      obtain ⟨c327, cs328, os329, hv330, hR331, hS332⟩ := SlG.opn (SlN.toG hv294 hb34 Replica.RO.len) hx325 hk_nil Replica.RO.len (Sep.m2 hS311)
      obtain ⟨v334, c335, hv336, rfl, rfl⟩ := hR331
      have hS333 := Sep.no1 hS332
      simp only [d4_fa, put1d_some, Nat.reduceAdd, Nat.zero_add, Nat.add_zero, xfa_ptr, d4_ld, B0, reduceIte, reduceEqDiff]
      refine put1d_eq (v := .int .i64 x324.Epoch) ((SlG.ld (o := 1) hv330 rfl hx325 hS333 (Nat.le_of_ble_eq_true rfl)).trans rfl) ?_
      simp only [f312, d4_mv, put1d_some, d4_chk, xchk_ptr, d4_fa, Nat.reduceAdd, Nat.zero_add, Nat.add_zero, xfa_ptr, d4_ld, B0, reduceIte, reduceEqDiff]
      refine put1d_eq (v := .int .i64 v_0.Epoch) ((xld_b (Sep.bk _ _ _ (Sep.m2 hS333))).trans rfl) ?_
      simp only [d4_bin, put1d_some, xneq, run_draw_nil, run_cond, B0, reduceIte, reduceEqDiff]
      refine cond_split (t := (decide (x324.Epoch ≠ v_0.Epoch))) (fun hc338 => ?_) (fun hc338 => ?_)
      · rw [iteT hc338] at hF326
        simp only [run_seq, run_reg, run_mv, run_ops_nil, run_ret, B0, reduceIte, reduceEqDiff]
        have e339 := some_inj hF326
        subst e339
        have ho340 := hr302 _ rfl
        have hk341 := hk300
        rw [ho340] at hk341
        dsimp only [jnO] at hk341
        apply hR306
        obtain ⟨c342, hv343, hS344⟩ := SlG.cls0 (c := c327) (os := c335) hv330 rfl hx325 hk_nil (Replica.RI (x := x324) hv336) (Sep.m1 (Sep.m1 hS333))
        have hv345 := SlG.toN hv343
        have he := some_inj hk341
        subst he
        simp only [end_ret1, B0, reduceIte, reduceEqDiff]
        exact ⟨pv0_2, pc0_2, c342, by first | trivial | rfl, ph0_2, hv345, (Sep.m2 (Sep.m2 hS344))⟩
      rw [iteF hc338] at hF326
      simp only [run_skip, x66_15, run_reg, f314, run_mv, f312, run_chk, put1_some, xchk_ptr, run_fa, Nat.reduceAdd, Nat.zero_add, Nat.add_zero, xfa_ptr, run_ld, B0, reduceIte,
          reduceEqDiff]
      refine put1_eq (v := pv0_4) ((xld_b (Sep.bk _ _ _ (Sep.m2 hS333))).trans rfl) ?_
      simp only [run_mv, run_ia, B0, reduceIte, reduceEqDiff]
      refine put1_eq (SlG.ia hv330 hx325) ?_
      simp only [run_fa, put1_some, Nat.reduceAdd, Nat.zero_add, Nat.add_zero, xfa_ptr, run_ld, B0, reduceIte, reduceEqDiff]
      refine put1_eq (v := .int .i64 x324.Known) ((SlG.ld (o := 2) hv330 rfl hx325 hS333 (Nat.le_of_ble_eq_true rfl)).trans rfl) ?_
      simp only [run_mnx, put1_some, pminI, run_mv, run_ops_nil, run_nil, B0, reduceIte, reduceEqDiff]
      obtain ⟨c346, hv347, hS348⟩ := SlG.cls0 (c := c327) (os := c335) hv330 rfl hx325 hk_nil (Replica.RI (x := x324) hv336) (Sep.m1 (Sep.m1 hS333))
      have hv349 := SlG.toN hv347
      have e350 := some_inj hF326
      exact hN304 _ _ _ e350.symm ⟨c346, f312, f313, rfl, f315, hv349, (Sep.m2 (Sep.m2 hS348))⟩ (f317) (f318)
    rintro ⟨s352, s353⟩ fr356 h357 rfl ⟨c354, f359, f360, f361, f362, hv355, hS358⟩
    dsimp only [jnO] at hk300
    dsimp only at *
    unfold impl_Group_step_j1 at hk300
    simp only [x66_21, run_seq, run_reg, f360, run_fa, put1_some, Nat.reduceAdd, Nat.zero_add, Nat.add_zero, xfa_ref, run_ld, B0, reduceIte, reduceEqDiff]
    refine put1_eq (v := .int .i64 v_1.K) rfl ?_
    simp only [run_bin, put1_some, xneq, run_mv, B0, reduceIte, reduceEqDiff]
    refine ops_j 7 (fun fr' h' => Sep h' lo ([Blk1 pb0 [.int .i64 v_0.Epoch, .int .i64 v_0.Leader, pv0_2, .int .i64 v_0.High,
        pv0_4] 29] ++ (pc0_2 ++ (c354 ++ (S0)))) ∧ fr' 255 = .bool ((decide (v_1.K ≠ 0)) || (decide (s352 ≤ v_0.High))) ∧ fr' 0 = .ptr pb0 0 ∧ fr' 9 = .int .i64 s352)
        (fun Q363 hN364 => ?_) ?_
    · simp only [List.take_succ_cons, List.take_zero]
      simp only [run_guard (g := 248), B0, reduceIte, reduceEqDiff]
      refine guard_split (t := (decide (v_1.K ≠ 0))) (fun hg365 => ?_) (fun hg365 => ?_)
      · simp only [hg365, run_guard (g := 248), guard_off', run_pick, put1_some, xpick_t, run_ops_nil, run_nil, B0, reduceIte, reduceEqDiff]
        exact hN364 _ _ ⟨(Sep.m2 (Sep.m2 (Sep.m2 hS358))), by rw [orT hg365]; simp only [B0, reduceIte, reduceEqDiff], f359, f361⟩
      · simp only [hg365, run_guard (g := 248), guard_false, f361, run_mv, f359, run_chk, put1_some, xchk_ptr, run_fa, Nat.reduceAdd, Nat.zero_add, Nat.add_zero, xfa_ptr, run_ld,
          B0, reduceIte, reduceEqDiff]
        refine put1_eq (v := .int .i64 v_0.High) ((xld_b (Sep.bk _ _ _ hS358)).trans rfl) ?_
        simp only [hg365, run_guard (g := 248), guard_false, run_bin, put1_some, xleq, run_pick, xpick_f, run_ops_nil, run_nil, B0, reduceIte, reduceEqDiff]
        exact hN364 _ _ ⟨(Sep.m2 (Sep.m2 (Sep.m2 hS358))), by rw [orF hg365]; simp only [B0, reduceIte, reduceEqDiff], f359, f361⟩
    rintro fr366 h370 ⟨hS371, f367, f368, f369⟩
    simp only [List.drop_succ_cons, List.drop_zero]
    simp only [run_ops_nil, f367, run_cond, B0, reduceIte, reduceEqDiff]
    refine cond_split (t := ((decide (v_1.K ≠ 0)) || (decide (s352 ≤ v_0.High)))) (fun hc372 => ?_) (fun hc372 => ?_)
    · rw [iteT hc372] at hk300
      simp only [run_seq, run_reg, run_mv, run_ops_nil, run_ret, B0, reduceIte, reduceEqDiff]
      have he := some_inj hk300
      subst he
      simp only [end_ret1, B0, reduceIte, reduceEqDiff]
      exact ⟨pv0_2, pc0_2, c354, by first | trivial | rfl, ph0_2, hv355, (Sep.m2 (Sep.m2 (Sep.m2 hS371)))⟩
    rw [iteF hc372] at hk300
    simp only [run_skip, x66_20, run_seq, run_reg, f368, run_mv, f369, run_chk, put1_some, xchk_ptr, run_fa, Nat.reduceAdd, Nat.zero_add, Nat.add_zero, xfa_ptr, run_st, B0,
        reduceIte, reduceEqDiff]
    refine put2_stCx (us := [.int .i64 s352]) rfl (cs' := [.int .i64 v_0.Epoch, .int .i64 v_0.Leader, pv0_2, .int .i64 s352,
        pv0_4]) hS371 hW rfl rfl (Nat.le_of_ble_eq_true rfl) rfl (fun h373 hS374 => ?_)
    simp only [run_ops_nil, run_seq, run_reg, run_mv, run_ret, B0, reduceIte, reduceEqDiff]
    have he := some_inj hk300
    subst he
    simp only [end_ret1, B0, reduceIte, reduceEqDiff]
    exact ⟨pv0_2, pc0_2, c354, by first | trivial | rfl, ph0_2, hv355, (Sep.m2 (Sep.m2 (Sep.m2 hS374)))⟩
  rw [iteF hc282] at hF32
  simp only [run_skip, run_blk, run_seq, run_reg, run_mv, run_ops_nil, run_ret, B0, reduceIte, reduceEqDiff]
  obtain ⟨c376, hv377, hS378⟩ := SlG.cls0 (c := c35) (os := c43) hv38 rfl hx31 hk_nil (Replica.RI (x := x30) hv44) (Sep.m1 (Sep.m1 hS53))
  have hv379 := SlG.toN hv377
  have he := some_inj hF32
  subst he
  simp only [end_ret1, B0, reduceIte, reduceEqDiff]
  exact ⟨pv0_2, pc0_2, c376, by first | trivial | rfl, ph0_2, hv379, (Sep.m2 (Sep.m2 hS378))⟩
theorem impl_PlayGroup_x {W : Nat → Bool} {h : Heap} (hW : ∀ b,
    (geL h.length) b → W b = true) (k : Nat) (replicas_0 : Int) (l_1 : List IsrStep) (r : Group × (List Bool) × Bool)
    (hF : impl_PlayGroup k replicas_0 l_1 = some r) : Ret E W 16 [.int .i64 replicas_0, lst IsrStep.cells l_1] h (fun v h' => ∃ rv0_2 rc0_2 rv0_4 rc0_4 rv1 rc1,
    v = .tup [.agg [.int .i64 r.1.Epoch, .int .i64 r.1.Leader, rv0_2, .int .i64 r.1.High, rv0_4], rv1,
    .bool r.2.2] ∧ SlF cI 1 3 rv0_2 r.1.InStep rc0_2 ∧ SlN Replica.R 3 51 rv0_4 r.1.Replicas rc0_4 ∧ SlF cB 1 4 rv1 r.2.1 rc1 ∧ Sep h' (geL h.length) (rc0_2 ++ (rc0_4 ++ (rc1 ++
    ([]))))) := by
  refine Ret.of (fn := x16) rfl (Run.of ?_)
  unfold impl_PlayGroup at hF
  have zf0 : argFr [.int .i64 replicas_0, lst IsrStep.cells l_1] 0 = .int .i64 replicas_0 := rfl
  have zf1 : argFr [.int .i64 replicas_0, lst IsrStep.cells l_1] 1 = lst IsrStep.cells l_1 := rfl
  generalize argFr [.int .i64 replicas_0, lst IsrStep.cells l_1] = fr0 at zf0 zf1 ⊢
  have hS : Sep h (geL h.length) [] := Sep.nil h
  simp only [x16, run_seq, run_reg, run_new, B0, reduceIte, reduceEqDiff]
  refine put2_newC hS (fun b1 h2 hS3 => ?_)
  simp only [run_mv, run_ops_nil, x16_11, run_seq, run_reg, zf0, run_call, B0, reduceIte, reduceEqDiff]
  refine call1 rfl (mapM1 snap_int (mapM1 snap_int (mapM1 snap_int mapM0))) (impl_in_x (fun b hb => decide_eq_true hb) replicas_0 2 4 _ rfl) ?_
  simp only [run_un, put1_some, xnot, run_mv, B0, reduceIte, reduceEqDiff]
  refine ops_j 4 (fun fr' h' => Sep h' (geL h.length) ([Blk1 b1 [.int .i64 0, .int .i64 0, .nil, .int .i64 0,
      .nil] 29] ++ ([])) ∧ fr' 18 = .bool ((!(impl_in replicas_0 2 4)) || (decide ((100 : Int) <
      (List.length l_1 : Int)))) ∧ fr' 0 = .int .i64 replicas_0 ∧ fr' 1 = lst IsrStep.cells l_1 ∧ fr' 4 = .ptr b1 0) (fun Q5 hN6 => ?_) ?_
  · simp only [List.take_succ_cons, List.take_zero]
    simp only [run_guard (g := 14), B0, reduceIte, reduceEqDiff]
    refine guard_split (t := (!(impl_in replicas_0 2 4))) (fun hg7 => ?_) (fun hg7 => ?_)
    · simp only [hg7, run_guard (g := 14), guard_off', run_pick, put1_some, xpick_t, run_ops_nil, run_nil, B0, reduceIte, reduceEqDiff]
      exact hN6 _ _ ⟨hS3, by rw [orT hg7]; simp only [B0, reduceIte, reduceEqDiff], zf0, zf1, rfl⟩
    · simp only [hg7, run_guard (g := 14), guard_false, zf1, run_mv, run_len, put1_some, xlen_lst, run_bin, xgtr, run_pick, xpick_f, run_ops_nil, run_nil, B0, reduceIte,
        reduceEqDiff]
      exact hN6 _ _ ⟨hS3, by rw [orF hg7]; simp only [B0, reduceIte, reduceEqDiff], zf0, zf1, rfl⟩
  rintro fr8 h13 ⟨hS14, f9, f10, f11, f12⟩
  simp only [List.drop_succ_cons, List.drop_zero]
  simp only [run_ops_nil, x16_2, f9, run_cond, B0, reduceIte, reduceEqDiff]
  refine cond_split (t := ((!(impl_in replicas_0 2 4)) || (decide ((100 : Int) < (List.length l_1 : Int))))) (fun hc15 => ?_) (fun hc15 => ?_)
  · rw [iteT hc15] at hF
    simp only [x16_1, run_seq, run_reg, run_build, evp, B0, reduceIte, reduceEqDiff]
    refine put1_eq (v := .agg [.int .i64 0, .int .i64 0, .nil, .int .i64 0, .nil]) rfl ?_
    simp only [f12, run_st, B0, reduceIte, reduceEqDiff]
    refine put2_stCx (us := [.int .i64 0, .int .i64 0, .nil, .int .i64 0, .nil]) rfl (cs' := [.int .i64 0, .int .i64 0, .nil, .int .i64 0,
        .nil]) hS14 hW rfl rfl (Nat.le_of_ble_eq_true rfl) rfl (fun h16 hS17 => ?_)
    simp only [run_mv, run_ops_nil, run_ret, B0, reduceIte, reduceEqDiff]
    have he := some_inj hF
    subst he
    refine end_ret_m (mapM1 (res_cell (bb := b1) (oo := 0) (v := .agg [.int .i64 0, .int .i64 0, .nil, .int .i64 0,
        .nil]) (f12) ((xld_bs (Sep.bk _ _ _ hS17)).trans rfl)) (mapM1 (res_t (v := .nil) (rfl)) (mapM1 (res_t (v := .bool false) (rfl)) mapM0))) ?_
    exact ⟨.nil, [], .nil, [], .nil, [], by first | trivial | rfl, SlF.nil, SlN.nil, SlF.nil, ((Sep.dc (hS17)) : Sep _ (geL h.length) ([]))⟩
  rw [iteF hc15] at hF
  obtain ⟨v18, hx19, hF20⟩ := bind_some' hF
  simp only [run_skip, x16_10, run_seq, run_reg, f10, run_mv, run_call, B0, reduceIte, reduceEqDiff]
  refine call2 rfl hS14 (mapM1 snap_int mapM0) (impl_newGroup_x (fun b hb => decide_eq_true hb) replicas_0 v18 hx19) ?_
  rintro _ h29 ⟨v21, c22, v25, c26, rfl, hv23, hv27, hS30⟩
  refine ⟨_, free_a (all_c rfl (all_c rfl (all_c (SlF.free1 hv23) (all_c rfl (all_c (SlN.free1 hv27) all_n))))), hS30,
      (pf_app (SlF.pf hv23 (fun _ => rfl)) (pf_app (SlN.pf hv27 Replica.RO) pf_nil)), fun h31 hS32 => ?_⟩
  have hS33 : Sep h31 (geL h.length) (c22 ++ (c26 ++ ([Blk1 b1 [.int .i64 0, .int .i64 0, .nil, .int .i64 0, .nil] 29] ++ ([])))) := by simpa only [List.append_assoc,
      List.nil_append] using hS32
  simp only [run_new, B0, reduceIte, reduceEqDiff]
  refine put2_newC hS33 (fun b34 h35 hS36 => ?_)
  simp only [run_st, B0, reduceIte, reduceEqDiff]
  refine put2_stCx (us := [.int .i64 v18.Epoch, .int .i64 v18.Leader, v21, .int .i64 v18.High, v25]) rfl (cs' := [.int .i64 v18.Epoch, .int .i64 v18.Leader, v21,
      .int .i64 v18.High, v25]) hS36 hW rfl (all_c rfl (all_c rfl (all_c (SlF.one hv23) (all_c rfl (all_c (SlN.one hv27) all_n))))) (Nat.le_of_ble_eq_true rfl) rfl
      (fun h38 hS39 => ?_)
  simp only [run_ops_nil, x16_9, run_seq, run_reg, run_buildS, evp, B0, reduceIte, reduceEqDiff]
  refine put2_buildSF (n := 1) (f := cB) ([] : List Bool) hS39 rfl rfl (fun v40 c41 h42 hv43 hS44 => ?_)
  simp only [run_mv, run_ops_nil, x16_8, run_seq, run_reg, f11, run_len, put1_some, xlen_lst, B0, reduceIte, reduceEqDiff]
  obtain ⟨oc74, hX76, hk77⟩ := jn_some hF20
  simp only [x16_6]
  refine rangeL_j (σ := (List Bool) × Group × (List Replica)) l_1 (fun i72 x73 s131 => impl_PlayGroup_b1 k i72 x73 s131.1 s131.2.1 s131.2.2)
      (fun s fr' h' => ∃ v61 c62 v66 c67 c70,
      fr' 4 = .ptr b1 0 ∧ fr' 7 = .ptr b34 0 ∧ fr' 8 = v61 ∧ fr' 23 = lst IsrStep.cells l_1 ∧ SlF cB 1 4 v61 s.1 c62 ∧ SlF cI 1 3 v66 s.2.1.InStep c67 ∧ SlN Replica.R 3 51 v25 s.2.2 c70 ∧ Sep h'
      (geL h.length) ([Blk1 b1 [.int .i64 0, .int .i64 0, .nil, .int .i64 0, .nil] 29] ++ ([Blk1 b34 [.int .i64 s.2.1.Epoch, .int .i64 s.2.1.Leader, v66, .int .i64 s.2.1.High,
      v25] 29] ++ (c62 ++ (c67 ++ (c70 ++ ([]))))))) hX76 ⟨v40, c41, v21, c22, c26, f12, rfl, rfl, rfl, hv43, hv23, hv27,
      (Sep.m4 (Sep.m3 (Sep.m2 (Sep.m3 (Sep.m3 hS44)))))⟩ (by simp only [B0, reduceIte, reduceEqDiff]) (by simp only [B0, reduceIte,
      reduceEqDiff]) (fun _ _ _ h => h) rfl rfl (fun _ _ _ _ h => h) (fun _ _ _ _ h => h) (fun _ _ _ _ h => h) (by decide) ?_ ?_
  · rintro i72 x73 ⟨s59, s64, s69⟩ fr86 h87 hx93 ⟨v61, c62, v66, c67, c70, f89, f90, f91, f92, hv63, hv68, hv71, hS88⟩ f94 f95 oc75 hF78 hr79 Q80 hN81 hB85 hK82 hR83 hE84
    dsimp only at *
    unfold impl_PlayGroup_b1 at hF78
    simp only [x16_4, run_seq, run_reg, f92, f94, run_ia, B0, reduceIte, reduceEqDiff]
    refine put1_eq (v := .ref (IsrStep.cells x73) 0) (xia_lstN hx93 rfl) ?_
    simp only [run_ld, B0, reduceIte, reduceEqDiff]
    refine put1_eq (v := .agg [.int .i64 x73.Kind, .int .i64 x73.K, .int .i64 x73.N]) rfl ?_
    simp only [run_new, B0, reduceIte, reduceEqDiff]
    refine put2_newC hS88 (fun b96 h97 hS98 => ?_)
    simp only [run_st, B0, reduceIte, reduceEqDiff]
    refine put2_stCx (us := [.int .i64 x73.Kind, .int .i64 x73.K, .int .i64 x73.N]) rfl (cs' := [.int .i64 x73.Kind, .int .i64 x73.K,
        .int .i64 x73.N]) hS98 hW rfl rfl (Nat.le_of_ble_eq_true rfl) rfl (fun h100 hS101 => ?_)
    simp only [run_ops_nil, B0, reduceIte, reduceEqDiff]
    refine frz_stepC hS101 hW (by simp only [B0, reduceIte, reduceEqDiff]) (fun h102 hS103 => ?_)
    simp only [run_frz_nil, x16_3, run_reg, f91, run_mv, run_ld, B0, reduceIte, reduceEqDiff]
    refine put1_eq (v := .agg [.int .i64 x73.Kind, .int .i64 x73.K, .int .i64 x73.N]) rfl ?_
    obtain ⟨v104, hx105, hF106⟩ := bind_some' hF78
    simp only [f90, run_call, B0, reduceIte, reduceEqDiff]
    refine call0 rfl (impl_Group_step_x hW k b34 (Group.mk s64.Epoch s64.Leader s64.InStep s64.High s69) v66 c67 hv68 v25 c70 hv71 x73 v104 hx105 (Sep.m3 (Sep.m4
        (Sep.m4 hS103)))) ?_
    rintro _ h113 ⟨v107, c108, c111, rfl, hv109, hv112, hS114⟩
    simp only [run_buildS, evp, B0, reduceIte, reduceEqDiff]
    refine put2_buildSF (n := 1) (f := cB) [v104.1] hS114 rfl rfl (fun v115 c116 h117 hv118 hS119 => ?_)
    simp only [run_app, B0, reduceIte, reduceEqDiff]
    obtain ⟨l121, hx122, hF123⟩ := bind_some' hF106
    refine put2_appF (f := cB) hv63 (Sep.m5 hS119) hW (fun _ => rfl) (fun _ => rfl) (SlF.first hv118 hS119 (fun _ => rfl)) hx122 (fun v124 c125 h126 hv127 hS128 => ?_)
    simp only [run_mv, run_ops_nil, run_nil, B0, reduceIte, reduceEqDiff]
    have e130 := some_inj hF123
    exact hN81 _ _ _ e130.symm ⟨v124, c125, v107, c108, c111, f89, f90, rfl, f92, hv127, hv109, hv112,
        (Sep.m4 (Sep.m3 (Sep.m2 (Sep.m3 (Sep.m3 (Sep.dc (Sep.m1 hS128)))))))⟩ (f94) (f95)
  rintro ⟨s132, s137, s142⟩ fr145 h146 rfl ⟨v134, c135, v139, c140, c143, f148, f149, f150, f151, hv136, hv141, hv144, hS147⟩
  dsimp only [jnO] at hk77
  dsimp only at *
  unfold impl_PlayGroup_j1 at hk77
  simp only [x16_7, run_seq, run_reg, f149, run_ld, B0, reduceIte, reduceEqDiff]
  refine put1_eq (v := .agg [.int .i64 s137.Epoch, .int .i64 s137.Leader, v139, .int .i64 s137.High, v25]) ((xld_bs (Sep.bk _ _ _ (Sep.m1 hS147))).trans rfl) ?_
  simp only [f150, run_mv, f148, run_st, B0, reduceIte, reduceEqDiff]
  refine put2_stCx (us := [.int .i64 s137.Epoch, .int .i64 s137.Leader, v139, .int .i64 s137.High, v25]) rfl (cs' := [.int .i64 s137.Epoch, .int .i64 s137.Leader, v139,
      .int .i64 s137.High, v25]) hS147 hW rfl (all_c rfl (all_c rfl (all_c (SlF.one hv141) (all_c rfl (all_c (SlN.one hv144) all_n))))) (Nat.le_of_ble_eq_true rfl) rfl
      (fun h152 hS153 => ?_)
  simp only [run_mv, run_ops_nil, run_ret, B0, reduceIte, reduceEqDiff]
  have he := some_inj hk77
  subst he
  refine end_ret_m (mapM1 (res_cell (bb := b1) (oo := 0) (v := .agg [.int .i64 s137.Epoch, .int .i64 s137.Leader, v139, .int .i64 s137.High,
      v25]) (f148) ((xld_bs (Sep.bk _ _ _ hS153)).trans rfl)) (mapM1 (res_t (v := v134) (rfl)) (mapM1 (res_t (v := .bool true) (rfl)) mapM0))) ?_
  exact ⟨v139, c140, v25, c143, v134, c135, by first | trivial | rfl, hv141, hv144, hv136, (Sep.m2 (Sep.m2 (Sep.dc ((Sep.dc (hS153))))))⟩
end Go.Proofs.Ytefgfcalgjmhjaa.X
namespace Go.Proofs.Ytefgfcalgjmhjaa.X
open Go
open Nat (reduceEqDiff)
theorem spec_l1In_x {W : Nat → Bool} {h : Heap} (hW : ∀ b,
    (geL h.length) b → W b = true) (n_0 : Int) (lo_1 : Int) (hi_2 : Int) (r : Bool) (hF : some (spec_l1In n_0 lo_1 hi_2) = some r) : Ret E W 72 [.int .i64 n_0, .int .i64 lo_1,
    .int .i64 hi_2] h (fun v h' => cut h.length h' E.sz false 9 v = some (.bool r)) := by
  refine Ret.of (fn := x72) rfl (Run.of ?_)
  unfold spec_l1In at hF
  have zf0 : argFr [.int .i64 n_0, .int .i64 lo_1, .int .i64 hi_2] 0 = .int .i64 n_0 := rfl
  have zf1 : argFr [.int .i64 n_0, .int .i64 lo_1, .int .i64 hi_2] 1 = .int .i64 lo_1 := rfl
  have zf2 : argFr [.int .i64 n_0, .int .i64 lo_1, .int .i64 hi_2] 2 = .int .i64 hi_2 := rfl
  generalize argFr [.int .i64 n_0, .int .i64 lo_1, .int .i64 hi_2] = fr0 at zf0 zf1 zf2 ⊢
  have hS : Sep h (geL h.length) [] := Sep.nil h
  simp only [x72, run_seq, run_reg, run_mv, run_ops_nil, x72_1, zf0, zf1, run_bin, put1_some, xgeq, B0, reduceIte, reduceEqDiff]
  refine ops_j 4 (fun fr' h' => Sep h' (geL h.length) ([]) ∧ fr' 14 = .bool ((decide (lo_1 ≤ n_0)) && (decide (n_0 ≤ hi_2)))) (fun Q1 hN2 => ?_) ?_
  · simp only [List.take_succ_cons, List.take_zero]
    simp only [run_guard (g := 10), B0, reduceIte, reduceEqDiff]
    refine guard_split (t := (decide (lo_1 ≤ n_0))) (fun hg3 => ?_) (fun hg3 => ?_)
    · simp only [hg3, run_guard (g := 10), guard_true, zf0, run_mv, zf2, run_bin, put1_some, xleq, run_pick, xpick_t, run_ops_nil, run_nil, B0, reduceIte, reduceEqDiff]
      exact hN2 _ _ ⟨hS, by rw [andT hg3]; simp only [B0, reduceIte, reduceEqDiff]⟩
    · simp only [hg3, run_guard (g := 10), guard_off, run_pick, put1_some, xpick_f, run_ops_nil, run_nil, B0, reduceIte, reduceEqDiff]
      exact hN2 _ _ ⟨hS, by rw [andF hg3]; simp only [B0, reduceIte, reduceEqDiff]⟩
  rintro fr4 h6 ⟨hS7, f5⟩
  simp only [List.drop_succ_cons, List.drop_zero]
  simp only [f5, run_mv, run_ops_nil, run_ret, B0, reduceIte, reduceEqDiff]
  have he := some_inj hF
  subst he
  simp only [end_ret1, B0, reduceIte, reduceEqDiff]
  exact rfl
theorem spec_NewGroup_x {W : Nat → Bool} {h : Heap} (hW : ∀ b,
    (geL h.length) b → W b = true) (k : Nat) (replicas_0 : Int) (r : Group × Bool) (hF : spec_NewGroup k replicas_0 = some r) : Ret E W 42 [.int .i64 replicas_0] h
    (fun v h' => ∃ rv0_2 rc0_2 rv0_4 rc0_4, v = .tup [.agg [.int .i64 r.1.Epoch, .int .i64 r.1.Leader, rv0_2, .int .i64 r.1.High, rv0_4],
    .bool r.2] ∧ SlF cI 1 3 rv0_2 r.1.InStep rc0_2 ∧ SlN Replica.R 3 51 rv0_4 r.1.Replicas rc0_4 ∧ Sep h' (geL h.length) (rc0_2 ++ (rc0_4 ++ ([])))) := by
  refine Ret.of (fn := x42) rfl (Run.of ?_)
  unfold spec_NewGroup at hF
  have zf0 : argFr [.int .i64 replicas_0] 0 = .int .i64 replicas_0 := rfl
  generalize argFr [.int .i64 replicas_0] = fr0 at zf0 ⊢
  have hS : Sep h (geL h.length) [] := Sep.nil h
  simp only [x42, run_seq, run_reg, run_new, B0, reduceIte, reduceEqDiff]
  refine put2_newC hS (fun b1 h2 hS3 => ?_)
  simp only [run_mv, run_ops_nil, x42_9, run_seq, run_reg, zf0, run_call, B0, reduceIte, reduceEqDiff]
  refine call1 rfl (mapM1 snap_int (mapM1 snap_int (mapM1 snap_int mapM0))) (spec_l1In_x (fun b hb => decide_eq_true hb) replicas_0 2 4 _ rfl) ?_
  simp only [run_un, put1_some, xnot, run_ops_nil, x42_1, run_cond, B0, reduceIte, reduceEqDiff]
  refine cond_split (t := (!(spec_l1In replicas_0 2 4))) (fun hc5 => ?_) (fun hc5 => ?_)
  · rw [iteT hc5] at hF
    simp only [run_seq, run_reg, run_build, evp, B0, reduceIte, reduceEqDiff]
    refine put1_eq (v := .agg [.int .i64 0, .int .i64 0, .nil, .int .i64 0, .nil]) rfl ?_
    simp only [run_st, B0, reduceIte, reduceEqDiff]
    refine put2_stCx (us := [.int .i64 0, .int .i64 0, .nil, .int .i64 0, .nil]) rfl (cs' := [.int .i64 0, .int .i64 0, .nil, .int .i64 0,
        .nil]) hS3 hW rfl rfl (Nat.le_of_ble_eq_true rfl) rfl (fun h6 hS7 => ?_)
    simp only [run_mv, run_ops_nil, run_ret, B0, reduceIte, reduceEqDiff]
    have he := some_inj hF
    subst he
    refine end_ret_m (mapM1 (res_cell (bb := b1) (oo := 0) (v := .agg [.int .i64 0, .int .i64 0, .nil, .int .i64 0,
        .nil]) (rfl) ((xld_bs (Sep.bk _ _ _ hS7)).trans rfl)) (mapM1 (res_t (v := .bool false) (rfl)) mapM0)) ?_
    exact ⟨.nil, [], .nil, [], by first | trivial | rfl, SlF.nil, SlN.nil, ((Sep.dc (hS7)) : Sep _ (geL h.length) ([]))⟩
  rw [iteF hc5] at hF
  obtain ⟨l8, hx9, hF10⟩ := bind_some' hF
  simp only [run_skip, x42_8, run_seq, run_reg, zf0, run_mv, run_mkS, B0, reduceIte, reduceEqDiff]
  refine put2_mkSN (R := Replica.R) (e := (Replica.mk [] (0 : Int) (0 : Int))) (z := [.nil, .int .i64 0,
      .int .i64 0]) hS3 hx9 (Replica.RI (x := (Replica.mk [] 0 0)) SlF.nil) rfl (fun v11 c12 h13 hv14 hS15 => ?_)
  simp only [run_build, evp, B0, reduceIte, reduceEqDiff]
  refine put1_eq (v := .agg [.int .i64 0, .int .i64 0, .nil, .int .i64 0, v11]) (pbuild_some (fill1 (us := [v11]) (vs := [.int .i64 0, .int .i64 0, .nil, .int .i64 0,
      v11]) (cells_one (SlN.one hv14)) rfl (Nat.le_of_ble_eq_true rfl) (all_c (SlN.one hv14) all_n) rfl fill0)) ?_
  simp only [run_new, B0, reduceIte, reduceEqDiff]
  refine put2_newC hS15 (fun b17 h18 hS19 => ?_)
  simp only [run_st, B0, reduceIte, reduceEqDiff]
  refine put2_stCx (us := [.int .i64 0, .int .i64 0, .nil, .int .i64 0, v11]) rfl (cs' := [.int .i64 0, .int .i64 0, .nil, .int .i64 0,
      v11]) hS19 hW rfl (all_c rfl (all_c rfl (all_c rfl (all_c rfl (all_c (SlN.one hv14) all_n))))) (Nat.le_of_ble_eq_true rfl) rfl (fun h21 hS22 => ?_)
  simp only [run_ops_nil, x42_7, run_seq, run_reg, run_mv, B0, reduceIte, reduceEqDiff]
  obtain ⟨oc37, hX39, hk40⟩ := jn_some hF10
  simp only [x42_6]
  refine loopF_j (σ := Int × Group) (fun s77 => spec_NewGroup_b1 replicas_0 l8 s77.1 s77.2) (fun s fr' h' => ∃ v32 c33,
      fr' 0 = .int .i64 replicas_0 ∧ fr' 2 = .ptr b1 0 ∧ fr' 4 = .ptr b17 0 ∧ fr' 5 = .int .i64 s.1 ∧ SlF cI 1 3 v32 s.2.InStep c33 ∧ Sep h' (geL h.length) ([Blk1 b1 [.int .i64 0,
      .int .i64 0, .nil, .int .i64 0, .nil] 29] ++ ([Blk1 b17 [.int .i64 s.2.Epoch, .int .i64 s.2.Leader, v32, .int .i64 s.2.High,
      v11] 29] ++ (c33 ++ (c12 ++ ([])))))) hX39 ⟨.nil, [], zf0, rfl, rfl, rfl, SlF.nil, ((Sep.m2 (Sep.m1 (Sep.m1 hS22))) : Sep _ (geL h.length) ([Blk1 b1 [.int .i64 0,
      .int .i64 0, .nil, .int .i64 0, .nil] 29] ++ ([Blk1 b17 [.int .i64 0, .int .i64 0, .nil, .int .i64 0, v11] 29] ++ (c12 ++ ([])))))⟩ (fun _ _ _ h => h) ?_ ?_
  · rintro ⟨s29, s30⟩ fr49 h50 ⟨v32, c33, f52, f53, f54, f55, hv34, hS51⟩ oc38 hF41 hr42 Q43 hN44 hK45 hR46 hE47
    dsimp only at *
    unfold spec_NewGroup_b1 at hF41
    simp only [x42_4, run_seq, run_reg, f55, run_mv, f52, run_bin, put1_some, xlss, run_ops_nil, run_cond, B0, reduceIte, reduceEqDiff]
    refine cond_split (t := (decide (s29 < replicas_0))) (fun hc57 => ?_) (fun hc57 => ?_)
    · rw [iteT hc57] at hF41
      simp only [run_skip, x42_3, run_seq, run_block, x42_2, run_reg, f54, run_fa, put1_some, Nat.reduceAdd, Nat.zero_add, Nat.add_zero, xfa_ptr, run_ld, B0, reduceIte,
          reduceEqDiff]
      refine put1_eq (v := v32) ((xld_b (Sep.bk _ _ _ (Sep.m1 hS51))).trans rfl) ?_
      simp only [f55, run_mv, run_buildS, evp, B0, reduceIte, reduceEqDiff]
      refine put2_buildSF (n := 1) (f := cI) [s29] hS51 rfl rfl (fun v58 c59 h60 hv61 hS62 => ?_)
      simp only [run_app, B0, reduceIte, reduceEqDiff]
      obtain ⟨l64, hx65, hF66⟩ := bind_some' hF41
      refine put2_appF (f := cI) hv34 (Sep.m3 hS62) hW (fun _ => rfl) (fun _ => rfl) (SlF.first hv61 hS62 (fun _ => rfl)) hx65 (fun v67 c68 h69 hv70 hS71 => ?_)
      simp only [f54, run_fa, put1_some, Nat.reduceAdd, Nat.zero_add, Nat.add_zero, xfa_ptr, run_st, B0, reduceIte, reduceEqDiff]
      refine put2_stCx (us := [v67]) (cells_one (SlF.one hv70)) (cs' := [.int .i64 s30.Epoch, .int .i64 s30.Leader, v67, .int .i64 s30.High,
          v11]) (Sep.m3 hS71) hW rfl (all_c (SlF.one hv70) all_n) (Nat.le_of_ble_eq_true rfl) rfl (fun h73 hS74 => ?_)
      simp only [run_ops_nil, run_blk, run_reg, f55, run_mv, run_bin, put1_some, xadd, run_nil, B0, reduceIte, reduceEqDiff]
      have e75 := some_inj hF66
      exact hN44 _ _ _ e75.symm ⟨v67, c68, f52, f53, f54, rfl, hv70, (Sep.m3 (Sep.m2 (Sep.m2 (Sep.m3 (Sep.dc (Sep.m2 hS74))))))⟩
    rw [iteF hc57] at hF41
    simp only [run_exit, out_code, out_nil, B0, reduceIte, reduceEqDiff]
    have e76 := some_inj hF41
    exact hK45 _ _ _ e76.symm ⟨v32, c33, f52, f53, f54, f55, hv34, (Sep.m3 (Sep.m3 (Sep.m3 (Sep.m3 hS51))))⟩
  rintro ⟨s78, s79⟩ fr84 h85 rfl ⟨v81, c82, f87, f88, f89, f90, hv83, hS86⟩
  dsimp only [jnO] at hk40
  dsimp only at *
  unfold spec_NewGroup_j1 at hk40
  simp only [run_seq, run_reg, f89, run_ld, B0, reduceIte, reduceEqDiff]
  refine put1_eq (v := .agg [.int .i64 s79.Epoch, .int .i64 s79.Leader, v81, .int .i64 s79.High, v11]) ((xld_bs (Sep.bk _ _ _ (Sep.m1 hS86))).trans rfl) ?_
  simp only [f88, run_st, B0, reduceIte, reduceEqDiff]
  refine put2_stCx (us := [.int .i64 s79.Epoch, .int .i64 s79.Leader, v81, .int .i64 s79.High, v11]) rfl (cs' := [.int .i64 s79.Epoch, .int .i64 s79.Leader, v81,
      .int .i64 s79.High, v11]) hS86 hW rfl (all_c rfl (all_c rfl (all_c (SlF.one hv83) (all_c rfl (all_c (SlN.one hv14) all_n))))) (Nat.le_of_ble_eq_true rfl) rfl
      (fun h91 hS92 => ?_)
  simp only [run_mv, run_ops_nil, run_ret, B0, reduceIte, reduceEqDiff]
  have he := some_inj hk40
  subst he
  refine end_ret_m (mapM1 (res_cell (bb := b1) (oo := 0) (v := .agg [.int .i64 s79.Epoch, .int .i64 s79.Leader, v81, .int .i64 s79.High,
      v11]) (f88) ((xld_bs (Sep.bk _ _ _ hS92)).trans rfl)) (mapM1 (res_t (v := .bool true) (rfl)) mapM0)) ?_
  exact ⟨v81, c82, v11, c12, by first | trivial | rfl, hv83, hv14, (Sep.m1 (Sep.m1 (Sep.dc ((Sep.dc (hS92))))))⟩
theorem spec_l11Own_x {W : Nat → Bool} {h : Heap} (hW : ∀ b,
    (geL h.length) b → W b = true) (g_0 : Group) (r : Group) (hF : spec_l11Own g_0 = some r) : Ret E W 46 [.agg [.int .i64 g_0.Epoch, .int .i64 g_0.Leader, lst cI g_0.InStep,
    .int .i64 g_0.High, lst Replica.cells g_0.Replicas]] h (fun v h' => ∃ rv0_2 rc0_2 rv0_4 rc0_4, v = .agg [.int .i64 r.Epoch, .int .i64 r.Leader, rv0_2, .int .i64 r.High,
    rv0_4] ∧ SlF cI 1 3 rv0_2 r.InStep rc0_2 ∧ SlN Replica.R 3 51 rv0_4 r.Replicas rc0_4 ∧ Sep h' (geL h.length) (rc0_2 ++ (rc0_4 ++ ([])))) := by
  refine Ret.of (fn := x46) rfl (Run.of ?_)
  unfold spec_l11Own at hF
  have zf0 : argFr [.agg [.int .i64 g_0.Epoch, .int .i64 g_0.Leader, lst cI g_0.InStep, .int .i64 g_0.High, lst Replica.cells g_0.Replicas]] 0 = .agg [.int .i64 g_0.Epoch,
      .int .i64 g_0.Leader, lst cI g_0.InStep, .int .i64 g_0.High, lst Replica.cells g_0.Replicas] := rfl
  generalize argFr [.agg [.int .i64 g_0.Epoch, .int .i64 g_0.Leader, lst cI g_0.InStep, .int .i64 g_0.High, lst Replica.cells g_0.Replicas]] = fr0 at zf0 ⊢
  have hS : Sep h (geL h.length) [] := Sep.nil h
  simp only [x46, run_seq, run_reg, run_box, zf0, B0, reduceIte, reduceEqDiff]
  refine put2_boxC (cs := [.int .i64 g_0.Epoch, .int .i64 g_0.Leader, lst cI g_0.InStep, .int .i64 g_0.High, lst Replica.cells g_0.Replicas]) hS rfl rfl rfl (fun b1 h2 hS3 => ?_)
  simp only [run_new, B0, reduceIte, reduceEqDiff]
  refine put2_newC hS3 (fun b5 h6 hS7 => ?_)
  simp only [run_ops_nil, B0, reduceIte, reduceEqDiff]
  refine frz_stepC (Sep.m1 hS7) hW (by simp only [B0, reduceIte, reduceEqDiff]) (fun h9 hS10 => ?_)
  simp only [run_frz_nil, x46_7, run_seq, run_draw, d4_buildS, evp, B0, reduceIte, reduceEqDiff]
  refine put2d_buildSF (n := 1) (f := cI) ([] : List Int) hS10 rfl rfl (fun v11 c12 h13 hv14 hS15 => ?_)
  simp only [d1_new, B0, reduceIte, reduceEqDiff]
  refine put2d_newC hS15 (fun b17 h18 hS19 => ?_)
  simp only [d1_fa, put1d_some, Nat.reduceAdd, Nat.zero_add, Nat.add_zero, xfa_ref, d1_ld, ldd_ref, B0, reduceIte, reduceEqDiff]
  refine put1d_eq (v := .int .i64 g_0.Epoch) rfl ?_
  simp only [d1_fa, put1d_some, Nat.reduceAdd, Nat.zero_add, Nat.add_zero, xfa_ref, d1_ld, ldd_ref, B0, reduceIte, reduceEqDiff]
  refine put1d_eq (v := .int .i64 g_0.Leader) rfl ?_
  simp only [d4_fa, put1d_some, Nat.reduceAdd, Nat.zero_add, Nat.add_zero, xfa_ref, d4_ld, B0, reduceIte, reduceEqDiff]
  refine put1d_eq (v := lst cI g_0.InStep) rfl ?_
  simp only [d2_appQ, B0, reduceIte, reduceEqDiff]
  obtain ⟨l21, hx22, hF23⟩ := bind_some' hF
  refine q_app disjR0 ?_
  refine put2d_appF (f := cI) hv14 (Sep.m1 hS19) hW (fun _ => rfl) (fun _ => rfl) (firstOf_lst (fun _ => rfl)) hx22 (fun v24 c25 h26 hv27 hS28 => ?_)
  simp only [d1_fa, put1d_some, Nat.reduceAdd, Nat.zero_add, Nat.add_zero, xfa_ref, d1_ld, ldd_ref, B0, reduceIte, reduceEqDiff]
  refine put1d_eq (v := .int .i64 g_0.High) rfl ?_
  simp only [d4_build, evp, B0, reduceIte, reduceEqDiff]
  refine put1d_eq (v := .agg [.int .i64 g_0.Epoch, .int .i64 g_0.Leader, v24, .int .i64 g_0.High,
      .nil]) (pbuild_some (fill1 (us := [.int .i64 g_0.Epoch]) (vs := [.int .i64 g_0.Epoch, .int .i64 0, .nil, .int .i64 0,
      .nil]) rfl rfl (Nat.le_of_ble_eq_true rfl) rfl rfl (fill1 (us := [.int .i64 g_0.Leader]) (vs := [.int .i64 g_0.Epoch, .int .i64 g_0.Leader, .nil, .int .i64 0,
      .nil]) rfl rfl (Nat.le_of_ble_eq_true rfl) rfl rfl (fill1 (us := [v24]) (vs := [.int .i64 g_0.Epoch, .int .i64 g_0.Leader, v24, .int .i64 0,
      .nil]) (cells_one (SlF.one hv27)) rfl (Nat.le_of_ble_eq_true rfl) (all_c (SlF.one hv27) all_n) rfl (fill1 (us := [.int .i64 g_0.High]) (vs := [.int .i64 g_0.Epoch,
      .int .i64 g_0.Leader, v24, .int .i64 g_0.High, .nil]) rfl rfl (Nat.le_of_ble_eq_true rfl) rfl rfl fill0))))) ?_
  simp only [d3_st, B0, reduceIte, reduceEqDiff]
  refine put2d_stCx (us := [.int .i64 g_0.Epoch, .int .i64 g_0.Leader, v24, .int .i64 g_0.High, .nil]) rfl (cs' := [.int .i64 g_0.Epoch, .int .i64 g_0.Leader, v24,
      .int .i64 g_0.High, .nil]) (Sep.m1 hS28) hW rfl (all_c rfl (all_c rfl (all_c (SlF.one hv27) (all_c rfl (all_c rfl all_n))))) (Nat.le_of_ble_eq_true rfl) rfl
      (fun h30 hS31 => ?_)
  simp only [run_draw_nil, x46_6, run_seq, run_reg, run_fa, put1_some, Nat.reduceAdd, Nat.zero_add, Nat.add_zero, xfa_ref, run_ld, B0, reduceIte, reduceEqDiff]
  refine put1_eq (v := lst Replica.cells g_0.Replicas) rfl ?_
  simp only [run_len, put1_some, xlen_lst, run_mv, run_ops_nil, B0, reduceIte, reduceEqDiff]
  obtain ⟨oc44, hX46, hk47⟩ := jn_some hF23
  simp only [x46_5]
  refine rangeL_j (σ := Group) g_0.Replicas (fun i42 x43 s106 => spec_l11Own_b1 l21 i42 x43 s106) (fun s fr' h' => ∃ v39 c40,
      fr' 2 = .ptr b5 0 ∧ fr' 3 = .ptr b17 0 ∧ fr' 18 = lst Replica.cells g_0.Replicas ∧ SlN Replica.R 3 51 v39 s.Replicas c40 ∧ Sep h' (geL h.length) ([Blk1 b5 [.int .i64 0,
      .int .i64 0, .nil, .int .i64 0, .nil] 29] ++ ([Blk1 b17 [.int .i64 s.Epoch, .int .i64 s.Leader, v24, .int .i64 s.High, v39] 29] ++ (c25 ++ (c40 ++ ([])))))) hX46 ⟨.nil, [],
      rfl, rfl, rfl, SlN.nil, ((Sep.m2 (Sep.m1 (Sep.m1 hS31))) : Sep _ (geL h.length) ([Blk1 b5 [.int .i64 0, .int .i64 0, .nil, .int .i64 0,
      .nil] 29] ++ ([Blk1 b17 [.int .i64 g_0.Epoch, .int .i64 g_0.Leader, v24, .int .i64 g_0.High, .nil] 29] ++ (c25 ++ ([])))))⟩ (by simp only [B0, reduceIte,
      reduceEqDiff]) (by simp only [B0, reduceIte, reduceEqDiff]) (fun _ _ _ h => h) rfl rfl (fun _ _ _ _ h => h) (fun _ _ _ _ h => h) (fun _ _ _ _ h => h) (by decide) ?_ ?_
  · rintro i42 x43 s37 fr56 h57 hx62 ⟨v39, c40, f59, f60, f61, hv41, hS58⟩ f63 f64 oc45 hF48 hr49 Q50 hN51 hB55 hK52 hR53 hE54
    unfold spec_l11Own_b1 at hF48
    simp only [x46_3, run_seq, run_reg, f61, f63, run_ia, B0, reduceIte, reduceEqDiff]
    refine put1_eq (v := .ref (Replica.cells x43) 0) (xia_lstN hx62 rfl) ?_
    simp only [run_ld, B0, reduceIte, reduceEqDiff]
    refine put1_eq (v := .agg [lst Row.cells x43.Log, .int .i64 x43.Epoch, .int .i64 x43.Known]) rfl ?_
    simp only [run_new, B0, reduceIte, reduceEqDiff]
    refine put2_newC hS58 (fun b65 h66 hS67 => ?_)
    simp only [run_st, B0, reduceIte, reduceEqDiff]
    refine put2_stCx (us := [lst Row.cells x43.Log, .int .i64 x43.Epoch, .int .i64 x43.Known]) rfl (cs' := [lst Row.cells x43.Log, .int .i64 x43.Epoch,
        .int .i64 x43.Known]) hS67 hW rfl rfl (Nat.le_of_ble_eq_true rfl) rfl (fun h69 hS70 => ?_)
    simp only [run_ops_nil, x46_2, run_seq, run_reg, run_buildS, evp, B0, reduceIte, reduceEqDiff]
    refine put2_buildSF (n := 2) (f := Row.cells) ([] : List Row) hS70 rfl rfl (fun v71 c72 h73 hv74 hS75 => ?_)
    simp only [run_fa, put1_some, Nat.reduceAdd, Nat.zero_add, Nat.add_zero, xfa_ptr, run_ld, B0, reduceIte, reduceEqDiff]
    refine put1_eq (v := lst Row.cells x43.Log) ((xld_b (Sep.bk _ _ _ (Sep.m1 hS75))).trans rfl) ?_
    simp only [run_app, B0, reduceIte, reduceEqDiff]
    obtain ⟨l77, hx78, hF79⟩ := bind_some' hF48
    refine put2_appF (f := Row.cells) hv74 hS75 hW (fun _ => rfl) (fun _ => rfl) (firstOf_lst (fun _ => rfl)) hx78 (fun v80 c81 h82 hv83 hS84 => ?_)
    simp only [run_fa, put1_some, Nat.reduceAdd, Nat.zero_add, Nat.add_zero, xfa_ptr, run_st, B0, reduceIte, reduceEqDiff]
    refine put2_stCx (us := [v80]) (cells_one (SlF.one hv83)) (cs' := [v80, .int .i64 x43.Epoch,
        .int .i64 x43.Known]) (Sep.m1 hS84) hW rfl (all_c (SlF.one hv83) all_n) (Nat.le_of_ble_eq_true rfl) rfl (fun h86 hS87 => ?_)
    simp only [run_ops_nil, x46_1, run_reg, f60, run_fa, put1_some, Nat.reduceAdd, Nat.zero_add, Nat.add_zero, xfa_ptr, run_ld, B0, reduceIte, reduceEqDiff]
    refine put1_eq (v := v39) ((xld_b (Sep.bk _ _ _ (Sep.m3 hS87))).trans rfl) ?_
    simp only [run_ld, B0, reduceIte, reduceEqDiff]
    refine put1_eq (v := .agg [v80, .int .i64 x43.Epoch, .int .i64 x43.Known]) ((xld_bs (Sep.bk _ _ _ hS87)).trans rfl) ?_
    simp only [run_buildS, evp, B0, reduceIte, reduceEqDiff]
    refine put2_buildSN (R := Replica.R) (n := 3) (cs := [v80, .int .i64 x43.Epoch, .int .i64 x43.Known]) (os := c81) (Sep.m1 hS87) (fill1 (us := [v80, .int .i64 x43.Epoch,
        .int .i64 x43.Known]) (vs := [v80, .int .i64 x43.Epoch,
        .int .i64 x43.Known]) rfl rfl (Nat.le_of_ble_eq_true rfl) (all_c (SlF.one hv83) (all_c rfl (all_c rfl all_n))) rfl fill0) (Replica.RI (x :=
        (Replica.mk l77 x43.Epoch x43.Known)) hv83) rfl (fun v88 c89 h90 hv91 hS92 => ?_)
    simp only [run_app, B0, reduceIte, reduceEqDiff]
    obtain ⟨l94, hx95, hF96⟩ := bind_some' hF79
    refine put2_appN (R := Replica.R) (c := c40) hv41 hv91 (Sep.m5 hS92) hW Replica.RO.len Replica.RO.one hx95 (fun v97 c98 h99 hv100 hS101 => ?_)
    simp only [f60, run_fa, put1_some, Nat.reduceAdd, Nat.zero_add, Nat.add_zero, xfa_ptr, run_st, B0, reduceIte, reduceEqDiff]
    refine put2_stCx (us := [v97]) (cells_one (SlN.one hv100)) (cs' := [.int .i64 s37.Epoch, .int .i64 s37.Leader, v24, .int .i64 s37.High,
        v97]) (Sep.m3 hS101) hW rfl (all_c (SlN.one hv100) all_n) (Nat.le_of_ble_eq_true rfl) rfl (fun h103 hS104 => ?_)
    simp only [run_ops_nil, run_nil, B0, reduceIte, reduceEqDiff]
    have e105 := some_inj hF96
    exact hN51 _ _ _ e105.symm ⟨v97, c98, f59, f60, f61, hv100, (Sep.m3 (Sep.m2 (Sep.m3 (Sep.m1 (Sep.dc (Sep.m2 hS104))))))⟩ (f63) (f64)
  rintro s107 fr112 h113 rfl ⟨v109, c110, f115, f116, f117, hv111, hS114⟩
  dsimp only [jnO] at hk47
  unfold spec_l11Own_j1 at hk47
  simp only [run_seq, run_reg, f116, run_ld, B0, reduceIte, reduceEqDiff]
  refine put1_eq (v := .agg [.int .i64 s107.Epoch, .int .i64 s107.Leader, v24, .int .i64 s107.High, v109]) ((xld_bs (Sep.bk _ _ _ (Sep.m1 hS114))).trans rfl) ?_
  simp only [f115, run_st, B0, reduceIte, reduceEqDiff]
  refine put2_stCx (us := [.int .i64 s107.Epoch, .int .i64 s107.Leader, v24, .int .i64 s107.High, v109]) rfl (cs' := [.int .i64 s107.Epoch, .int .i64 s107.Leader, v24,
      .int .i64 s107.High, v109]) hS114 hW rfl (all_c rfl (all_c rfl (all_c (SlF.one hv27) (all_c rfl (all_c (SlN.one hv111) all_n))))) (Nat.le_of_ble_eq_true rfl) rfl
      (fun h118 hS119 => ?_)
  simp only [run_ops_nil, run_ret, B0, reduceIte, reduceEqDiff]
  have he := some_inj hk47
  subst he
  refine end_ret_cell (bb := b5) (oo := 0) (v := .agg [.int .i64 s107.Epoch, .int .i64 s107.Leader, v24, .int .i64 s107.High, v109]) (by simp only [f115, B0, reduceIte,
      reduceEqDiff]) ((xld_bs (Sep.bk _ _ _ hS119)).trans rfl) ?_
  exact ⟨v24, c25, v109, c110, by first | trivial | rfl, hv27, hv111, (Sep.m1 (Sep.m1 (Sep.dc ((Sep.dc (hS119))))))⟩
theorem spec_l11Same_x {W : Nat → Bool} {h : Heap} (hW : ∀ b,
    (geL h.length) b → W b = true) (k : Nat) (a_0 : List Row) (b_1 : List Row) (r : Int) (hF : spec_l11Same k a_0 b_1 = some r) : Ret E W 76 [lst Row.cells a_0,
    lst Row.cells b_1] h (fun v h' => cut h.length h' E.sz false 9 v = some (.int .i64 r)) := by
  refine Ret.of (fn := x76) rfl (Run.of ?_)
  unfold spec_l11Same at hF
  have zf0 : argFr [lst Row.cells a_0, lst Row.cells b_1] 0 = lst Row.cells a_0 := rfl
  have zf1 : argFr [lst Row.cells a_0, lst Row.cells b_1] 1 = lst Row.cells b_1 := rfl
  generalize argFr [lst Row.cells a_0, lst Row.cells b_1] = fr0 at zf0 zf1 ⊢
  have hS : Sep h (geL h.length) [] := Sep.nil h
  simp only [x76, run_seq, run_reg, run_mv, run_ops_nil, x76_4, x76_3, B0, reduceIte, reduceEqDiff]
  obtain ⟨oc5, hX7, hk8⟩ := jn_some hF
  simp only [x76_2]
  refine loopF_j (σ := Int) (fun s58 => spec_l11Same_b1 a_0 b_1 s58) (fun s fr' h' => fr' 0 = lst Row.cells a_0 ∧ fr' 1 = lst Row.cells b_1 ∧ fr' 5 = .int .i64 s ∧ Sep h'
      (geL h.length) ([])) hX7 ⟨zf0, zf1, rfl, hS⟩ (fun _ _ _ h => h) ?_ ?_
  · rintro s2 fr17 h18 ⟨f20, f21, f22, hS19⟩ oc6 hF9 hr10 Q11 hN12 hK13 hR14 hE15
    unfold spec_l11Same_b1 at hF9
    simp only [x76_1, run_seq, run_draw, f22, d4_mv, put1d_some, f20, d4_len, xlen_lst, d4_bin, xlss, B0, reduceIte, reduceEqDiff]
    refine draw_j 5 (fun fr' h' => Sep h' (geL h.length) ([]) ∧ fr' 15 = .bool ((decide (s2 < (List.length a_0 : Int))) && (decide (s2 <
        (List.length b_1 : Int)))) ∧ fr' 0 = lst Row.cells a_0 ∧ fr' 1 = lst Row.cells b_1 ∧ fr' 5 = .int .i64 s2) rfl (fun Q24 hN25 => ?_) ?_
    · simp only [List.take_succ_cons, List.take_zero]
      simp only [run_guardd (g := 10), B0, reduceIte, reduceEqDiff]
      refine guardd_split (t := (decide (s2 < (List.length a_0 : Int)))) (fun hg26 => ?_) (fun hg26 => ?_)
      · simp only [hg26, run_guardd (g := 10), guardd_true, f22, d4_mv, put1d_some, f21, d4_len, xlen_lst, d4_bin, xlss, d4_pick, xpick_t, run_draw_nil, run_nil, B0, reduceIte,
          reduceEqDiff]
        exact hN25 _ _ ⟨hS19, by rw [andT hg26]; simp only [B0, reduceIte, reduceEqDiff], f20, f21, f22⟩
      · simp only [hg26, run_guardd (g := 10), guardd_off, d4_pick, put1d_some, xpick_f, run_draw_nil, run_nil, B0, reduceIte, reduceEqDiff]
        exact hN25 _ _ ⟨hS19, by rw [andF hg26]; simp only [B0, reduceIte, reduceEqDiff], f20, f21, f22⟩
    rintro fr27 h32 ⟨hS33, f28, f29, f30, f31⟩
    simp only [List.drop_succ_cons, List.drop_zero]
    simp only [f28, d4_mv, put1d_some, B0, reduceIte, reduceEqDiff]
    obtain ⟨v37, hx38, hF39⟩ := bind_some' hF9
    refine draw_j 10 (fun fr' h' => Sep h' (geL h.length) ([]) ∧ fr' 26 = .bool v37 ∧ fr' 0 = lst Row.cells a_0 ∧ fr' 1 = lst Row.cells b_1 ∧ fr' 5 = .int .i64 s2) rfl
        (fun Q34 hN35 => ?_) ?_
    · simp only [List.take_succ_cons, List.take_zero]
      simp only [run_guardd (g := 16), B0, reduceIte, reduceEqDiff]
      refine guardd_split (t := ((decide (s2 < (List.length a_0 : Int))) && (decide (s2 < (List.length b_1 : Int))))) (fun hg36 => ?_) (fun hg36 => ?_)
      · rw [iteT hg36] at hx38
        obtain ⟨x40, hx41, hF42⟩ := bind_some' hx38
        simp only [hg36, run_guardd (g := 16), guardd_true, f29, d4_mv, put1d_some, f31, d4_ia, B0, reduceIte, reduceEqDiff]
        refine put1d_eq (v := .ref (Row.cells x40) 0) (xia_lst hx41 rfl) ?_
        simp only [hg36, run_guardd (g := 16), guardd_true, d4_ld, B0, reduceIte, reduceEqDiff]
        refine put1d_eq (v := .agg [.int .i64 x40.Epoch, .int .i64 x40.Value]) rfl ?_
        obtain ⟨x43, hx44, hF45⟩ := bind_some' hF42
        simp only [hg36, run_guardd (g := 16), guardd_true, f30, d4_mv, put1d_some, f31, d4_ia, B0, reduceIte, reduceEqDiff]
        refine put1d_eq (v := .ref (Row.cells x43) 0) (xia_lst hx44 rfl) ?_
        simp only [hg36, run_guardd (g := 16), guardd_true, d4_ld, B0, reduceIte, reduceEqDiff]
        refine put1d_eq (v := .agg [.int .i64 x43.Epoch, .int .i64 x43.Value]) rfl ?_
        simp only [hg36, run_guardd (g := 16), guardd_true, d4_eqs, B0, reduceIte, reduceEqDiff]
        refine put1d_eq (v := .bool ((x40.Epoch == x43.Epoch) && ((x40.Value == x43.Value) && true))) rfl ?_
        simp only [hg36, d4_pick, put1d_some, xpick_t, run_draw_nil, run_nil, B0, reduceIte, reduceEqDiff]
        have e46 := some_inj hF45
        exact hN35 _ _ ⟨hS33, by rw [← e46]; simp only [B0, reduceIte, reduceEqDiff], f29, f30, f31⟩
      · rw [iteF hg36] at hx38
        simp only [hg36, run_guardd (g := 16), guardd_off, d4_pick, put1d_some, xpick_f, run_draw_nil, run_nil, B0, reduceIte, reduceEqDiff]
        have e47 := some_inj hx38
        exact hN35 _ _ ⟨hS33, by rw [← e47]; simp only [B0, reduceIte, reduceEqDiff], f29, f30, f31⟩
    rintro fr48 h53 ⟨hS54, f49, f50, f51, f52⟩
    simp only [List.drop_succ_cons, List.drop_zero]
    simp only [run_draw_nil, f49, run_cond, B0, reduceIte, reduceEqDiff]
    refine cond_split (t := v37) (fun hc55 => ?_) (fun hc55 => ?_)
    · rw [iteT hc55] at hF39
      simp only [run_skip, run_block, run_reg, f52, run_mv, run_bin, put1_some, xadd, run_ops_nil, run_blk, run_nil, B0, reduceIte, reduceEqDiff]
      have e56 := some_inj hF39
      exact hN12 _ _ _ e56.symm ⟨f50, f51, rfl, hS54⟩
    rw [iteF hc55] at hF39
    simp only [run_exit, out_code, out_nil, B0, reduceIte, reduceEqDiff]
    have e57 := some_inj hF39
    exact hK13 _ _ _ e57.symm ⟨f50, f51, f52, hS54⟩
  rintro s59 fr60 h61 rfl ⟨f63, f64, f65, hS62⟩
  dsimp only [jnO] at hk8
  unfold spec_l11Same_j1 at hk8
  simp only [run_seq, run_reg, f65, run_mv, run_ops_nil, run_ret, B0, reduceIte, reduceEqDiff]
  have he := some_inj hk8
  subst he
  simp only [end_ret1, B0, reduceIte, reduceEqDiff]
  exact rfl
theorem spec_l11Fetch_x {W : Nat → Bool} {h : Heap} {lo : Nat → Prop} {S0 : List Obj} (hW : ∀ b,
    lo b → W b = true) (k : Nat) (g_0 : Group) (pv0_2 : XV) (pc0_2 : List Obj) (ph0_2 : SlF cI 1 3 pv0_2 g_0.InStep pc0_2) (pv0_4 : XV) (pc0_4 : List Obj)
    (ph0_4 : SlN Replica.R 3 51 pv0_4 g_0.Replicas pc0_4) (k_1 : Int) (n_2 : Int) (r : Group) (hF : spec_l11Fetch k g_0 k_1 n_2 = some r) (hS : Sep h lo (pc0_2 ++ (pc0_4 ++
    (S0)))) : Ret E W 47 [.agg [.int .i64 g_0.Epoch, .int .i64 g_0.Leader, pv0_2, .int .i64 g_0.High, pv0_4], .int .i64 k_1, .int .i64 n_2] h (fun v h' => ∃ rc0_2 rc0_4,
    v = .agg [.int .i64 r.Epoch, .int .i64 r.Leader, pv0_2, .int .i64 r.High,
    pv0_4] ∧ SlF cI 1 3 pv0_2 r.InStep rc0_2 ∧ SlN Replica.R 3 51 pv0_4 r.Replicas rc0_4 ∧ Sep h' lo (rc0_2 ++ (rc0_4 ++ (S0)))) := by
  refine Ret.of (fn := x47) rfl (Run.of ?_)
  unfold spec_l11Fetch at hF
  have zf0 : argFr [.agg [.int .i64 g_0.Epoch, .int .i64 g_0.Leader, pv0_2, .int .i64 g_0.High, pv0_4], .int .i64 k_1, .int .i64 n_2] 0 = .agg [.int .i64 g_0.Epoch,
      .int .i64 g_0.Leader, pv0_2, .int .i64 g_0.High, pv0_4] := rfl
  have zf1 : argFr [.agg [.int .i64 g_0.Epoch, .int .i64 g_0.Leader, pv0_2, .int .i64 g_0.High, pv0_4], .int .i64 k_1, .int .i64 n_2] 1 = .int .i64 k_1 := rfl
  have zf2 : argFr [.agg [.int .i64 g_0.Epoch, .int .i64 g_0.Leader, pv0_2, .int .i64 g_0.High, pv0_4], .int .i64 k_1, .int .i64 n_2] 2 = .int .i64 n_2 := rfl
  generalize argFr [.agg [.int .i64 g_0.Epoch, .int .i64 g_0.Leader, pv0_2, .int .i64 g_0.High, pv0_4], .int .i64 k_1, .int .i64 n_2] = fr0 at zf0 zf1 zf2 ⊢
  simp only [x47, run_seq, run_reg, run_box, zf0, B0, reduceIte, reduceEqDiff]
  refine put2_boxC (cs := [.int .i64 g_0.Epoch, .int .i64 g_0.Leader, pv0_2, .int .i64 g_0.High,
      pv0_4]) hS rfl rfl (all_c rfl (all_c rfl (all_c (SlF.one ph0_2) (all_c rfl (all_c (SlN.one ph0_4) all_n))))) (fun b1 h2 hS3 => ?_)
  simp only [run_new, B0, reduceIte, reduceEqDiff]
  refine put2_newC hS3 (fun b5 h6 hS7 => ?_)
  simp only [run_ops_nil, B0, reduceIte, reduceEqDiff]
  refine frz_stepC (Sep.m1 hS7) hW (by simp only [B0, reduceIte, reduceEqDiff]) (fun h9 hS10 => ?_)
  simp only [run_frz_nil, x47_10, run_seq, run_reg, run_fa, put1_some, Nat.reduceAdd, Nat.zero_add, Nat.add_zero, xfa_ref, run_ld, B0, reduceIte, reduceEqDiff]
  refine put1_eq (v := pv0_4) rfl ?_
  simp only [run_fa, put1_some, Nat.reduceAdd, Nat.zero_add, Nat.add_zero, xfa_ref, run_ld, B0, reduceIte, reduceEqDiff]
  refine put1_eq (v := .int .i64 g_0.Leader) rfl ?_
  obtain ⟨x11, hx12, hF13⟩ := bind_some' hF
  simp only [run_ia, B0, reduceIte, reduceEqDiff]
  obtain ⟨b14, hb15⟩ := SlN.isrow ph0_4 (geti_ne hx12)
  refine put1_eq (SlN.ia ph0_4 hb15 hx12) ?_
  obtain ⟨c16, cs17, os18, hv19, hR20, hS21⟩ := SlG.opn (SlN.toG ph0_4 hb15 Replica.RO.len) hx12 hk_nil Replica.RO.len (Sep.m2 hS10)
  obtain ⟨v23, c24, hv25, rfl, rfl⟩ := hR20
  have hS22 := Sep.no1 hS21
  simp only [run_fa, put1_some, Nat.reduceAdd, Nat.zero_add, Nat.add_zero, xfa_ptr, run_ld, B0, reduceIte, reduceEqDiff]
  refine put1_eq (v := v23) ((SlG.ld (o := 0) hv19 rfl hx12 hS22 (Nat.le_of_ble_eq_true rfl)).trans rfl) ?_
  simp only [run_mv, run_ops_nil, x47_9, run_seq, run_reg, run_fa, put1_some, Nat.reduceAdd, Nat.zero_add, Nat.add_zero, xfa_ref, run_ld, B0, reduceIte, reduceEqDiff]
  refine put1_eq (v := pv0_4) rfl ?_
  obtain ⟨x27, hx28, hF29⟩ := bind_some' hF13
  simp only [zf1, run_mv, run_ia, B0, reduceIte, reduceEqDiff]
  refine put1_eq (SlG.ia hv19 hx28) ?_
  obtain ⟨hp30, hF31⟩ := ck_some hF29
  have hn32 := tn_ne hp30 hx12 hx28
  obtain ⟨c33, cs34, os35, hv36, hR37, hS38⟩ := SlG.opn hv19 hx28 ((hk_ne hn32).trans hk_nil) Replica.RO.len hS22
  obtain ⟨v40, c41, hv42, rfl, rfl⟩ := hR37
  have hS39 := Sep.no1 hS38
  simp only [run_ld, B0, reduceIte, reduceEqDiff]
  refine put1_eq (v := .agg [v40, .int .i64 x27.Epoch, .int .i64 x27.Known]) ((SlG.lds (o := 0) hv36 rfl hx28 hS39 (Nat.le_of_ble_eq_true rfl)).trans rfl) ?_
  simp only [run_new, B0, reduceIte, reduceEqDiff]
  refine put2_newC hS39 (fun b44 h45 hS46 => ?_)
  simp only [run_st, B0, reduceIte, reduceEqDiff]
  refine put2_stCx (us := [v40, .int .i64 x27.Epoch, .int .i64 x27.Known]) rfl (cs' := [v40, .int .i64 x27.Epoch,
      .int .i64 x27.Known]) hS46 hW rfl (all_c (SlF.one hv42) (all_c rfl (all_c rfl all_n))) (Nat.le_of_ble_eq_true rfl) rfl (fun h48 hS49 => ?_)
  simp only [run_ops_nil, x47_8, run_seq, run_reg, run_fa, put1_some, Nat.reduceAdd, Nat.zero_add, Nat.add_zero, xfa_ptr, run_ld, B0, reduceIte, reduceEqDiff]
  refine put1_eq (v := v40) ((xld_b (Sep.bk _ _ _ hS49)).trans rfl) ?_
  obtain ⟨v50, hx51, hF52⟩ := bind_some' hF31
  simp only [run_mv, run_call, B0, reduceIte, reduceEqDiff]
  refine call1 rfl (mapM1 (SlF.snap hv42 (Sep.m2 hS49) rfl (fun _ => rfl) (fun _ => rfl)) (mapM1 (SlF.snap hv25 (Sep.m3 hS49) rfl (fun _ => rfl) (fun _ => rfl)) mapM0))
      (spec_l11Same_x (fun b hb => decide_eq_true hb) k x27.Log x11.Log v50 hx51) ?_
  simp only [run_mv, run_ops_nil, x47_7, run_seq, run_reg, zf2, run_len, put1_some, SlF.plen hv25, run_bin, xsub, xgtr, x47_2, run_cond, B0, reduceIte, reduceEqDiff]
  obtain ⟨s53, hX55, hk56⟩ := bind_some' hF52
  refine cond_j (t := (decide ((IntKind.wrap .i64 ((List.length x11.Log : Int) - v50)) < n_2)))
      (fun fr' h' => fr' 1 = .int .i64 k_1 ∧ fr' 2 = .int .i64 s53 ∧ fr' 3 = .ref [.int .i64 g_0.Epoch, .int .i64 g_0.Leader, pv0_2, .int .i64 g_0.High,
      pv0_4] 0 ∧ fr' 6 = .ptr b5 0 ∧ fr' 7 = v23 ∧ fr' 8 = .ptr b44 0 ∧ fr' 9 = .int .i64 v50 ∧ Sep h' lo (pc0_2 ++ (c33 ++ ([Blk1 b5 [.int .i64 0, .int .i64 0, .nil, .int .i64 0,
      .nil] 29] ++ (c24 ++ ([Blk1 b44 [v40, .int .i64 x27.Epoch, .int .i64 x27.Known] 51] ++ (c41 ++ (S0)))))))) (fun Q57 hN58 hR59 hE60 => ⟨fun hc61 => ?_, fun hc61 => ?_⟩) ?_
  · rw [iteT hc61] at hX55
    simp only [x47_1, run_reg, run_mv, run_len, put1_some, SlF.plen hv25, run_bin, xsub, run_ops_nil, run_nil, B0, reduceIte, reduceEqDiff]
    have e62 := some_inj hX55
    subst e62
    exact hN58 _ _ ⟨zf1, rfl, rfl, rfl, rfl, rfl, rfl, (Sep.m5 (Sep.m4 (Sep.m4 (Sep.m3 (Sep.m1 (Sep.m2 hS49))))))⟩
  · rw [iteF hc61] at hX55
    simp only [run_skip, run_nil, B0, reduceIte, reduceEqDiff]
    have e63 := some_inj hX55
    subst e63
    exact hN58 _ _ ⟨zf1, zf2, rfl, rfl, rfl, rfl, rfl, (Sep.m5 (Sep.m4 (Sep.m4 (Sep.m3 (Sep.m1 (Sep.m2 hS49))))))⟩
  rintro fr64 h65 ⟨f67, f68, f69, f70, f71, f72, f73, hS66⟩
  unfold spec_l11Fetch_j1 at hk56
  simp only [x47_6, run_seq, run_reg, run_buildS, evp, B0, reduceIte, reduceEqDiff]
  refine put2_buildSF (n := 2) (f := Row.cells) ([] : List Row) hS66 rfl rfl (fun v74 c75 h76 hv77 hS78 => ?_)
  obtain ⟨l80, hx81, hF82⟩ := bind_some' hk56
  simp only [f71, run_mv, f73, f68, run_bin, put1_some, xadd, run_slc, Option.map_some, Option.map_none, B0, reduceIte, reduceEqDiff]
  obtain ⟨w83, i84, he85, hw86⟩ := SlF.win (f := Row.cells) (ty := 98) none (some (IntKind.wrap .i64 (v50 + s53))) hv25 hx81 (Sep.m4 hS78)
  refine put1_eq he85 ?_
  simp only [run_app, B0, reduceIte, reduceEqDiff]
  obtain ⟨l87, hx88, hF89⟩ := bind_some' hF82
  refine put2_appF (f := Row.cells) hv77 hS78 hW (fun _ => rfl) (fun _ => rfl) (SlW.first hw86 hv25 (Sep.m4 hS78) (fun _ => rfl)) hx88 (fun v90 c91 h92 hv93 hS94 => ?_)
  simp only [f72, run_fa, put1_some, Nat.reduceAdd, Nat.zero_add, Nat.add_zero, xfa_ptr, run_st, B0, reduceIte, reduceEqDiff]
  refine put2_stCx (us := [v90]) (cells_one (SlF.one hv93)) (cs' := [v90, .int .i64 x27.Epoch,
      .int .i64 x27.Known]) (Sep.m5 hS94) hW rfl (all_c (SlF.one hv93) all_n) (Nat.le_of_ble_eq_true rfl) rfl (fun h96 hS97 => ?_)
  simp only [run_ops_nil, x47_5, run_seq, run_reg, f69, run_fa, put1_some, Nat.reduceAdd, Nat.zero_add, Nat.add_zero, xfa_ref, run_ld, B0, reduceIte, reduceEqDiff]
  refine put1_eq (v := .int .i64 g_0.Epoch) rfl ?_
  simp only [f72, run_fa, put1_some, Nat.reduceAdd, Nat.zero_add, Nat.add_zero, xfa_ptr, run_st, B0, reduceIte, reduceEqDiff]
  refine put2_stCx (us := [.int .i64 g_0.Epoch]) rfl (cs' := [v90, .int .i64 g_0.Epoch, .int .i64 x27.Known]) hS97 hW rfl rfl (Nat.le_of_ble_eq_true rfl) rfl (fun h98 hS99 => ?_)
  simp only [run_ops_nil, x47_4, run_seq, run_reg, f72, run_fa, put1_some, Nat.reduceAdd, Nat.zero_add, Nat.add_zero, xfa_ptr, run_ld, B0, reduceIte, reduceEqDiff]
  refine put1_eq (v := v90) ((xld_b (Sep.bk _ _ _ hS99)).trans rfl) ?_
  simp only [run_len, put1_some, SlF.plen hv93, f72, run_fa, Nat.reduceAdd, Nat.zero_add, Nat.add_zero, xfa_ptr, run_st, B0, reduceIte, reduceEqDiff]
  refine put2_stCx (us := [.int .i64 (List.length l87 : Int)]) rfl (cs' := [v90, .int .i64 g_0.Epoch,
      .int .i64 (List.length l87 : Int)]) hS99 hW rfl rfl (Nat.le_of_ble_eq_true rfl) rfl (fun h100 hS101 => ?_)
  simp only [run_ops_nil, x47_3, run_seq, run_reg, f69, run_fa, put1_some, Nat.reduceAdd, Nat.zero_add, Nat.add_zero, xfa_ref, run_ld, B0, reduceIte, reduceEqDiff]
  refine put1_eq (v := pv0_4) rfl ?_
  simp only [f67, run_mv, f72, run_ld, B0, reduceIte, reduceEqDiff]
  refine put1_eq (v := .agg [v90, .int .i64 g_0.Epoch, .int .i64 (List.length l87 : Int)]) ((xld_bs (Sep.bk _ _ _ hS101)).trans rfl) ?_
  simp only [run_ia, B0, reduceIte, reduceEqDiff]
  refine put1_eq (SlG.ia hv36 hx28) ?_
  simp only [run_st, B0, reduceIte, reduceEqDiff]
  refine put2_stGx (us := [v90, .int .i64 g_0.Epoch, .int .i64 (List.length l87 : Int)]) (o := 0) (cs' := [v90, .int .i64 g_0.Epoch,
      .int .i64 (List.length l87 : Int)]) rfl hv36 rfl hx28 (Sep.m3 hS101) hW rfl (all_c (SlF.one hv93) (all_c rfl (all_c rfl all_n))) (Nat.le_of_ble_eq_true rfl) rfl
      (fun c104 h102 hv105 hS103 => ?_)
  simp only [run_ops_nil, run_seq, run_reg, f69, run_ld, B0, reduceIte, reduceEqDiff]
  refine put1_eq (v := .agg [.int .i64 g_0.Epoch, .int .i64 g_0.Leader, pv0_2, .int .i64 g_0.High, pv0_4]) rfl ?_
  simp only [f70, run_st, B0, reduceIte, reduceEqDiff]
  refine put2_stCx (us := [.int .i64 g_0.Epoch, .int .i64 g_0.Leader, pv0_2, .int .i64 g_0.High, pv0_4]) rfl (cs' := [.int .i64 g_0.Epoch, .int .i64 g_0.Leader, pv0_2,
      .int .i64 g_0.High, pv0_4]) (Sep.m4 hS103) hW rfl (all_c rfl (all_c rfl (all_c (SlF.one ph0_2) (all_c rfl (all_c (SlG.one hv105) all_n))))) (Nat.le_of_ble_eq_true rfl) rfl
      (fun h106 hS107 => ?_)
  simp only [run_ops_nil, run_ret, B0, reduceIte, reduceEqDiff]
  obtain ⟨c108, hv109, hS110⟩ := SlG.cls (e' := (Replica.mk l87 g_0.Epoch (List.length l87 : Int))) (c := c104) (os := c91) hv105 rfl hx28 ((hk_ne hn32).trans hk_nil) (Replica.RI
      (x := (Replica.mk l87 g_0.Epoch (List.length l87 : Int))) hv93) (Sep.m2 (Sep.m3 hS107))
  have hx111 := geti_set (x' := (Replica.mk l87 g_0.Epoch (List.length l87 : Int))) hx28
  have hx112 := geti_set_ne (e := (Replica.mk l87 g_0.Epoch (List.length l87 : Int))) hx12 (Ne.symm hn32)
  obtain ⟨c113, hv114, hS115⟩ := SlG.cls0 (c := c108) (os := c24) hv109 rfl hx112 hk_nil (Replica.RI (x := x11) hv25) (Sep.m1 (Sep.m4 hS110))
  have hv116 := SlG.toN hv114
  have he := some_inj hF89
  subst he
  refine end_ret_cell (bb := b5) (oo := 0) (v := .agg [.int .i64 g_0.Epoch, .int .i64 g_0.Leader, pv0_2, .int .i64 g_0.High, pv0_4]) (by simp only [f70, B0, reduceIte,
      reduceEqDiff]) ((xld_bs (Sep.bk _ _ _ (Sep.m1 hS115))).trans rfl) ?_
  exact ⟨pc0_2, c113, by first | trivial | rfl, ph0_2, hv116, (Sep.m1 (Sep.dc (Sep.m2 (Sep.dc (Sep.m1 (Sep.dc (Sep.m1 hS115)))))))⟩
theorem spec_l1Put_x {W : Nat → Bool} {h : Heap} {lo : Nat → Prop} {S0 : List Obj} (hW : ∀ b,
    lo b → W b = true) (k : Nat) (pv0 : XV) (pc0 : List Obj) (l_0 : List Int) (ph0 : SlF cI 1 3 pv0 l_0 pc0) (n_1 : Int) (r : List Int) (hF : spec_l1Put k l_0 n_1 = some r)
    (hS : Sep h lo (pc0 ++ (S0))) : Ret E W 48 [pv0, .int .i64 n_1] h (fun v h' => ∃ rv0 rc0, v = rv0 ∧ SlF cI 1 3 rv0 r rc0 ∧ Sep h' lo (rc0 ++ (S0))) := by
  refine Ret.of (fn := x48) rfl (Run.of ?_)
  unfold spec_l1Put at hF
  have zf0 : argFr [pv0, .int .i64 n_1] 0 = pv0 := rfl
  have zf1 : argFr [pv0, .int .i64 n_1] 1 = .int .i64 n_1 := rfl
  generalize argFr [pv0, .int .i64 n_1] = fr0 at zf0 zf1 ⊢
  simp only [x48, run_seq, run_reg, run_mv, run_ops_nil, x48_10, x48_9, B0, reduceIte, reduceEqDiff]
  obtain ⟨oc5, hX7, hk8⟩ := jn_some hF
  simp only [x48_2]
  refine loopF_j (σ := Int) (fun s47 => spec_l1Put_b1 l_0 n_1 s47) (fun s fr' h' => fr' 0 = pv0 ∧ fr' 1 = .int .i64 n_1 ∧ fr' 5 = .int .i64 s ∧ Sep h' lo (pc0 ++ (S0))) hX7 ⟨zf0,
      zf1, rfl, hS⟩ (fun _ _ _ h => h) ?_ ?_
  · rintro s2 fr17 h18 ⟨f20, f21, f22, hS19⟩ oc6 hF9 hr10 Q11 hN12 hK13 hR14 hE15
    unfold spec_l1Put_b1 at hF9
    simp only [x48_1, run_seq, run_reg, f22, run_mv, f20, run_len, put1_some, SlF.plen ph0, run_bin, xlss, B0, reduceIte, reduceEqDiff]
    obtain ⟨v27, hx28, hF29⟩ := bind_some' hF9
    refine ops_j 7 (fun fr' h' => Sep h' lo (pc0 ++ (S0)) ∧ fr' 18 = .bool v27 ∧ fr' 0 = pv0 ∧ fr' 1 = .int .i64 n_1 ∧ fr' 5 = .int .i64 s2) (fun Q24 hN25 => ?_) ?_
    · simp only [List.take_succ_cons, List.take_zero]
      simp only [run_guard (g := 11), B0, reduceIte, reduceEqDiff]
      refine guard_split (t := (decide (s2 < (List.length l_0 : Int)))) (fun hg26 => ?_) (fun hg26 => ?_)
      · rw [iteT hg26] at hx28
        obtain ⟨x30, hx31, hF32⟩ := bind_some' hx28
        simp only [hg26, run_guard (g := 11), guard_true, f20, run_mv, f22, run_ia, B0, reduceIte, reduceEqDiff]
        obtain ⟨b33, hb34⟩ := SlF.isrow ph0 (geti_ne hx31)
        refine put1_eq (SlF.ia ph0 hb34 hx31) ?_
        simp only [hg26, run_guard (g := 11), guard_true, run_ld, B0, reduceIte, reduceEqDiff]
        refine put1_eq (v := .int .i64 x30) ((SlF.ld (o := 0) ph0 hS19 hb34 hx31 (fun _ => rfl) (Nat.le_of_ble_eq_true rfl)).trans rfl) ?_
        simp only [hg26, run_guard (g := 11), guard_true, f21, run_mv, run_bin, put1_some, xlss, run_pick, xpick_t, run_ops_nil, run_nil, B0, reduceIte, reduceEqDiff]
        have e35 := some_inj hF32
        exact hN25 _ _ ⟨hS19, by rw [← e35]; simp only [B0, reduceIte, reduceEqDiff], f20, f21, f22⟩
      · rw [iteF hg26] at hx28
        simp only [hg26, run_guard (g := 11), guard_off, run_pick, put1_some, xpick_f, run_ops_nil, run_nil, B0, reduceIte, reduceEqDiff]
        have e36 := some_inj hx28
        exact hN25 _ _ ⟨hS19, by rw [← e36]; simp only [B0, reduceIte, reduceEqDiff], f20, f21, f22⟩
    rintro fr37 h42 ⟨hS43, f38, f39, f40, f41⟩
    simp only [List.drop_succ_cons, List.drop_zero]
    simp only [run_ops_nil, f38, run_cond, B0, reduceIte, reduceEqDiff]
    refine cond_split (t := v27) (fun hc44 => ?_) (fun hc44 => ?_)
    · rw [iteT hc44] at hF29
      simp only [run_skip, run_block, run_reg, f41, run_mv, run_bin, put1_some, xadd, run_ops_nil, run_blk, run_nil, B0, reduceIte, reduceEqDiff]
      have e45 := some_inj hF29
      exact hN12 _ _ _ e45.symm ⟨f39, f40, rfl, hS43⟩
    rw [iteF hc44] at hF29
    simp only [run_exit, out_code, out_nil, B0, reduceIte, reduceEqDiff]
    have e46 := some_inj hF29
    exact hK13 _ _ _ e46.symm ⟨f39, f40, f41, hS43⟩
  rintro s48 fr49 h50 rfl ⟨f52, f53, f54, hS51⟩
  dsimp only [jnO] at hk8
  unfold spec_l1Put_j1 at hk8
  simp only [x48_8, run_seq, run_reg, f54, run_mv, f52, run_len, put1_some, SlF.plen ph0, run_bin, xlss, B0, reduceIte, reduceEqDiff]
  obtain ⟨v58, hx59, hF60⟩ := bind_some' hk8
  refine ops_j 7 (fun fr' h' => Sep h' lo (pc0 ++ (S0)) ∧ fr' 32 = .bool v58 ∧ fr' 0 = pv0 ∧ fr' 1 = .int .i64 n_1 ∧ fr' 5 = .int .i64 s48) (fun Q55 hN56 => ?_) ?_
  · simp only [List.take_succ_cons, List.take_zero]
    simp only [run_guard (g := 25), B0, reduceIte, reduceEqDiff]
    refine guard_split (t := (decide (s48 < (List.length l_0 : Int)))) (fun hg57 => ?_) (fun hg57 => ?_)
    · rw [iteT hg57] at hx59
      obtain ⟨x61, hx62, hF63⟩ := bind_some' hx59
      simp only [hg57, run_guard (g := 25), guard_true, f52, run_mv, f54, run_ia, B0, reduceIte, reduceEqDiff]
      obtain ⟨b64, hb65⟩ := SlF.isrow ph0 (geti_ne hx62)
      refine put1_eq (SlF.ia ph0 hb65 hx62) ?_
      simp only [hg57, run_guard (g := 25), guard_true, run_ld, B0, reduceIte, reduceEqDiff]
      refine put1_eq (v := .int .i64 x61) ((SlF.ld (o := 0) ph0 hS51 hb65 hx62 (fun _ => rfl) (Nat.le_of_ble_eq_true rfl)).trans rfl) ?_
      simp only [hg57, run_guard (g := 25), guard_true, f53, run_mv, run_bin, put1_some, xeql, run_pick, xpick_t, run_ops_nil, run_nil, B0, reduceIte, reduceEqDiff]
      have e66 := some_inj hF63
      exact hN56 _ _ ⟨hS51, by rw [← e66]; simp only [B0, reduceIte, reduceEqDiff], f52, f53, f54⟩
    · rw [iteF hg57] at hx59
      simp only [hg57, run_guard (g := 25), guard_off, run_pick, put1_some, xpick_f, run_ops_nil, run_nil, B0, reduceIte, reduceEqDiff]
      have e67 := some_inj hx59
      exact hN56 _ _ ⟨hS51, by rw [← e67]; simp only [B0, reduceIte, reduceEqDiff], f52, f53, f54⟩
  rintro fr68 h73 ⟨hS74, f69, f70, f71, f72⟩
  simp only [List.drop_succ_cons, List.drop_zero]
  simp only [run_ops_nil, x48_3, f69, run_cond, B0, reduceIte, reduceEqDiff]
  refine cond_split (t := v58) (fun hc75 => ?_) (fun hc75 => ?_)
  · rw [iteT hc75] at hF60
    simp only [run_seq, run_reg, f70, run_mv, run_ops_nil, run_ret, B0, reduceIte, reduceEqDiff]
    have he := some_inj hF60
    subst he
    simp only [end_ret1, B0, reduceIte, reduceEqDiff]
    exact ⟨pv0, pc0, by first | trivial | rfl, ph0, hS74⟩
  rw [iteF hc75] at hF60
  obtain ⟨l76, hx77, hF78⟩ := bind_some' hF60
  simp only [run_skip, x48_7, run_seq, run_reg, run_mv, run_ops_nil, x48_6, f70, f72, run_slc, Option.map_some, Option.map_none, B0, reduceIte, reduceEqDiff]
  obtain ⟨w79, i80, he81, hw82⟩ := SlF.win (f := cI) (ty := 3) none (some s48) ph0 hx77 hS74
  refine put1_eq he81 ?_
  simp only [run_app, B0, reduceIte, reduceEqDiff]
  obtain ⟨l83, hx84, hF85⟩ := bind_some' hF78
  refine put2_appF (f := cI) SlF.nil hS74 hW (fun _ => rfl) (fun _ => rfl) (SlW.first hw82 ph0 hS74 (fun _ => rfl)) hx84 (fun v86 c87 h88 hv89 hS90 => ?_)
  simp only [run_mv, run_ops_nil, x48_5, run_seq, run_reg, f71, run_buildS, evp, B0, reduceIte, reduceEqDiff]
  refine put2_buildSF (n := 1) (f := cI) [n_1] hS90 rfl rfl (fun v92 c93 h94 hv95 hS96 => ?_)
  simp only [run_app, B0, reduceIte, reduceEqDiff]
  obtain ⟨l98, hx99, hF100⟩ := bind_some' hF85
  refine put2_appF (f := cI) hv89 (Sep.m1 hS96) hW (fun _ => rfl) (fun _ => rfl) (SlF.first hv95 hS96 (fun _ => rfl)) hx99 (fun v101 c102 h103 hv104 hS105 => ?_)
  obtain ⟨l107, hx108, hF109⟩ := bind_some' hF100
  simp only [run_mv, run_ops_nil, x48_4, run_seq, run_reg, f70, f72, run_slc, Option.map_some, Option.map_none, B0, reduceIte, reduceEqDiff]
  obtain ⟨w110, i111, he112, hw113⟩ := SlF.win (f := cI) (ty := 3) (some s48) none ph0 hx108 (Sep.m2 hS105)
  refine put1_eq he112 ?_
  simp only [run_app, B0, reduceIte, reduceEqDiff]
  obtain ⟨l114, hx115, hF116⟩ := bind_some' hF109
  refine put2_appF (f := cI) hv104 hS105 hW (fun _ => rfl) (fun _ => rfl) (SlW.first hw113 ph0 (Sep.m2 hS105) (fun _ => rfl)) hx115 (fun v117 c118 h119 hv120 hS121 => ?_)
  simp only [run_mv, run_ops_nil, run_ret, B0, reduceIte, reduceEqDiff]
  have he := some_inj hF116
  subst he
  simp only [end_ret1, B0, reduceIte, reduceEqDiff]
  exact ⟨v117, c118, by first | trivial | rfl, hv120, (Sep.dc (Sep.m1 (Sep.dc (Sep.m1 hS121))))⟩
theorem spec_l11Least_x {W : Nat → Bool} {h : Heap} (hW : ∀ b,
    (geL h.length) b → W b = true) (g_0 : Group) (r : Int) (hF : spec_l11Least g_0 = some r) : Ret E W 49 [.agg [.int .i64 g_0.Epoch, .int .i64 g_0.Leader, lst cI g_0.InStep,
    .int .i64 g_0.High, lst Replica.cells g_0.Replicas]] h (fun v h' => cut h.length h' E.sz false 9 v = some (.int .i64 r)) := by
  refine Ret.of (fn := x49) rfl (Run.of ?_)
  unfold spec_l11Least at hF
  have zf0 : argFr [.agg [.int .i64 g_0.Epoch, .int .i64 g_0.Leader, lst cI g_0.InStep, .int .i64 g_0.High, lst Replica.cells g_0.Replicas]] 0 = .agg [.int .i64 g_0.Epoch,
      .int .i64 g_0.Leader, lst cI g_0.InStep, .int .i64 g_0.High, lst Replica.cells g_0.Replicas] := rfl
  generalize argFr [.agg [.int .i64 g_0.Epoch, .int .i64 g_0.Leader, lst cI g_0.InStep, .int .i64 g_0.High, lst Replica.cells g_0.Replicas]] = fr0 at zf0 ⊢
  have hS : Sep h (geL h.length) [] := Sep.nil h
  simp only [x49, run_seq, run_reg, run_box, zf0, B0, reduceIte, reduceEqDiff]
  refine put2_boxC (cs := [.int .i64 g_0.Epoch, .int .i64 g_0.Leader, lst cI g_0.InStep, .int .i64 g_0.High, lst Replica.cells g_0.Replicas]) hS rfl rfl rfl (fun b1 h2 hS3 => ?_)
  simp only [run_mv, run_ops_nil, B0, reduceIte, reduceEqDiff]
  refine frz_stepC hS3 hW (by simp only [B0, reduceIte, reduceEqDiff]) (fun h5 hS6 => ?_)
  simp only [run_frz_nil, x49_9, run_seq, run_reg, run_mv, run_ops_nil, x49_8, run_fa, put1_some, Nat.reduceAdd, Nat.zero_add, Nat.add_zero, xfa_ref, run_ld, B0, reduceIte,
      reduceEqDiff]
  refine put1_eq (v := lst cI g_0.InStep) rfl ?_
  simp only [run_len, put1_some, xlen_lst, run_mv, run_ops_nil, B0, reduceIte, reduceEqDiff]
  obtain ⟨oc11, hX13, hk14⟩ := jn_some hF
  simp only [x49_7]
  refine rangeL_j (σ := Int) g_0.InStep (fun i9 x10 s50 => spec_l11Least_b1 g_0 i9 x10 s50) (fun s fr' h' => fr' 1 = .ref [.int .i64 g_0.Epoch, .int .i64 g_0.Leader,
      lst cI g_0.InStep, .int .i64 g_0.High, lst Replica.cells g_0.Replicas] 0 ∧ fr' 3 = .int .i64 s ∧ fr' 8 = lst cI g_0.InStep ∧ Sep h' (geL h.length) ([])) hX13 ⟨rfl, rfl, rfl,
      hS6⟩ (by simp only [B0, reduceIte, reduceEqDiff]) (by simp only [B0, reduceIte,
      reduceEqDiff]) (fun _ _ _ h => h) rfl rfl (fun _ _ _ _ h => h) (fun _ _ _ _ h => h) (fun _ _ _ _ h => h) (by decide) ?_ ?_
  · rintro i9 x10 s8 fr23 h24 hx29 ⟨f26, f27, f28, hS25⟩ f30 f31 oc12 hF15 hr16 Q17 hN18 hB22 hK19 hR20 hE21
    unfold spec_l11Least_b1 at hF15
    simp only [x49_5, run_seq, run_reg, f28, f30, run_ia, B0, reduceIte, reduceEqDiff]
    refine put1_eq (v := .ref (cI x10) 0) (xia_lstN hx29 rfl) ?_
    simp only [run_ld, B0, reduceIte, reduceEqDiff]
    refine put1_eq (v := .int .i64 x10) rfl ?_
    simp only [run_mv, run_ops_nil, x49_4, run_seq, run_reg, f26, run_fa, put1_some, Nat.reduceAdd, Nat.zero_add, Nat.add_zero, xfa_ref, run_ld, B0, reduceIte, reduceEqDiff]
    refine put1_eq (v := lst Replica.cells g_0.Replicas) rfl ?_
    obtain ⟨x32, hx33, hF34⟩ := bind_some' hF15
    simp only [run_mv, run_ia, B0, reduceIte, reduceEqDiff]
    refine put1_eq (v := .ref (Replica.cells x32) 0) (xia_lst hx33 rfl) ?_
    simp only [run_ld, B0, reduceIte, reduceEqDiff]
    refine put1_eq (v := .agg [lst Row.cells x32.Log, .int .i64 x32.Epoch, .int .i64 x32.Known]) rfl ?_
    simp only [run_new, B0, reduceIte, reduceEqDiff]
    refine put2_newC hS25 (fun b35 h36 hS37 => ?_)
    simp only [run_st, B0, reduceIte, reduceEqDiff]
    refine put2_stCx (us := [lst Row.cells x32.Log, .int .i64 x32.Epoch, .int .i64 x32.Known]) rfl (cs' := [lst Row.cells x32.Log, .int .i64 x32.Epoch,
        .int .i64 x32.Known]) hS37 hW rfl rfl (Nat.le_of_ble_eq_true rfl) rfl (fun h39 hS40 => ?_)
    simp only [run_ops_nil, B0, reduceIte, reduceEqDiff]
    refine frz_stepC hS40 hW (by simp only [B0, reduceIte, reduceEqDiff]) (fun h41 hS42 => ?_)
    simp only [run_frz_nil, x49_3, run_seq, run_reg, run_fa, put1_some, Nat.reduceAdd, Nat.zero_add, Nat.add_zero, xfa_ref, run_ld, B0, reduceIte, reduceEqDiff]
    refine put1_eq (v := .int .i64 x32.Epoch) rfl ?_
    simp only [f26, run_fa, put1_some, Nat.reduceAdd, Nat.zero_add, Nat.add_zero, xfa_ref, run_ld, B0, reduceIte, reduceEqDiff]
    refine put1_eq (v := .int .i64 g_0.Epoch) rfl ?_
    simp only [run_bin, put1_some, xneq, run_ops_nil, run_cond, B0, reduceIte, reduceEqDiff]
    refine cond_split (t := (decide (x32.Epoch ≠ g_0.Epoch))) (fun hc43 => ?_) (fun hc43 => ?_)
    · rw [iteT hc43] at hF34
      simp only [run_seq, run_reg, run_mv, run_ops_nil, run_ret, B0, reduceIte, reduceEqDiff]
      have e44 := some_inj hF34
      subst e44
      have ho45 := hr16 _ rfl
      have hk46 := hk14
      rw [ho45] at hk46
      dsimp only [jnO] at hk46
      apply hR20
      have he := some_inj hk46
      subst he
      simp only [end_ret1, B0, reduceIte, reduceEqDiff]
      exact rfl
    rw [iteF hc43] at hF34
    simp only [run_skip, x49_2, run_seq, run_reg, run_fa, put1_some, Nat.reduceAdd, Nat.zero_add, Nat.add_zero, xfa_ref, run_ld, B0, reduceIte, reduceEqDiff]
    refine put1_eq (v := .int .i64 x32.Known) rfl ?_
    simp only [f27, run_mv, run_bin, put1_some, xlss, run_ops_nil, x49_1, run_cond, B0, reduceIte, reduceEqDiff]
    refine cond_split (t := (decide (x32.Known < s8))) (fun hc47 => ?_) (fun hc47 => ?_)
    · rw [iteT hc47] at hF34
      simp only [run_reg, run_fa, put1_some, Nat.reduceAdd, Nat.zero_add, Nat.add_zero, xfa_ref, run_ld, B0, reduceIte, reduceEqDiff]
      refine put1_eq (v := .int .i64 x32.Known) rfl ?_
      simp only [run_mv, run_ops_nil, run_nil, B0, reduceIte, reduceEqDiff]
      have e48 := some_inj hF34
      exact hN18 _ _ _ e48.symm ⟨f26, rfl, f28, hS42⟩ (f30) (f31)
    rw [iteF hc47] at hF34
    simp only [run_skip, run_nil, B0, reduceIte, reduceEqDiff]
    have e49 := some_inj hF34
    exact hN18 _ _ _ e49.symm ⟨f26, f27, f28, hS42⟩ (f30) (f31)
  rintro s51 fr52 h53 rfl ⟨f55, f56, f57, hS54⟩
  dsimp only [jnO] at hk14
  unfold spec_l11Least_j1 at hk14
  simp only [run_seq, run_reg, f56, run_mv, run_ops_nil, run_ret, B0, reduceIte, reduceEqDiff]
  have he := some_inj hk14
  subst he
  simp only [end_ret1, B0, reduceIte, reduceEqDiff]
  exact rfl
theorem spec_l1Has_x {W : Nat → Bool} {h : Heap} (hW : ∀ b,
    (geL h.length) b → W b = true) (l_0 : List Int) (n_1 : Int) (r : Bool) (hF : spec_l1Has l_0 n_1 = some r) : Ret E W 74 [lst cI l_0,
    .int .i64 n_1] h (fun v h' => cut h.length h' E.sz false 9 v = some (.bool r)) := by
  refine Ret.of (fn := x74) rfl (Run.of ?_)
  unfold spec_l1Has at hF
  have zf0 : argFr [lst cI l_0, .int .i64 n_1] 0 = lst cI l_0 := rfl
  have zf1 : argFr [lst cI l_0, .int .i64 n_1] 1 = .int .i64 n_1 := rfl
  generalize argFr [lst cI l_0, .int .i64 n_1] = fr0 at zf0 zf1 ⊢
  have hS : Sep h (geL h.length) [] := Sep.nil h
  simp only [x74, run_seq, run_reg, run_mv, run_ops_nil, x74_5, zf0, run_len, put1_some, xlen_lst, B0, reduceIte, reduceEqDiff]
  obtain ⟨oc3, hX5, hk6⟩ := jn_some hF
  simp only [x74_4]
  refine rangeL_j (σ := Unit) l_0 (fun i1 x2 _ => spec_l1Has_b1 n_1 i1 x2 ) (fun s fr' h' => fr' 1 = .int .i64 n_1 ∧ fr' 7 = lst cI l_0 ∧ Sep h' (geL h.length) ([])) hX5 ⟨zf1,
      rfl, hS⟩ (by simp only [B0, reduceIte, reduceEqDiff]) (by simp only [B0, reduceIte,
      reduceEqDiff]) (fun _ _ _ h => h) rfl rfl (fun _ _ _ _ h => h) (fun _ _ _ _ h => h) (fun _ _ _ _ h => h) (by decide) ?_ ?_
  · rintro i1 x2 _ fr15 h16 hx20 ⟨f18, f19, hS17⟩ f21 f22 oc4 hF7 hr8 Q9 hN10 hB14 hK11 hR12 hE13
    unfold spec_l1Has_b1 at hF7
    simp only [x74_2, run_seq, run_reg, f19, f21, run_ia, B0, reduceIte, reduceEqDiff]
    refine put1_eq (v := .ref (cI x2) 0) (xia_lstN hx20 rfl) ?_
    simp only [run_ld, B0, reduceIte, reduceEqDiff]
    refine put1_eq (v := .int .i64 x2) rfl ?_
    simp only [run_mv, run_ops_nil, x74_1, run_seq, run_reg, f18, run_bin, put1_some, xeql, run_cond, B0, reduceIte, reduceEqDiff]
    refine cond_split (t := (decide (x2 = n_1))) (fun hc23 => ?_) (fun hc23 => ?_)
    · rw [iteT hc23] at hF7
      simp only [run_seq, run_reg, run_mv, run_ops_nil, run_ret, B0, reduceIte, reduceEqDiff]
      have e24 := some_inj hF7
      subst e24
      have ho25 := hr8 _ rfl
      have hk26 := hk6
      rw [ho25] at hk26
      dsimp only [jnO] at hk26
      apply hR12
      have he := some_inj hk26
      subst he
      simp only [end_ret1, B0, reduceIte, reduceEqDiff]
      exact rfl
    rw [iteF hc23] at hF7
    simp only [run_skip, run_nil, B0, reduceIte, reduceEqDiff]
    have e27 := some_inj hF7
    exact hN10 _ _ _ e27.symm ⟨f18, f19, hS17⟩ (f21) (f22)
  rintro _ fr29 h30 rfl ⟨f32, f33, hS31⟩
  dsimp only [jnO] at hk6
  unfold spec_l1Has_j1 at hk6
  simp only [run_seq, run_reg, run_mv, run_ops_nil, run_ret, B0, reduceIte, reduceEqDiff]
  have he := some_inj hk6
  subst he
  simp only [end_ret1, B0, reduceIte, reduceEqDiff]
  exact rfl
end Go.Proofs.Ytefgfcalgjmhjaa.X
