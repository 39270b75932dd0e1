/- The functions' code comes to what the plain functions say (3). -/
import Derived.Test.YtefgfcalgjmhjaaXBH2
set_option linter.unusedVariables false
set_option linter.unusedSimpArgs false
set_option maxRecDepth 100000
namespace Go.Proofs.Ytefgfcalgjmhjaa.X
open Go
open Nat (reduceEqDiff)
theorem impl_Group_step_x {W : Nat → Bool} {h : Heap} {lo : Nat → Prop} {S0 : List Obj} (hW : ∀ b,
    lo b → W b = true) (k : Nat) (pb0 : Nat) (v_0 : Group) (pv0_2 : XV) (pc0_2 : List Obj) (ph0_2 : SlF cI 1 3 pv0_2 v_0.InStep pc0_2) (pv0_4 : XV) (pc0_4 : List Obj)
    (ph0_4 : SlN Replica.R 3 51 pv0_4 v_0.Replicas pc0_4) (v_1 : IsrStep) (r : Bool × Group) (hF : impl_Group_step k v_0 v_1 = some r) (hS : Sep h lo
    ([Blk1 pb0 [.int .i64 v_0.Epoch, .int .i64 v_0.Leader, pv0_2, .int .i64 v_0.High, pv0_4] 29] ++ (pc0_2 ++ (pc0_4 ++ (S0))))) : Ret E W 66 [.ptr pb0 0,
    .agg [.int .i64 v_1.Kind, .int .i64 v_1.K, .int .i64 v_1.N]] h (fun v h' => ∃ iv0_2 ic0_2 ic0_4,
    v = .bool r.1 ∧ SlF cI 1 3 iv0_2 r.2.InStep ic0_2 ∧ SlN Replica.R 3 51 pv0_4 r.2.Replicas ic0_4 ∧ Sep h' lo ([Blk1 pb0 [.int .i64 r.2.Epoch, .int .i64 r.2.Leader, iv0_2,
    .int .i64 r.2.High, pv0_4] 29] ++ (ic0_2 ++ (ic0_4 ++ (S0))))) := by
  refine Ret.of (fn := x66) rfl (Run.of ?_)
  unfold impl_Group_step at hF
  have zf0 : argFr [.ptr pb0 0, .agg [.int .i64 v_1.Kind, .int .i64 v_1.K, .int .i64 v_1.N]] 0 = .ptr pb0 0 := rfl
  have zf1 : argFr [.ptr pb0 0, .agg [.int .i64 v_1.Kind, .int .i64 v_1.K, .int .i64 v_1.N]] 1 = .agg [.int .i64 v_1.Kind, .int .i64 v_1.K, .int .i64 v_1.N] := rfl
  generalize argFr [.ptr pb0 0, .agg [.int .i64 v_1.Kind, .int .i64 v_1.K, .int .i64 v_1.N]] = fr0 at zf0 zf1 ⊢
  simp only [x66, run_seq, run_reg, run_box, zf1, B0, reduceIte, reduceEqDiff]
  refine put2_boxC (cs := [.int .i64 v_1.Kind, .int .i64 v_1.K, .int .i64 v_1.N]) hS rfl rfl rfl (fun b1 h2 hS3 => ?_)
  simp only [run_mv, run_ops_nil, B0, reduceIte, reduceEqDiff]
  refine frz_stepC hS3 hW (by simp only [B0, reduceIte, reduceEqDiff]) (fun h5 hS6 => ?_)
  simp only [run_frz_nil, x66_41, run_seq, run_reg, run_fa, put1_some, Nat.reduceAdd, Nat.zero_add, Nat.add_zero, xfa_ref, run_ld, B0, reduceIte, reduceEqDiff]
  refine put1_eq (v := .int .i64 v_1.Kind) rfl ?_
  simp only [run_bin, put1_some, xneq, run_mv, B0, reduceIte, reduceEqDiff]
  refine ops_j 4 (fun fr' h' => Sep h' lo ([Blk1 pb0 [.int .i64 v_0.Epoch, .int .i64 v_0.Leader, pv0_2, .int .i64 v_0.High,
      pv0_4] 29] ++ (pc0_2 ++ (pc0_4 ++ (S0)))) ∧ fr' 19 = .bool ((decide (v_1.Kind ≠ 2)) && (decide (v_1.Kind ≠ 3))) ∧ fr' 0 = .ptr pb0 0 ∧ fr' 3 = .ref [.int .i64 v_1.Kind,
      .int .i64 v_1.K, .int .i64 v_1.N] 0) (fun Q7 hN8 => ?_) ?_
  · simp only [List.take_succ_cons, List.take_zero]
    simp only [run_guard (g := 15), B0, reduceIte, reduceEqDiff]
    refine guard_split (t := (decide (v_1.Kind ≠ 2))) (fun hg9 => ?_) (fun hg9 => ?_)
    · simp only [hg9, run_guard (g := 15), guard_true, run_fa, put1_some, Nat.reduceAdd, Nat.zero_add, Nat.add_zero, xfa_ref, run_ld, B0, reduceIte, reduceEqDiff]
      refine put1_eq (v := .int .i64 v_1.Kind) rfl ?_
      simp only [hg9, run_guard (g := 15), guard_true, run_bin, put1_some, xneq, run_pick, xpick_t, run_ops_nil, run_nil, B0, reduceIte, reduceEqDiff]
      exact hN8 _ _ ⟨(Sep.m2 (Sep.m2 (Sep.m2 hS6))), by rw [andT hg9]; simp only [B0, reduceIte, reduceEqDiff], zf0, rfl⟩
    · simp only [hg9, run_guard (g := 15), guard_off, run_pick, put1_some, xpick_f, run_ops_nil, run_nil, B0, reduceIte, reduceEqDiff]
      exact hN8 _ _ ⟨(Sep.m2 (Sep.m2 (Sep.m2 hS6))), by rw [andF hg9]; simp only [B0, reduceIte, reduceEqDiff], zf0, rfl⟩
  rintro fr10 h14 ⟨hS15, f11, f12, f13⟩
  simp only [List.drop_succ_cons, List.drop_zero]
  simp only [f11, run_mv, B0, reduceIte, reduceEqDiff]
  refine ops_j 4 (fun fr' h' => Sep h' lo ([Blk1 pb0 [.int .i64 v_0.Epoch, .int .i64 v_0.Leader, pv0_2, .int .i64 v_0.High,
      pv0_4] 29] ++ (pc0_2 ++ (pc0_4 ++ (S0)))) ∧ fr' 24 = .bool (((decide (v_1.Kind ≠ 2)) && (decide (v_1.Kind ≠ 3))) && (decide
      (v_1.N ≠ 0))) ∧ fr' 0 = .ptr pb0 0 ∧ fr' 3 = .ref [.int .i64 v_1.Kind, .int .i64 v_1.K, .int .i64 v_1.N] 0) (fun Q16 hN17 => ?_) ?_
  · simp only [List.take_succ_cons, List.take_zero]
    simp only [run_guard (g := 20), B0, reduceIte, reduceEqDiff]
    refine guard_split (t := ((decide (v_1.Kind ≠ 2)) && (decide (v_1.Kind ≠ 3)))) (fun hg18 => ?_) (fun hg18 => ?_)
    · simp only [hg18, run_guard (g := 20), guard_true, f13, run_fa, put1_some, Nat.reduceAdd, Nat.zero_add, Nat.add_zero, xfa_ref, run_ld, B0, reduceIte, reduceEqDiff]
      refine put1_eq (v := .int .i64 v_1.N) rfl ?_
      simp only [hg18, run_guard (g := 20), guard_true, run_bin, put1_some, xneq, run_pick, xpick_t, run_ops_nil, run_nil, B0, reduceIte, reduceEqDiff]
      exact hN17 _ _ ⟨(Sep.m2 (Sep.m2 (Sep.m2 hS15))), by rw [andT hg18]; simp only [B0, reduceIte, reduceEqDiff], f12, f13⟩
    · simp only [hg18, run_guard (g := 20), guard_off, run_pick, put1_some, xpick_f, run_ops_nil, run_nil, B0, reduceIte, reduceEqDiff]
      exact hN17 _ _ ⟨(Sep.m2 (Sep.m2 (Sep.m2 hS15))), by rw [andF hg18]; simp only [B0, reduceIte, reduceEqDiff], f12, f13⟩
  rintro fr19 h23 ⟨hS24, f20, f21, f22⟩
  simp only [List.drop_succ_cons, List.drop_zero]
  simp only [run_ops_nil, f20, run_cond, B0, reduceIte, reduceEqDiff]
  refine cond_split (t := (((decide (v_1.Kind ≠ 2)) && (decide (v_1.Kind ≠ 3))) && (decide (v_1.N ≠ 0)))) (fun hc25 => ?_) (fun hc25 => ?_)
  · rw [iteT hc25] at hF
    simp only [run_seq, run_reg, run_mv, run_ops_nil, run_ret, B0, reduceIte, reduceEqDiff]
    have he := some_inj hF
    subst he
    simp only [end_ret1, B0, reduceIte, reduceEqDiff]
    exact ⟨pv0_2, pc0_2, pc0_4, by first | trivial | rfl, ph0_2, ph0_4, (Sep.m2 (Sep.m2 (Sep.m2 hS24)))⟩
  rw [iteF hc25] at hF
  simp only [run_skip, x66_40, run_seq, run_draw, f22, d4_fa, put1d_some, Nat.reduceAdd, Nat.zero_add, Nat.add_zero, xfa_ref, d4_ld, B0, reduceIte, reduceEqDiff]
  refine put1d_eq (v := .int .i64 v_1.K) rfl ?_
  simp only [f21, d4_mv, put1d_some, d4_chk, xchk_ptr, d4_fa, Nat.reduceAdd, Nat.zero_add, Nat.add_zero, xfa_ptr, d4_ld, B0, reduceIte, reduceEqDiff]
  refine put1d_eq (v := pv0_4) ((xld_b (Sep.bk _ _ _ hS24)).trans rfl) ?_
  simp only [d4_len, put1d_some, SlN.len ph0_4, d4_bin, xsub, run_d3_call, B0, reduceIte, reduceEqDiff]
  refine call1d rfl (mapM1 snap_int (mapM1 snap_int (mapM1 snap_int mapM0))) (impl_in_x (fun b hb => decide_eq_true hb) v_1.K 0 (IntKind.wrap .i64
      ((List.length v_0.Replicas : Int) - 1)) _ rfl) ?_
  simp only [d4_un, put1d_some, xnot, run_draw_nil, run_cond, B0, reduceIte, reduceEqDiff]
  refine cond_split (t := (!(impl_in v_1.K 0 (IntKind.wrap .i64 ((List.length v_0.Replicas : Int) - 1))))) (fun hc26 => ?_) (fun hc26 => ?_)
  · rw [iteT hc26] at hF
    simp only [run_seq, run_reg, run_mv, run_ops_nil, run_ret, B0, reduceIte, reduceEqDiff]
    have he := some_inj hF
    subst he
    simp only [end_ret1, B0, reduceIte, reduceEqDiff]
    exact ⟨pv0_2, pc0_2, pc0_4, by first | trivial | rfl, ph0_2, ph0_4, (Sep.m2 (Sep.m2 (Sep.m2 hS24)))⟩
  rw [iteF hc26] at hF
  simp only [run_skip, x66_39, run_seq, run_draw, f21, d4_mv, put1d_some, d4_chk, xchk_ptr, d4_fa, Nat.reduceAdd, Nat.zero_add, Nat.add_zero, xfa_ptr, d4_ld, B0, reduceIte,
      reduceEqDiff]
  refine put1d_eq (v := pv0_2) ((xld_b (Sep.bk _ _ _ hS24)).trans rfl) ?_
  simp only [f22, d4_fa, put1d_some, Nat.reduceAdd, Nat.zero_add, Nat.add_zero, xfa_ref, d4_ld, B0, reduceIte, reduceEqDiff]
  refine put1d_eq (v := .int .i64 v_1.K) rfl ?_
  obtain ⟨v27, hx28, hF29⟩ := bind_some' hF
  simp only [run_d3_call, B0, reduceIte, reduceEqDiff]
  refine call1d rfl (mapM1 (SlF.snap ph0_2 (Sep.m1 hS24) rfl (fun _ => rfl) (fun _ => rfl)) (mapM1 snap_int mapM0)) (slices_BinarySearch_int_x
      (fun b hb => decide_eq_true hb) k v_0.InStep v_1.K v27 hx28) ?_
  simp only [d4_mv, put1d_some, d4_ext, xext_0, xext_1, run_draw_nil, x66_38, run_seq, run_draw, f21, d4_chk, xchk_ptr, d4_fa, Nat.reduceAdd, Nat.zero_add, Nat.add_zero, xfa_ptr,
      d4_ld, B0, reduceIte, reduceEqDiff]
  refine put1d_eq (v := pv0_4) ((xld_b (Sep.bk _ _ _ hS24)).trans rfl) ?_
  simp only [f22, d4_fa, put1d_some, Nat.reduceAdd, Nat.zero_add, Nat.add_zero, xfa_ref, d4_ld, B0, reduceIte, reduceEqDiff]
  refine put1d_eq (v := .int .i64 v_1.K) rfl ?_
  obtain ⟨x30, hx31, hF32⟩ := bind_some' hF29
  simp only [d4_ia, B0, reduceIte, reduceEqDiff]
  obtain ⟨b33, hb34⟩ := SlN.isrow ph0_4 (geti_ne hx31)
  refine put1d_eq (SlN.ia ph0_4 hb34 hx31) ?_
  obtain ⟨c35, cs36, os37, hv38, hR39, hS40⟩ := SlG.opn (SlN.toG ph0_4 hb34 Replica.RO.len) hx31 hk_nil Replica.RO.len (Sep.m2 hS24)
  obtain ⟨v42, c43, hv44, rfl, rfl⟩ := hR39
  have hS41 := Sep.no1 hS40
  simp only [d4_ld, B0, reduceIte, reduceEqDiff]
  refine put1d_eq (v := .agg [v42, .int .i64 x30.Epoch, .int .i64 x30.Known]) ((SlG.lds (o := 0) hv38 rfl hx31 hS41 (Nat.le_of_ble_eq_true rfl)).trans rfl) ?_
  simp only [d4_new, B0, reduceIte, reduceEqDiff]
  refine put2d_newC hS41 (fun b46 h47 hS48 => ?_)
  simp only [d3_st, B0, reduceIte, reduceEqDiff]
  refine put2d_stCx (us := [v42, .int .i64 x30.Epoch, .int .i64 x30.Known]) rfl (cs' := [v42, .int .i64 x30.Epoch,
      .int .i64 x30.Known]) hS48 hW rfl (all_c (SlF.one hv44) (all_c rfl (all_c rfl all_n))) (Nat.le_of_ble_eq_true rfl) rfl (fun h50 hS51 => ?_)
  simp only [run_draw_nil, B0, reduceIte, reduceEqDiff]
  refine frz_stepC hS51 hW (by simp only [B0, reduceIte, reduceEqDiff]) (fun h52 hS53 => ?_)
  simp only [run_frz_nil, x66_37, run_seq, run_reg, f22, run_fa, put1_some, Nat.reduceAdd, Nat.zero_add, Nat.add_zero, xfa_ref, run_ld, B0, reduceIte, reduceEqDiff]
  refine put1_eq (v := .int .i64 v_1.Kind) rfl ?_
  simp only [run_ops_nil, x66_36, run_block, x66_35, run_seq, run_reg, run_bin, put1_some, xeql, run_mv, x66_34, run_cond, B0, reduceIte, reduceEqDiff]
  refine cond_split (t := (decide (v_1.Kind = 1))) (fun hc54 => ?_) (fun hc54 => ?_)
  · rw [iteT hc54] at hF32
    simp only [x66_4, run_seq, run_reg, run_mv, run_un, put1_some, xnot, B0, reduceIte, reduceEqDiff]
    refine ops_j 6 (fun fr' h' => Sep h' lo ([Blk1 pb0 [.int .i64 v_0.Epoch, .int .i64 v_0.Leader, pv0_2, .int .i64 v_0.High,
        pv0_4] 29] ++ (pc0_2 ++ (c35 ++ (c43 ++ (S0))))) ∧ fr' 65 = .bool ((!v27.2) || (decide (v_0.Epoch = 100))) ∧ fr' 0 = .ptr pb0 0 ∧ fr' 3 = .ref [.int .i64 v_1.Kind,
        .int .i64 v_1.K, .int .i64 v_1.N] 0) (fun Q55 hN56 => ?_) ?_
    · simp only [List.take_succ_cons, List.take_zero]
      simp only [run_guard (g := 59), B0, reduceIte, reduceEqDiff]
      refine guard_split (t := (!v27.2)) (fun hg57 => ?_) (fun hg57 => ?_)
      · simp only [hg57, run_guard (g := 59), guard_off', run_pick, put1_some, xpick_t, run_ops_nil, run_nil, B0, reduceIte, reduceEqDiff]
        exact hN56 _ _ ⟨(Sep.m3 (Sep.m3 (Sep.m1 (Sep.m1 hS53)))), by rw [orT hg57]; simp only [B0, reduceIte, reduceEqDiff], f21, f22⟩
      · simp only [hg57, run_guard (g := 59), guard_false, f21, run_mv, run_chk, put1_some, xchk_ptr, run_fa, Nat.reduceAdd, Nat.zero_add, Nat.add_zero, xfa_ptr, run_ld, B0,
          reduceIte, reduceEqDiff]
        refine put1_eq (v := .int .i64 v_0.Epoch) ((xld_b (Sep.bk _ _ _ (Sep.m2 hS53))).trans rfl) ?_
        simp only [hg57, run_guard (g := 59), guard_false, run_bin, put1_some, xeql, run_pick, xpick_f, run_ops_nil, run_nil, B0, reduceIte, reduceEqDiff]
        exact hN56 _ _ ⟨(Sep.m3 (Sep.m3 (Sep.m1 (Sep.m1 hS53)))), by rw [orF hg57]; simp only [B0, reduceIte, reduceEqDiff], f21, f22⟩
    rintro fr58 h62 ⟨hS63, f59, f60, f61⟩
    simp only [List.drop_succ_cons, List.drop_zero]
    simp only [run_ops_nil, f59, run_cond, B0, reduceIte, reduceEqDiff]
    refine cond_split (t := ((!v27.2) || (decide (v_0.Epoch = 100)))) (fun hc64 => ?_) (fun hc64 => ?_)
    · rw [iteT hc64] at hF32
      simp only [run_seq, run_reg, run_mv, run_ops_nil, run_ret, B0, reduceIte, reduceEqDiff]
      obtain ⟨c65, hv66, hS67⟩ := SlG.cls0 (c := c35) (os := c43) hv38 rfl hx31 hk_nil (Replica.RI (x := x30) hv44) (Sep.m3 (Sep.m3 hS63))
      have hv68 := SlG.toN hv66
      have he := some_inj hF32
      subst he
      simp only [end_ret1, B0, reduceIte, reduceEqDiff]
      exact ⟨pv0_2, pc0_2, c65, by first | trivial | rfl, ph0_2, hv68, (Sep.m2 (Sep.m2 hS67))⟩
    rw [iteF hc64] at hF32
    simp only [run_skip, x66_3, run_seq, run_reg, f60, run_mv, run_chk, put1_some, xchk_ptr, run_fa, Nat.reduceAdd, Nat.zero_add, Nat.add_zero, xfa_ptr, run_ld, B0, reduceIte,
        reduceEqDiff]
    refine put1_eq (v := .int .i64 v_0.Epoch) ((xld_b (Sep.bk _ _ _ hS63)).trans rfl) ?_
    simp only [run_bin, put1_some, xadd, run_chk, xchk_ptr, run_fa, Nat.reduceAdd, Nat.zero_add, Nat.add_zero, xfa_ptr, run_st, B0, reduceIte, reduceEqDiff]
    refine put2_stCx (us := [.int .i64 (IntKind.wrap .i64 (v_0.Epoch + 1))]) rfl (cs' := [.int .i64 (IntKind.wrap .i64 (v_0.Epoch + 1)), .int .i64 v_0.Leader, pv0_2,
        .int .i64 v_0.High, pv0_4]) hS63 hW rfl rfl (Nat.le_of_ble_eq_true rfl) rfl (fun h69 hS70 => ?_)
    simp only [run_ops_nil, x66_2, run_seq, run_reg, f60, run_mv, f61, run_fa, put1_some, Nat.reduceAdd, Nat.zero_add, Nat.add_zero, xfa_ref, run_ld, B0, reduceIte, reduceEqDiff]
    refine put1_eq (v := .int .i64 v_1.K) rfl ?_
    simp only [run_chk, put1_some, xchk_ptr, run_fa, Nat.reduceAdd, Nat.zero_add, Nat.add_zero, xfa_ptr, run_st, B0, reduceIte, reduceEqDiff]
    refine put2_stCx (us := [.int .i64 v_1.K]) rfl (cs' := [.int .i64 (IntKind.wrap .i64 (v_0.Epoch + 1)), .int .i64 v_1.K, pv0_2, .int .i64 v_0.High,
        pv0_4]) hS70 hW rfl rfl (Nat.le_of_ble_eq_true rfl) rfl (fun h71 hS72 => ?_)
    simp only [run_ops_nil, x66_1, run_seq, run_reg, f60, run_mv, f61, run_fa, put1_some, Nat.reduceAdd, Nat.zero_add, Nat.add_zero, xfa_ref, run_ld, B0, reduceIte, reduceEqDiff]
    refine put1_eq (v := .int .i64 v_1.K) rfl ?_
    obtain ⟨c73, hv74, hS75⟩ := SlG.cls0 (c := c35) (os := c43) hv38 rfl hx31 hk_nil (Replica.RI (x := x30) hv44) (Sep.m3 (Sep.m3 hS72))
    have hv76 := SlG.toN hv74
    obtain ⟨v77, hx78, hF79⟩ := bind_some' hF32
    simp only [run_call, B0, reduceIte, reduceEqDiff]
    refine call0 rfl (impl_Group_know_x hW pb0 (Group.mk (IntKind.wrap .i64
        (v_0.Epoch + 1)) v_1.K v_0.InStep v_0.High v_0.Replicas) pv0_2 pc0_2 ph0_2 pv0_4 c73 hv76 v_1.K v77 hx78 (Sep.m2 (Sep.m2 hS75))) ?_
    rintro _ h84 ⟨c80, c82, rfl, hv81, hv83, hS85⟩
    simp only [run_ops_nil, run_seq, run_reg, run_mv, run_ret, B0, reduceIte, reduceEqDiff]
    have he := some_inj hF79
    subst he
    simp only [end_ret1, B0, reduceIte, reduceEqDiff]
    exact ⟨pv0_2, c80, c82, by first | trivial | rfl, hv81, hv83, (Sep.m2 (Sep.m2 (Sep.m2 hS85)))⟩
  rw [iteF hc54] at hF32
  simp only [x66_33, run_seq, run_reg, run_bin, put1_some, xeql, run_mv, run_ops_nil, x66_32, run_cond, B0, reduceIte, reduceEqDiff]
  refine cond_split (t := (decide (v_1.Kind = 2))) (fun hc86 => ?_) (fun hc86 => ?_)
  · rw [iteT hc86] at hF32
    simp only [x66_8, run_seq, run_draw, f21, d4_mv, put1d_some, d4_chk, xchk_ptr, d4_fa, Nat.reduceAdd, Nat.zero_add, Nat.add_zero, xfa_ptr, d4_ld, B0, reduceIte, reduceEqDiff]
    refine put1d_eq (v := pv0_4) ((xld_b (Sep.bk _ _ _ (Sep.m2 hS53))).trans rfl) ?_
    simp only [f21, d4_mv, put1d_some, d4_chk, xchk_ptr, d4_fa, Nat.reduceAdd, Nat.zero_add, Nat.add_zero, xfa_ptr, d4_ld, B0, reduceIte, reduceEqDiff]
    refine put1d_eq (v := .int .i64 v_0.Leader) ((xld_b (Sep.bk _ _ _ (Sep.m2 hS53))).trans rfl) ?_
    obtain ⟨x87, hx88, hF89⟩ := bind_some' hF32
    simp only [d4_ia, B0, reduceIte, reduceEqDiff]
    refine put1d_eq (SlG.ia hv38 hx88) ?_
    simp only [d4_mv, put1d_some, run_draw_nil, x66_7, run_seq, run_reg, f22, run_fa, put1_some, Nat.reduceAdd, Nat.zero_add, Nat.add_zero, xfa_ref, run_ld, B0, reduceIte,
        reduceEqDiff]
    refine put1_eq (v := .int .i64 v_1.K) rfl ?_
    simp only [run_bin, put1_some, xneq, run_mv, B0, reduceIte, reduceEqDiff]
    refine ops_j 5 (fun fr' h' => Sep h' lo ([Blk1 pb0 [.int .i64 v_0.Epoch, .int .i64 v_0.Leader, pv0_2, .int .i64 v_0.High,
        pv0_4] 29] ++ (c35 ++ (pc0_2 ++ (c43 ++ (S0))))) ∧ fr' 101 = .bool ((decide (v_1.K ≠ 0)) ||
        (!(impl_in v_1.N 0 99))) ∧ fr' 0 = .ptr pb0 0 ∧ fr' 3 = .ref [.int .i64 v_1.Kind, .int .i64 v_1.K,
        .int .i64 v_1.N] 0 ∧ fr' 8 = .ptr b33 (v_0.Leader.toNat * 3)) (fun Q90 hN91 => ?_) ?_
    · simp only [List.take_succ_cons, List.take_zero]
      simp only [run_guard (g := 96), B0, reduceIte, reduceEqDiff]
      refine guard_split (t := (decide (v_1.K ≠ 0))) (fun hg92 => ?_) (fun hg92 => ?_)
      · simp only [hg92, run_guard (g := 96), guard_off', run_pick, put1_some, xpick_t, run_ops_nil, run_nil, B0, reduceIte, reduceEqDiff]
        exact hN91 _ _ ⟨(Sep.m3 (Sep.m2 (Sep.m3 (Sep.m1 hS53)))), by rw [orT hg92]; simp only [B0, reduceIte, reduceEqDiff], f21, f22, rfl⟩
      · simp only [hg92, run_guard (g := 96), guard_false, f22, run_fa, put1_some, Nat.reduceAdd, Nat.zero_add, Nat.add_zero, xfa_ref, run_ld, B0, reduceIte, reduceEqDiff]
        refine put1_eq (v := .int .i64 v_1.N) rfl ?_
        simp only [hg92, run_guard (g := 96), guard_false, run_call, B0, reduceIte, reduceEqDiff]
        refine call1 rfl (mapM1 snap_int (mapM1 snap_int (mapM1 snap_int mapM0))) (impl_in_x (fun b hb => decide_eq_true hb) v_1.N 0 99 _ rfl) ?_
        simp only [hg92, run_guard (g := 96), guard_false, run_un, put1_some, xnot, run_pick, xpick_f, run_ops_nil, run_nil, B0, reduceIte, reduceEqDiff]
        exact hN91 _ _ ⟨(Sep.m3 (Sep.m2 (Sep.m3 (Sep.m1 hS53)))), by rw [orF hg92]; simp only [B0, reduceIte, reduceEqDiff], f21, f22, rfl⟩
    rintro fr93 h98 ⟨hS99, f94, f95, f96, f97⟩
    simp only [List.drop_succ_cons, List.drop_zero]
    simp only [f94, run_mv, B0, reduceIte, reduceEqDiff]
    refine ops_j 7 (fun fr' h' => Sep h' lo ([Blk1 pb0 [.int .i64 v_0.Epoch, .int .i64 v_0.Leader, pv0_2, .int .i64 v_0.High,
        pv0_4] 29] ++ (c35 ++ (pc0_2 ++ (c43 ++ (S0))))) ∧ fr' 109 = .bool (((decide (v_1.K ≠ 0)) || (!(impl_in v_1.N 0 99))) || (decide
        ((List.length x87.Log : Int) = 30))) ∧ fr' 0 = .ptr pb0 0 ∧ fr' 3 = .ref [.int .i64 v_1.Kind, .int .i64 v_1.K,
        .int .i64 v_1.N] 0 ∧ fr' 8 = .ptr b33 (v_0.Leader.toNat * 3)) (fun Q100 hN101 => ?_) ?_
    · simp only [List.take_succ_cons, List.take_zero]
      simp only [run_guard (g := 102), B0, reduceIte, reduceEqDiff]
      refine guard_split (t := ((decide (v_1.K ≠ 0)) || (!(impl_in v_1.N 0 99)))) (fun hg102 => ?_) (fun hg102 => ?_)
      · simp only [hg102, run_guard (g := 102), guard_off', run_pick, put1_some, xpick_t, run_ops_nil, run_nil, B0, reduceIte, reduceEqDiff]
        exact hN101 _ _ ⟨(Sep.m3 (Sep.m3 (Sep.m3 (Sep.m3 hS99)))), by rw [orT hg102]; simp only [B0, reduceIte, reduceEqDiff], f95, f96, f97⟩
      · obtain ⟨c103, hv104, hS105⟩ := SlG.cls0 (c := c35) (os := c43) hv38 rfl hx31 hk_nil (Replica.RI (x := x30) hv44) (Sep.m2 (Sep.m3 hS99))
        have hv106 := SlG.toN hv104
        obtain ⟨c107, cs108, os109, hv110, hR111, hS112⟩ := SlG.opn (SlN.toG hv106 hb34 Replica.RO.len) hx88 hk_nil Replica.RO.len hS105
        obtain ⟨v114, c115, hv116, rfl, rfl⟩ := hR111
        have hS113 := Sep.no1 hS112
        simp only [hg102, run_guard (g := 102), guard_false, f97, run_mv, run_chk, put1_some, xchk_ptr, run_fa, Nat.reduceAdd, Nat.zero_add, Nat.add_zero, xfa_ptr, run_ld, B0,
            reduceIte, reduceEqDiff]
        refine put1_eq (v := v114) ((SlG.ld (o := 0) hv110 rfl hx88 hS113 (Nat.le_of_ble_eq_true rfl)).trans rfl) ?_
        simp only [hg102, run_guard (g := 102), guard_false, run_len, put1_some, SlF.plen hv116, run_bin, xeql, run_pick, xpick_f, run_ops_nil, run_nil, B0, reduceIte,
            reduceEqDiff]
        exact hN101 _ _ ⟨(Sep.m3 (Sep.m3 (Sep.m3 (Sep.m3 hS99)))), by rw [orF hg102]; simp only [B0, reduceIte, reduceEqDiff], f95, f96, f97⟩
    rintro fr118 h123 ⟨hS124, f119, f120, f121, f122⟩
    simp only [List.drop_succ_cons, List.drop_zero]
    simp only [run_ops_nil, f119, run_cond, B0, reduceIte, reduceEqDiff]
    refine cond_split (t := (((decide (v_1.K ≠ 0)) || (!(impl_in v_1.N 0 99))) || (decide ((List.length x87.Log : Int) = 30)))) (fun hc125 => ?_) (fun hc125 => ?_)
    · rw [iteT hc125] at hF89
      simp only [run_seq, run_reg, run_mv, run_ops_nil, run_ret, B0, reduceIte, reduceEqDiff]
      obtain ⟨c126, hv127, hS128⟩ := SlG.cls0 (c := c35) (os := c43) hv38 rfl hx31 hk_nil (Replica.RI (x := x30) hv44) (Sep.m2 (Sep.m3 hS124))
      have hv129 := SlG.toN hv127
      have he := some_inj hF89
      subst he
      simp only [end_ret1, B0, reduceIte, reduceEqDiff]
      exact ⟨pv0_2, pc0_2, c126, by first | trivial | rfl, ph0_2, hv129, (Sep.m2 (Sep.m2 hS128))⟩
    rw [iteF hc125] at hF89
    obtain ⟨c130, hv131, hS132⟩ := SlG.cls0 (c := c35) (os := c43) hv38 rfl hx31 hk_nil (Replica.RI (x := x30) hv44) (Sep.m2 (Sep.m3 hS124))
    have hv133 := SlG.toN hv131
    obtain ⟨c134, cs135, os136, hv137, hR138, hS139⟩ := SlG.opn (SlN.toG hv133 hb34 Replica.RO.len) hx88 hk_nil Replica.RO.len hS132
    obtain ⟨v141, c142, hv143, rfl, rfl⟩ := hR138
    have hS140 := Sep.no1 hS139
    simp only [run_skip, x66_6, run_seq, run_draw, f122, d1_mv, put1d_some, d4_mv, d4_chk, xchk_ptr, d4_fa, Nat.reduceAdd, Nat.zero_add, Nat.add_zero, xfa_ptr, d4_ld, B0,
        reduceIte, reduceEqDiff]
    refine put1d_eq (v := v141) ((SlG.ld (o := 0) hv137 rfl hx88 hS140 (Nat.le_of_ble_eq_true rfl)).trans rfl) ?_
    simp only [f120, d4_mv, put1d_some, d4_chk, xchk_ptr, d4_fa, Nat.reduceAdd, Nat.zero_add, Nat.add_zero, xfa_ptr, d4_ld, B0, reduceIte, reduceEqDiff]
    refine put1d_eq (v := .int .i64 v_0.Epoch) ((xld_b (Sep.bk _ _ _ (Sep.m2 hS140))).trans rfl) ?_
    simp only [f121, d4_fa, put1d_some, Nat.reduceAdd, Nat.zero_add, Nat.add_zero, xfa_ref, d4_ld, B0, reduceIte, reduceEqDiff]
    refine put1d_eq (v := .int .i64 v_1.N) rfl ?_
    simp only [d4_build, evp, B0, reduceIte, reduceEqDiff]
    refine put1d_eq (v := .agg [.int .i64 v_0.Epoch, .int .i64 v_1.N]) rfl ?_
    simp only [d4_buildS, evp, B0, reduceIte, reduceEqDiff]
    refine put2d_buildSF (n := 2) (f := Row.cells) [(Row.mk v_0.Epoch v_1.N)] hS140 rfl rfl (fun v145 c146 h147 hv148 hS149 => ?_)
    simp only [d3_app, B0, reduceIte, reduceEqDiff]
    obtain ⟨l151, hx152, hF153⟩ := bind_some' hF89
    refine put2d_appF (f := Row.cells) hv143 (Sep.m2 hS149) hW (fun _ => rfl) (fun _ => rfl) (SlF.first hv148 hS149 (fun _ => rfl)) hx152 (fun v154 c155 h156 hv157 hS158 => ?_)
    simp only [d4_chk, put1d_some, xchk_ptr, d4_fa, Nat.reduceAdd, Nat.zero_add, Nat.add_zero, xfa_ptr, d3_st, B0, reduceIte, reduceEqDiff]
    refine put2d_stGx (us := [v154]) (o := 0) (cs' := [v154, .int .i64 x87.Epoch,
        .int .i64 x87.Known]) (cells_one (SlF.one hv157)) hv137 rfl hx88 (Sep.m2 hS158) hW rfl (all_c (SlF.one hv157) all_n) (Nat.le_of_ble_eq_true rfl) rfl
        (fun c162 h160 hv163 hS161 => ?_)
    simp only [run_draw_nil, x66_5, run_seq, run_reg, f120, run_mv, run_chk, put1_some, xchk_ptr, run_fa, Nat.reduceAdd, Nat.zero_add, Nat.add_zero, xfa_ptr, run_ld, B0,
        reduceIte, reduceEqDiff]
    refine put1_eq (v := .int .i64 v_0.Leader) ((xld_b (Sep.bk _ _ _ (Sep.m3 hS161))).trans rfl) ?_
    obtain ⟨c164, hv165, hS166⟩ := SlG.cls (e' := (Replica.mk l151 x87.Epoch x87.Known)) (c := c162) (os := c155) hv163 rfl hx88 hk_nil (Replica.RI (x :=
        (Replica.mk l151 x87.Epoch x87.Known)) hv157) (Sep.m1 (Sep.m1 hS161))
    have hx167 := geti_set (x' := (Replica.mk l151 x87.Epoch x87.Known)) hx88
    have hv168 := SlG.toN hv165
    obtain ⟨v169, hx170, hF171⟩ := bind_some' hF153
    simp only [run_call, B0, reduceIte, reduceEqDiff]
    refine call0 rfl (impl_Group_know_x hW pb0 (Group.mk v_0.Epoch v_0.Leader v_0.InStep v_0.High (List.set v_0.Replicas v_0.Leader.toNat
        (Replica.mk l151 x87.Epoch x87.Known))) pv0_2 pc0_2 ph0_2 pv0_4 c164 hv168 v_0.Leader v169 hx170 (Sep.m3 (Sep.m3 hS166))) ?_
    rintro _ h176 ⟨c172, c174, rfl, hv173, hv175, hS177⟩
    simp only [run_ops_nil, run_seq, run_reg, run_mv, run_ret, B0, reduceIte, reduceEqDiff]
    have he := some_inj hF171
    subst he
    simp only [end_ret1, B0, reduceIte, reduceEqDiff]
    exact ⟨pv0_2, c172, c174, by first | trivial | rfl, hv173, hv175, (Sep.m2 (Sep.m2 (Sep.m2 (Sep.dc (Sep.m3 hS177)))))⟩
  rw [iteF hc86] at hF32
  simp only [x66_31, run_seq, run_reg, run_bin, put1_some, xeql, run_mv, run_ops_nil, x66_30, run_cond, B0, reduceIte, reduceEqDiff]
  refine cond_split (t := (decide (v_1.Kind = 3))) (fun hc178 => ?_) (fun hc178 => ?_)
  · rw [iteT hc178] at hF32
    simp only [x66_10, run_seq, run_draw, f22, d4_fa, put1d_some, Nat.reduceAdd, Nat.zero_add, Nat.add_zero, xfa_ref, d4_ld, B0, reduceIte, reduceEqDiff]
    refine put1d_eq (v := .int .i64 v_1.K) rfl ?_
    simp only [f21, d4_mv, put1d_some, d4_chk, xchk_ptr, d4_fa, Nat.reduceAdd, Nat.zero_add, Nat.add_zero, xfa_ptr, d4_ld, B0, reduceIte, reduceEqDiff]
    refine put1d_eq (v := .int .i64 v_0.Leader) ((xld_b (Sep.bk _ _ _ (Sep.m2 hS53))).trans rfl) ?_
    simp only [d4_bin, put1d_some, xeql, d4_mv, B0, reduceIte, reduceEqDiff]
    simp only [run_guardd (g := 141), B0, reduceIte, reduceEqDiff]
    refine guardd_split (t := (decide (v_1.K = v_0.Leader))) (fun hg179 => ?_) (fun hg179 => ?_)
    · rw [iteT hg179] at hF32
      simp only [hg179, run_guardd (g := 141), guardd_off', d4_pick, put1d_some, xpick_t, run_draw_nil, run_cond, cond_true, run_seq, run_reg, run_mv, run_ops_nil, run_ret, B0,
          reduceIte, reduceEqDiff]
      obtain ⟨c180, hv181, hS182⟩ := SlG.cls0 (c := c35) (os := c43) hv38 rfl hx31 hk_nil (Replica.RI (x := x30) hv44) (Sep.m1 (Sep.m1 hS53))
      have hv183 := SlG.toN hv181
      have he := some_inj hF32
      subst he
      simp only [end_ret1, B0, reduceIte, reduceEqDiff]
      exact ⟨pv0_2, pc0_2, c180, by first | trivial | rfl, ph0_2, hv183, (Sep.m2 (Sep.m2 hS182))⟩
    rw [iteF hg179] at hF32
    simp only [hg179, run_guardd (g := 141), guardd_false, f22, d4_fa, put1d_some, Nat.reduceAdd, Nat.zero_add, Nat.add_zero, xfa_ref, d4_ld, B0, reduceIte, reduceEqDiff]
    refine put1d_eq (v := .int .i64 v_1.N) rfl ?_
    simp only [hg179, run_guardd (g := 141), guardd_false, run_d3_call, B0, reduceIte, reduceEqDiff]
    refine call1d rfl (mapM1 snap_int (mapM1 snap_int (mapM1 snap_int mapM0))) (impl_in_x (fun b hb => decide_eq_true hb) v_1.N 0 30 _ rfl) ?_
    simp only [hg179, run_guardd (g := 141), guardd_false, d4_un, put1d_some, xnot, d4_pick, xpick_f, run_draw_nil, run_cond, B0, reduceIte, reduceEqDiff]
    refine cond_split (t := (!(impl_in v_1.N 0 30))) (fun hc184 => ?_) (fun hc184 => ?_)
    · rw [iteT hc184] at hF32
      simp only [run_seq, run_reg, run_mv, run_ops_nil, run_ret, B0, reduceIte, reduceEqDiff]
      obtain ⟨c185, hv186, hS187⟩ := SlG.cls0 (c := c35) (os := c43) hv38 rfl hx31 hk_nil (Replica.RI (x := x30) hv44) (Sep.m1 (Sep.m1 hS53))
      have hv188 := SlG.toN hv186
      have he := some_inj hF32
      subst he
      simp only [end_ret1, B0, reduceIte, reduceEqDiff]
      exact ⟨pv0_2, pc0_2, c185, by first | trivial | rfl, ph0_2, hv188, (Sep.m2 (Sep.m2 hS187))⟩
    rw [iteF hc184] at hF32
    simp only [run_skip, x66_9, run_seq, run_reg, f21, run_mv, f22, run_fa, put1_some, Nat.reduceAdd, Nat.zero_add, Nat.add_zero, xfa_ref, run_ld, B0, reduceIte, reduceEqDiff]
    refine put1_eq (v := .int .i64 v_1.K) rfl ?_
    simp only [f22, run_fa, put1_some, Nat.reduceAdd, Nat.zero_add, Nat.add_zero, xfa_ref, run_ld, B0, reduceIte, reduceEqDiff]
    refine put1_eq (v := .int .i64 v_1.N) rfl ?_
    obtain ⟨c189, hv190, hS191⟩ := SlG.cls0 (c := c35) (os := c43) hv38 rfl hx31 hk_nil (Replica.RI (x := x30) hv44) (Sep.m1 (Sep.m1 hS53))
    have hv192 := SlG.toN hv190
    obtain ⟨v193, hx194, hF195⟩ := bind_some' hF32
    simp only [run_call, B0, reduceIte, reduceEqDiff]
    refine call0 rfl (impl_Group_fetch_x hW k pb0 v_0 pv0_2 pc0_2 ph0_2 pv0_4 c189 hv192 v_1.K v_1.N v193 hx194 (Sep.m2 (Sep.m2 hS191))) ?_
    rintro _ h200 ⟨c196, c198, rfl, hv197, hv199, hS201⟩
    simp only [run_ops_nil, run_seq, run_reg, run_mv, run_ret, B0, reduceIte, reduceEqDiff]
    have he := some_inj hF195
    subst he
    simp only [end_ret1, B0, reduceIte, reduceEqDiff]
    exact ⟨pv0_2, c196, c198, by first | trivial | rfl, hv197, hv199, (Sep.m2 (Sep.m2 (Sep.m2 hS201)))⟩
  rw [iteF hc178] at hF32
  simp only [x66_29, run_seq, run_reg, run_bin, put1_some, xeql, run_mv, run_ops_nil, x66_28, run_cond, B0, reduceIte, reduceEqDiff]
  refine cond_split (t := (decide (v_1.Kind = 4))) (fun hc202 => ?_) (fun hc202 => ?_)
  · rw [iteT hc202] at hF32
    simp only [x66_12, run_seq, run_draw, d4_mv, put1d_some, d4_un, xnot, B0, reduceIte, reduceEqDiff]
    refine draw_j 8 (fun fr' h' => Sep h' lo ([Blk1 pb0 [.int .i64 v_0.Epoch, .int .i64 v_0.Leader, pv0_2, .int .i64 v_0.High,
        pv0_4] 29] ++ (pc0_2 ++ (c35 ++ (c43 ++ (S0))))) ∧ fr' 165 = .bool ((!v27.2) || (decide (v_1.K = v_0.Leader))) ∧ fr' 0 = .ptr pb0 0 ∧ fr' 5 = .int .i64 v27.1) rfl
        (fun Q203 hN204 => ?_) ?_
    · simp only [List.take_succ_cons, List.take_zero]
      simp only [run_guardd (g := 157), B0, reduceIte, reduceEqDiff]
      refine guardd_split (t := (!v27.2)) (fun hg205 => ?_) (fun hg205 => ?_)
      · simp only [hg205, run_guardd (g := 157), guardd_off', d4_pick, put1d_some, xpick_t, run_draw_nil, run_nil, B0, reduceIte, reduceEqDiff]
        exact hN204 _ _ ⟨(Sep.m3 (Sep.m3 (Sep.m1 (Sep.m1 hS53)))), by rw [orT hg205]; simp only [B0, reduceIte, reduceEqDiff], f21, rfl⟩
      · simp only [hg205, run_guardd (g := 157), guardd_false, f22, d4_fa, put1d_some, Nat.reduceAdd, Nat.zero_add, Nat.add_zero, xfa_ref, d4_ld, B0, reduceIte, reduceEqDiff]
        refine put1d_eq (v := .int .i64 v_1.K) rfl ?_
        simp only [hg205, run_guardd (g := 157), guardd_false, f21, d4_mv, put1d_some, d4_chk, xchk_ptr, d4_fa, Nat.reduceAdd, Nat.zero_add, Nat.add_zero, xfa_ptr, d4_ld, B0,
            reduceIte, reduceEqDiff]
        refine put1d_eq (v := .int .i64 v_0.Leader) ((xld_b (Sep.bk _ _ _ (Sep.m2 hS53))).trans rfl) ?_
        simp only [hg205, run_guardd (g := 157), guardd_false, d4_bin, put1d_some, xeql, d4_pick, xpick_f, run_draw_nil, run_nil, B0, reduceIte, reduceEqDiff]
        exact hN204 _ _ ⟨(Sep.m3 (Sep.m3 (Sep.m1 (Sep.m1 hS53)))), by rw [orF hg205]; simp only [B0, reduceIte, reduceEqDiff], f21, rfl⟩
    rintro fr206 h210 ⟨hS211, f207, f208, f209⟩
    simp only [List.drop_succ_cons, List.drop_zero]
    simp only [run_draw_nil, f207, run_cond, B0, reduceIte, reduceEqDiff]
    refine cond_split (t := ((!v27.2) || (decide (v_1.K = v_0.Leader)))) (fun hc212 => ?_) (fun hc212 => ?_)
    · rw [iteT hc212] at hF32
      simp only [run_seq, run_reg, run_mv, run_ops_nil, run_ret, B0, reduceIte, reduceEqDiff]
      obtain ⟨c213, hv214, hS215⟩ := SlG.cls0 (c := c35) (os := c43) hv38 rfl hx31 hk_nil (Replica.RI (x := x30) hv44) (Sep.m3 (Sep.m3 hS211))
      have hv216 := SlG.toN hv214
      have he := some_inj hF32
      subst he
      simp only [end_ret1, B0, reduceIte, reduceEqDiff]
      exact ⟨pv0_2, pc0_2, c213, by first | trivial | rfl, ph0_2, hv216, (Sep.m2 (Sep.m2 hS215))⟩
    rw [iteF hc212] at hF32
    simp only [run_skip, x66_11, run_seq, run_reg, f208, run_mv, run_chk, put1_some, xchk_ptr, run_fa, Nat.reduceAdd, Nat.zero_add, Nat.add_zero, xfa_ptr, run_ld, B0, reduceIte,
        reduceEqDiff]
    refine put1_eq (v := pv0_2) ((xld_b (Sep.bk _ _ _ hS211)).trans rfl) ?_
    obtain ⟨v217, hx218, hF219⟩ := bind_some' hF32
    simp only [f209, run_mv, run_bin, put1_some, xadd, run_call, B0, reduceIte, reduceEqDiff]
    refine call0 rfl (slices_Delete_int_x hW pv0_2 pc0_2 v_0.InStep ph0_2 v27.1 (IntKind.wrap .i64 (v27.1 + 1)) v217 hx218 (Sep.m1 hS211)) ?_
    rintro v220 h224 ⟨_, c221, rfl, hv222, hS225⟩
    simp only [run_chk, put1_some, xchk_ptr, run_fa, Nat.reduceAdd, Nat.zero_add, Nat.add_zero, xfa_ptr, run_st, B0, reduceIte, reduceEqDiff]
    refine put2_stCx (us := [v220]) (cells_one (SlF.one hv222)) (cs' := [.int .i64 v_0.Epoch, .int .i64 v_0.Leader, v220, .int .i64 v_0.High,
        pv0_4]) (Sep.m1 hS225) hW rfl (all_c (SlF.one hv222) all_n) (Nat.le_of_ble_eq_true rfl) rfl (fun h226 hS227 => ?_)
    simp only [run_ops_nil, run_seq, run_reg, run_mv, run_ret, B0, reduceIte, reduceEqDiff]
    obtain ⟨c228, hv229, hS230⟩ := SlG.cls0 (c := c35) (os := c43) hv38 rfl hx31 hk_nil (Replica.RI (x := x30) hv44) (Sep.m3 (Sep.m3 hS227))
    have hv231 := SlG.toN hv229
    have he := some_inj hF219
    subst he
    simp only [end_ret1, B0, reduceIte, reduceEqDiff]
    exact ⟨v220, c221, c228, by first | trivial | rfl, hv222, hv231, (Sep.m2 (Sep.m2 hS230))⟩
  rw [iteF hc202] at hF32
  simp only [x66_27, run_seq, run_reg, run_bin, put1_some, xeql, run_mv, run_ops_nil, x66_26, run_cond, B0, reduceIte, reduceEqDiff]
  refine cond_split (t := (decide (v_1.Kind = 5))) (fun hc232 => ?_) (fun hc232 => ?_)
  · rw [iteT hc232] at hF32
    simp only [x66_14, run_seq, run_draw, d4_mv, put1d_some, B0, reduceIte, reduceEqDiff]
    refine draw_j 8 (fun fr' h' => Sep h' lo ([Blk1 pb0 [.int .i64 v_0.Epoch, .int .i64 v_0.Leader, pv0_2, .int .i64 v_0.High,
        pv0_4] 29] ++ (c43 ++ (pc0_2 ++ (c35 ++ (S0))))) ∧ fr' 188 = .bool (v27.2 || (decide (x30.Epoch ≠ v_0.Epoch))) ∧ fr' 0 = .ptr pb0 0 ∧ fr' 3 = .ref [.int .i64 v_1.Kind,
        .int .i64 v_1.K, .int .i64 v_1.N] 0 ∧ fr' 5 = .int .i64 v27.1 ∧ fr' 7 = .ref [v42, .int .i64 x30.Epoch, .int .i64 x30.Known] 0) rfl (fun Q233 hN234 => ?_) ?_
    · simp only [List.take_succ_cons, List.take_zero]
      simp only [run_guardd (g := 180), B0, reduceIte, reduceEqDiff]
      refine guardd_split (t := v27.2) (fun hg235 => ?_) (fun hg235 => ?_)
      · simp only [hg235, run_guardd (g := 180), guardd_off', d4_pick, put1d_some, xpick_t, run_draw_nil, run_nil, B0, reduceIte, reduceEqDiff]
        exact hN234 _ _ ⟨(Sep.m3 (Sep.m2 (Sep.m3 hS53))), by rw [orT hg235]; simp only [B0, reduceIte, reduceEqDiff], f21, f22, rfl, rfl⟩
      · simp only [hg235, run_guardd (g := 180), guardd_false, d4_fa, put1d_some, Nat.reduceAdd, Nat.zero_add, Nat.add_zero, xfa_ref, d4_ld, B0, reduceIte, reduceEqDiff]
        refine put1d_eq (v := .int .i64 x30.Epoch) rfl ?_
        simp only [hg235, run_guardd (g := 180), guardd_false, f21, d4_mv, put1d_some, d4_chk, xchk_ptr, d4_fa, Nat.reduceAdd, Nat.zero_add, Nat.add_zero, xfa_ptr, d4_ld, B0,
            reduceIte, reduceEqDiff]
        refine put1d_eq (v := .int .i64 v_0.Epoch) ((xld_b (Sep.bk _ _ _ (Sep.m2 hS53))).trans rfl) ?_
        simp only [hg235, run_guardd (g := 180), guardd_false, d4_bin, put1d_some, xneq, d4_pick, xpick_f, run_draw_nil, run_nil, B0, reduceIte, reduceEqDiff]
        exact hN234 _ _ ⟨(Sep.m3 (Sep.m2 (Sep.m3 hS53))), by rw [orF hg235]; simp only [B0, reduceIte, reduceEqDiff], f21, f22, rfl, rfl⟩
    rintro fr236 h242 ⟨hS243, f237, f238, f239, f240, f241⟩
    simp only [List.drop_succ_cons, List.drop_zero]
    simp only [f237, d4_mv, put1d_some, B0, reduceIte, reduceEqDiff]
    refine draw_j 8 (fun fr' h' => Sep h' lo ([Blk1 pb0 [.int .i64 v_0.Epoch, .int .i64 v_0.Leader, pv0_2, .int .i64 v_0.High,
        pv0_4] 29] ++ (pc0_2 ++ (c35 ++ (c43 ++ (S0))))) ∧ fr' 197 = .bool ((v27.2 || (decide (x30.Epoch ≠ v_0.Epoch))) || (decide
        (x30.Known < v_0.High))) ∧ fr' 0 = .ptr pb0 0 ∧ fr' 3 = .ref [.int .i64 v_1.Kind, .int .i64 v_1.K,
        .int .i64 v_1.N] 0 ∧ fr' 5 = .int .i64 v27.1) rfl (fun Q244 hN245 => ?_) ?_
    · simp only [List.take_succ_cons, List.take_zero]
      simp only [run_guardd (g := 189), B0, reduceIte, reduceEqDiff]
      refine guardd_split (t := (v27.2 || (decide (x30.Epoch ≠ v_0.Epoch)))) (fun hg246 => ?_) (fun hg246 => ?_)
      · simp only [hg246, run_guardd (g := 189), guardd_off', d4_pick, put1d_some, xpick_t, run_draw_nil, run_nil, B0, reduceIte, reduceEqDiff]
        exact hN245 _ _ ⟨(Sep.m3 (Sep.m3 (Sep.m3 (Sep.m1 hS243)))), by rw [orT hg246]; simp only [B0, reduceIte, reduceEqDiff], f238, f239, f240⟩
      · simp only [hg246, run_guardd (g := 189), guardd_false, f241, d4_fa, put1d_some, Nat.reduceAdd, Nat.zero_add, Nat.add_zero, xfa_ref, d4_ld, B0, reduceIte, reduceEqDiff]
        refine put1d_eq (v := .int .i64 x30.Known) rfl ?_
        simp only [hg246, run_guardd (g := 189), guardd_false, f238, d4_mv, put1d_some, d4_chk, xchk_ptr, d4_fa, Nat.reduceAdd, Nat.zero_add, Nat.add_zero, xfa_ptr, d4_ld, B0,
            reduceIte, reduceEqDiff]
        refine put1d_eq (v := .int .i64 v_0.High) ((xld_b (Sep.bk _ _ _ hS243)).trans rfl) ?_
        simp only [hg246, run_guardd (g := 189), guardd_false, d4_bin, put1d_some, xlss, d4_pick, xpick_f, run_draw_nil, run_nil, B0, reduceIte, reduceEqDiff]
        exact hN245 _ _ ⟨(Sep.m3 (Sep.m3 (Sep.m3 (Sep.m1 hS243)))), by rw [orF hg246]; simp only [B0, reduceIte, reduceEqDiff], f238, f239, f240⟩
    rintro fr247 h252 ⟨hS253, f248, f249, f250, f251⟩
    simp only [List.drop_succ_cons, List.drop_zero]
    simp only [run_draw_nil, f248, run_cond, B0, reduceIte, reduceEqDiff]
    refine cond_split (t := ((v27.2 || (decide (x30.Epoch ≠ v_0.Epoch))) || (decide (x30.Known < v_0.High)))) (fun hc254 => ?_) (fun hc254 => ?_)
    · rw [iteT hc254] at hF32
      simp only [run_seq, run_reg, run_mv, run_ops_nil, run_ret, B0, reduceIte, reduceEqDiff]
      obtain ⟨c255, hv256, hS257⟩ := SlG.cls0 (c := c35) (os := c43) hv38 rfl hx31 hk_nil (Replica.RI (x := x30) hv44) (Sep.m3 (Sep.m3 hS253))
      have hv258 := SlG.toN hv256
      have he := some_inj hF32
      subst he
      simp only [end_ret1, B0, reduceIte, reduceEqDiff]
      exact ⟨pv0_2, pc0_2, c255, by first | trivial | rfl, ph0_2, hv258, (Sep.m2 (Sep.m2 hS257))⟩
    rw [iteF hc254] at hF32
    simp only [run_skip, x66_13, run_seq, run_draw, f249, d1_mv, put1d_some, d4_mv, d4_chk, xchk_ptr, d4_fa, Nat.reduceAdd, Nat.zero_add, Nat.add_zero, xfa_ptr, d4_ld, B0,
        reduceIte, reduceEqDiff]
    refine put1d_eq (v := pv0_2) ((xld_b (Sep.bk _ _ _ hS253)).trans rfl) ?_
    simp only [f251, d4_mv, put1d_some, f250, d4_fa, Nat.reduceAdd, Nat.zero_add, Nat.add_zero, xfa_ref, d4_ld, B0, reduceIte, reduceEqDiff]
    refine put1d_eq (v := .int .i64 v_1.K) rfl ?_
    simp only [d4_buildS, evp, B0, reduceIte, reduceEqDiff]
    refine put2d_buildSF (n := 1) (f := cI) [v_1.K] hS253 rfl rfl (fun v259 c260 h261 hv262 hS263 => ?_)
    obtain ⟨v265, hx266, hF267⟩ := bind_some' hF32
    simp only [run_d3_call, B0, reduceIte, reduceEqDiff]
    refine call0d rfl (slices_Insert_int_x hW pv0_2 pc0_2 v_0.InStep ph0_2 v27.1 v259 c260 [v_1.K] hv262 v265 hx266 (Sep.m2 hS263)) ?_
    rintro v268 h274 ⟨_, c269, c272, rfl, hv270, hv273, hS275⟩
    simp only [d4_chk, put1d_some, xchk_ptr, d4_fa, Nat.reduceAdd, Nat.zero_add, Nat.add_zero, xfa_ptr, d3_st, B0, reduceIte, reduceEqDiff]
    refine put2d_stCx (us := [v268]) (cells_one (SlF.one hv270)) (cs' := [.int .i64 v_0.Epoch, .int .i64 v_0.Leader, v268, .int .i64 v_0.High,
        pv0_4]) (Sep.m2 hS275) hW rfl (all_c (SlF.one hv270) all_n) (Nat.le_of_ble_eq_true rfl) rfl (fun h276 hS277 => ?_)
    simp only [run_draw_nil, run_seq, run_reg, run_mv, run_ops_nil, run_ret, B0, reduceIte, reduceEqDiff]
    obtain ⟨c278, hv279, hS280⟩ := SlG.cls0 (c := c35) (os := c43) hv38 rfl hx31 hk_nil (Replica.RI (x := x30) hv44) (Sep.m4 (Sep.m4 hS277))
    have hv281 := SlG.toN hv279
    have he := some_inj hF267
    subst he
    simp only [end_ret1, B0, reduceIte, reduceEqDiff]
    exact ⟨v268, c269, c278, by first | trivial | rfl, hv270, hv281, (Sep.m2 (Sep.m2 (Sep.dc (Sep.m3 hS280))))⟩
  rw [iteF hc232] at hF32
  simp only [x66_25, run_seq, run_reg, run_bin, put1_some, xeql, run_mv, run_ops_nil, x66_24, run_cond, B0, reduceIte, reduceEqDiff]
  refine cond_split (t := (decide (v_1.Kind = 6))) (fun hc282 => ?_) (fun hc282 => ?_)
  · rw [iteT hc282] at hF32
    simp only [x66_23, run_seq, run_reg, run_mv, run_ops_nil, x66_22, f21, run_chk, put1_some, xchk_ptr, run_fa, Nat.reduceAdd, Nat.zero_add, Nat.add_zero, xfa_ptr, run_ld, B0,
        reduceIte, reduceEqDiff]
    refine put1_eq (v := pv0_2) ((xld_b (Sep.bk _ _ _ (Sep.m2 hS53))).trans rfl) ?_
    simp only [run_len, put1_some, SlF.plen ph0_2, run_mv, run_ops_nil, B0, reduceIte, reduceEqDiff]
    obtain ⟨c283, hv284, hS285⟩ := SlG.cls0 (c := c35) (os := c43) hv38 rfl hx31 hk_nil (Replica.RI (x := x30) hv44) (Sep.m1 (Sep.m1 hS53))
    have hv286 := SlG.toN hv284
    obtain ⟨oc297, hX299, hk300⟩ := jn_some hF32
    simp only [x66_19]
    refine rangeN_j (σ := Int × (List Replica)) (fun i295 s351 => impl_Group_step_b1 v_0 i295 s351.1 s351.2) (fun s fr' h' => ∃ c293,
        fr' 0 = .ptr pb0 0 ∧ fr' 3 = .ref [.int .i64 v_1.Kind, .int .i64 v_1.K,
        .int .i64 v_1.N] 0 ∧ fr' 9 = .int .i64 s.1 ∧ fr' 215 = pv0_2 ∧ SlN Replica.R 3 51 pv0_4 s.2 c293 ∧ Sep h' lo ([Blk1 pb0 [.int .i64 v_0.Epoch, .int .i64 v_0.Leader, pv0_2,
        .int .i64 v_0.High, pv0_4] 29] ++ (pc0_2 ++ (c293 ++ (S0))))) hX299 ⟨c283, f21, f22, rfl, rfl, hv286, (Sep.m2 (Sep.m2 hS285))⟩ (by simp only [B0, reduceIte,
        reduceEqDiff]) (by simp only [B0, reduceIte, reduceEqDiff]) (fun _ _ _ h => h) rfl rfl (fun _ _ _ _ h => h) (fun _ _ _ _ h => h) (fun _ _ _ _ h => h) (by decide) ?_ ?_
    · rintro i295 ⟨s291, s292⟩ fr309 h310 hx316 ⟨c293, f312, f313, f314, f315, hv294, hS311⟩ f317 f318 oc298 hF301 hr302 Q303 hN304 hB308 hK305 hR306 hE307
      dsimp only at *
      unfold impl_Group_step_b1 at hF301
      obtain ⟨x319, hx320, hF321⟩ := bind_some' hF301
      simp only [x66_17, run_seq, run_reg, f315, f317, run_ia, B0, reduceIte, reduceEqDiff]
      obtain ⟨b322, hb323⟩ := SlF.isrow ph0_2 (geti_ne hx320)
      refine put1_eq (SlF.ia ph0_2 hb323 hx320) ?_
      simp only [run_ld, B0, reduceIte, reduceEqDiff]
      refine put1_eq (v := .int .i64 x319) ((SlF.ld (o := 0) ph0_2 (Sep.m1 hS311) hb323 hx320 (fun _ => rfl) (Nat.le_of_ble_eq_true rfl)).trans rfl) ?_
      simp only [run_mv, run_ops_nil, x66_16, run_seq, run_draw, f312, d4_mv, put1d_some, d4_chk, xchk_ptr, d4_fa, Nat.reduceAdd, Nat.zero_add, Nat.add_zero, xfa_ptr, d4_ld, B0,
          reduceIte, reduceEqDiff]
      refine put1d_eq (v := pv0_4) ((xld_b (Sep.bk _ _ _ hS311)).trans rfl) ?_
      obtain ⟨x324, hx325, hF326⟩ := bind_some' hF321
      simp only [d4_mv, put1d_some, d4_ia, B0, reduceIte, reduceEqDiff]
      refine put1d_eq (SlN.ia hv294 hb34 hx325) ?_
      obtain ⟨c327, cs328, os329, hv330, hR331, hS332⟩ := SlG.opn (SlN.toG hv294 hb34 Replica.RO.len) hx325 hk_nil Replica.RO.len (Sep.m2 hS311)
      obtain ⟨v334, c335, hv336, rfl, rfl⟩ := hR331
      have hS333 := Sep.no1 hS332
      simp only [d4_fa, put1d_some, Nat.reduceAdd, Nat.zero_add, Nat.add_zero, xfa_ptr, d4_ld, B0, reduceIte, reduceEqDiff]
      refine put1d_eq (v := .int .i64 x324.Epoch) ((SlG.ld (o := 1) hv330 rfl hx325 hS333 (Nat.le_of_ble_eq_true rfl)).trans rfl) ?_
      simp only [f312, d4_mv, put1d_some, d4_chk, xchk_ptr, d4_fa, Nat.reduceAdd, Nat.zero_add, Nat.add_zero, xfa_ptr, d4_ld, B0, reduceIte, reduceEqDiff]
      refine put1d_eq (v := .int .i64 v_0.Epoch) ((xld_b (Sep.bk _ _ _ (Sep.m2 hS333))).trans rfl) ?_
      simp only [d4_bin, put1d_some, xneq, run_draw_nil, run_cond, B0, reduceIte, reduceEqDiff]
      refine cond_split (t := (decide (x324.Epoch ≠ v_0.Epoch))) (fun hc338 => ?_) (fun hc338 => ?_)
      · rw [iteT hc338] at hF326
        simp only [run_seq, run_reg, run_mv, run_ops_nil, run_ret, B0, reduceIte, reduceEqDiff]
        have e339 := some_inj hF326
        subst e339
        have ho340 := hr302 _ rfl
        have hk341 := hk300
        rw [ho340] at hk341
        dsimp only [jnO] at hk341
        apply hR306
        obtain ⟨c342, hv343, hS344⟩ := SlG.cls0 (c := c327) (os := c335) hv330 rfl hx325 hk_nil (Replica.RI (x := x324) hv336) (Sep.m1 (Sep.m1 hS333))
        have hv345 := SlG.toN hv343
        have he := some_inj hk341
        subst he
        simp only [end_ret1, B0, reduceIte, reduceEqDiff]
        exact ⟨pv0_2, pc0_2, c342, by first | trivial | rfl, ph0_2, hv345, (Sep.m2 (Sep.m2 hS344))⟩
      rw [iteF hc338] at hF326
      simp only [run_skip, x66_15, run_reg, f314, run_mv, f312, run_chk, put1_some, xchk_ptr, run_fa, Nat.reduceAdd, Nat.zero_add, Nat.add_zero, xfa_ptr, run_ld, B0, reduceIte,
          reduceEqDiff]
      refine put1_eq (v := pv0_4) ((xld_b (Sep.bk _ _ _ (Sep.m2 hS333))).trans rfl) ?_
      simp only [run_mv, run_ia, B0, reduceIte, reduceEqDiff]
      refine put1_eq (SlG.ia hv330 hx325) ?_
      simp only [run_fa, put1_some, Nat.reduceAdd, Nat.zero_add, Nat.add_zero, xfa_ptr, run_ld, B0, reduceIte, reduceEqDiff]
      refine put1_eq (v := .int .i64 x324.Known) ((SlG.ld (o := 2) hv330 rfl hx325 hS333 (Nat.le_of_ble_eq_true rfl)).trans rfl) ?_
      simp only [run_mnx, put1_some, pminI, run_mv, run_ops_nil, run_nil, B0, reduceIte, reduceEqDiff]
      obtain ⟨c346, hv347, hS348⟩ := SlG.cls0 (c := c327) (os := c335) hv330 rfl hx325 hk_nil (Replica.RI (x := x324) hv336) (Sep.m1 (Sep.m1 hS333))
      have hv349 := SlG.toN hv347
      have e350 := some_inj hF326
      exact hN304 _ _ _ e350.symm ⟨c346, f312, f313, rfl, f315, hv349, (Sep.m2 (Sep.m2 hS348))⟩ (f317) (f318)
    rintro ⟨s352, s353⟩ fr356 h357 rfl ⟨c354, f359, f360, f361, f362, hv355, hS358⟩
    dsimp only [jnO] at hk300
    dsimp only at *
    unfold impl_Group_step_j1 at hk300
    simp only [x66_21, run_seq, run_reg, f360, run_fa, put1_some, Nat.reduceAdd, Nat.zero_add, Nat.add_zero, xfa_ref, run_ld, B0, reduceIte, reduceEqDiff]
    refine put1_eq (v := .int .i64 v_1.K) rfl ?_
    simp only [run_bin, put1_some, xneq, run_mv, B0, reduceIte, reduceEqDiff]
    refine ops_j 7 (fun fr' h' => Sep h' lo ([Blk1 pb0 [.int .i64 v_0.Epoch, .int .i64 v_0.Leader, pv0_2, .int .i64 v_0.High,
        pv0_4] 29] ++ (pc0_2 ++ (c354 ++ (S0)))) ∧ fr' 255 = .bool ((decide (v_1.K ≠ 0)) || (decide (s352 ≤ v_0.High))) ∧ fr' 0 = .ptr pb0 0 ∧ fr' 9 = .int .i64 s352)
        (fun Q363 hN364 => ?_) ?_
    · simp only [List.take_succ_cons, List.take_zero]
      simp only [run_guard (g := 248), B0, reduceIte, reduceEqDiff]
      refine guard_split (t := (decide (v_1.K ≠ 0))) (fun hg365 => ?_) (fun hg365 => ?_)
      · simp only [hg365, run_guard (g := 248), guard_off', run_pick, put1_some, xpick_t, run_ops_nil, run_nil, B0, reduceIte, reduceEqDiff]
        exact hN364 _ _ ⟨(Sep.m2 (Sep.m2 (Sep.m2 hS358))), by rw [orT hg365]; simp only [B0, reduceIte, reduceEqDiff], f359, f361⟩
      · simp only [hg365, run_guard (g := 248), guard_false, f361, run_mv, f359, run_chk, put1_some, xchk_ptr, run_fa, Nat.reduceAdd, Nat.zero_add, Nat.add_zero, xfa_ptr, run_ld,
          B0, reduceIte, reduceEqDiff]
        refine put1_eq (v := .int .i64 v_0.High) ((xld_b (Sep.bk _ _ _ hS358)).trans rfl) ?_
        simp only [hg365, run_guard (g := 248), guard_false, run_bin, put1_some, xleq, run_pick, xpick_f, run_ops_nil, run_nil, B0, reduceIte, reduceEqDiff]
        exact hN364 _ _ ⟨(Sep.m2 (Sep.m2 (Sep.m2 hS358))), by rw [orF hg365]; simp only [B0, reduceIte, reduceEqDiff], f359, f361⟩
    rintro fr366 h370 ⟨hS371, f367, f368, f369⟩
    simp only [List.drop_succ_cons, List.drop_zero]
    simp only [run_ops_nil, f367, run_cond, B0, reduceIte, reduceEqDiff]
    refine cond_split (t := ((decide (v_1.K ≠ 0)) || (decide (s352 ≤ v_0.High)))) (fun hc372 => ?_) (fun hc372 => ?_)
    · rw [iteT hc372] at hk300
      simp only [run_seq, run_reg, run_mv, run_ops_nil, run_ret, B0, reduceIte, reduceEqDiff]
      have he := some_inj hk300
      subst he
      simp only [end_ret1, B0, reduceIte, reduceEqDiff]
      exact ⟨pv0_2, pc0_2, c354, by first | trivial | rfl, ph0_2, hv355, (Sep.m2 (Sep.m2 (Sep.m2 hS371)))⟩
    rw [iteF hc372] at hk300
    simp only [run_skip, x66_20, run_seq, run_reg, f368, run_mv, f369, run_chk, put1_some, xchk_ptr, run_fa, Nat.reduceAdd, Nat.zero_add, Nat.add_zero, xfa_ptr, run_st, B0,
        reduceIte, reduceEqDiff]
    refine put2_stCx (us := [.int .i64 s352]) rfl (cs' := [.int .i64 v_0.Epoch, .int .i64 v_0.Leader, pv0_2, .int .i64 s352,
        pv0_4]) hS371 hW rfl rfl (Nat.le_of_ble_eq_true rfl) rfl (fun h373 hS374 => ?_)
    simp only [run_ops_nil, run_seq, run_reg, run_mv, run_ret, B0, reduceIte, reduceEqDiff]
    have he := some_inj hk300
    subst he
    simp only [end_ret1, B0, reduceIte, reduceEqDiff]
    exact ⟨pv0_2, pc0_2, c354, by first | trivial | rfl, ph0_2, hv355, (Sep.m2 (Sep.m2 (Sep.m2 hS374)))⟩
  rw [iteF hc282] at hF32
  simp only [run_skip, run_blk, run_seq, run_reg, run_mv, run_ops_nil, run_ret, B0, reduceIte, reduceEqDiff]
  obtain ⟨c376, hv377, hS378⟩ := SlG.cls0 (c := c35) (os := c43) hv38 rfl hx31 hk_nil (Replica.RI (x := x30) hv44) (Sep.m1 (Sep.m1 hS53))
  have hv379 := SlG.toN hv377
  have he := some_inj hF32
  subst he
  simp only [end_ret1, B0, reduceIte, reduceEqDiff]
  exact ⟨pv0_2, pc0_2, c376, by first | trivial | rfl, ph0_2, hv379, (Sep.m2 (Sep.m2 hS378))⟩
theorem impl_StepGroup_x {W : Nat → Bool} {h : Heap} (hW : ∀ b,
    (geL h.length) b → W b = true) (k : Nat) (g_0 : Group) (x_1 : IsrStep) (r : Group × Bool) (hF : impl_StepGroup k g_0 x_1 = some r) : Ret E W 33 [.agg [.int .i64 g_0.Epoch,
    .int .i64 g_0.Leader, lst cI g_0.InStep, .int .i64 g_0.High, lst Replica.cells g_0.Replicas], .agg [.int .i64 x_1.Kind, .int .i64 x_1.K,
    .int .i64 x_1.N]] h (fun v h' => ∃ rv0_2 rc0_2 rv0_4 rc0_4, v = .tup [.agg [.int .i64 r.1.Epoch, .int .i64 r.1.Leader, rv0_2, .int .i64 r.1.High, rv0_4],
    .bool r.2] ∧ SlF cI 1 3 rv0_2 r.1.InStep rc0_2 ∧ SlN Replica.R 3 51 rv0_4 r.1.Replicas rc0_4 ∧ Sep h' (geL h.length) (rc0_2 ++ (rc0_4 ++ ([])))) := by
  refine Ret.of (fn := x33) rfl (Run.of ?_)
  unfold impl_StepGroup at hF
  have zf0 : argFr [.agg [.int .i64 g_0.Epoch, .int .i64 g_0.Leader, lst cI g_0.InStep, .int .i64 g_0.High, lst Replica.cells g_0.Replicas], .agg [.int .i64 x_1.Kind,
      .int .i64 x_1.K, .int .i64 x_1.N]] 0 = .agg [.int .i64 g_0.Epoch, .int .i64 g_0.Leader, lst cI g_0.InStep, .int .i64 g_0.High, lst Replica.cells g_0.Replicas] := rfl
  have zf1 : argFr [.agg [.int .i64 g_0.Epoch, .int .i64 g_0.Leader, lst cI g_0.InStep, .int .i64 g_0.High, lst Replica.cells g_0.Replicas], .agg [.int .i64 x_1.Kind,
      .int .i64 x_1.K, .int .i64 x_1.N]] 1 = .agg [.int .i64 x_1.Kind, .int .i64 x_1.K, .int .i64 x_1.N] := rfl
  generalize argFr [.agg [.int .i64 g_0.Epoch, .int .i64 g_0.Leader, lst cI g_0.InStep, .int .i64 g_0.High, lst Replica.cells g_0.Replicas], .agg [.int .i64 x_1.Kind,
      .int .i64 x_1.K, .int .i64 x_1.N]] = fr0 at zf0 zf1 ⊢
  have hS : Sep h (geL h.length) [] := Sep.nil h
  simp only [x33, run_seq, run_reg, run_box, zf0, B0, reduceIte, reduceEqDiff]
  refine put2_boxC (cs := [.int .i64 g_0.Epoch, .int .i64 g_0.Leader, lst cI g_0.InStep, .int .i64 g_0.High, lst Replica.cells g_0.Replicas]) hS rfl rfl rfl (fun b1 h2 hS3 => ?_)
  simp only [run_box, zf1, B0, reduceIte, reduceEqDiff]
  refine put2_boxC (cs := [.int .i64 x_1.Kind, .int .i64 x_1.K, .int .i64 x_1.N]) hS3 rfl rfl rfl (fun b5 h6 hS7 => ?_)
  simp only [run_new, B0, reduceIte, reduceEqDiff]
  refine put2_newC hS7 (fun b9 h10 hS11 => ?_)
  simp only [run_mv, run_ops_nil, B0, reduceIte, reduceEqDiff]
  refine frz_stepC (Sep.m2 hS11) hW (by simp only [B0, reduceIte, reduceEqDiff]) (fun h13 hS14 => ?_)
  refine frz_stepC (Sep.m1 hS14) hW (by simp only [B0, reduceIte, reduceEqDiff]) (fun h15 hS16 => ?_)
  simp only [run_frz_nil, x33_5, run_seq, run_reg, run_ld, B0, reduceIte, reduceEqDiff]
  refine put1_eq (v := .agg [.int .i64 g_0.Epoch, .int .i64 g_0.Leader, lst cI g_0.InStep, .int .i64 g_0.High, lst Replica.cells g_0.Replicas]) rfl ?_
  obtain ⟨v17, hx18, hF19⟩ := bind_some' hF
  simp only [run_call, B0, reduceIte, reduceEqDiff]
  refine call1 rfl (mapM1 (snap_agg (mapM1 snap_int (mapM1 snap_int (mapM1 snap_lst (mapM1 snap_int (mapM1 snap_lst mapM0)))))) mapM0) (impl_isGroup_x
      (fun b hb => decide_eq_true hb) k g_0 v17 hx18) ?_
  simp only [run_un, put1_some, xnot, run_ops_nil, x33_1, run_cond, B0, reduceIte, reduceEqDiff]
  refine cond_split (t := (!v17)) (fun hc20 => ?_) (fun hc20 => ?_)
  · rw [iteT hc20] at hF19
    simp only [run_seq, run_reg, run_build, evp, B0, reduceIte, reduceEqDiff]
    refine put1_eq (v := .agg [.int .i64 0, .int .i64 0, .nil, .int .i64 0, .nil]) rfl ?_
    simp only [run_st, B0, reduceIte, reduceEqDiff]
    refine put2_stCx (us := [.int .i64 0, .int .i64 0, .nil, .int .i64 0, .nil]) rfl (cs' := [.int .i64 0, .int .i64 0, .nil, .int .i64 0,
        .nil]) hS16 hW rfl rfl (Nat.le_of_ble_eq_true rfl) rfl (fun h21 hS22 => ?_)
    simp only [run_mv, run_ops_nil, run_ret, B0, reduceIte, reduceEqDiff]
    have he := some_inj hF19
    subst he
    refine end_ret_m (mapM1 (res_cell (bb := b9) (oo := 0) (v := .agg [.int .i64 0, .int .i64 0, .nil, .int .i64 0,
        .nil]) (rfl) ((xld_bs (Sep.bk _ _ _ hS22)).trans rfl)) (mapM1 (res_t (v := .bool false) (rfl)) mapM0)) ?_
    exact ⟨.nil, [], .nil, [], by first | trivial | rfl, SlF.nil, SlN.nil, ((Sep.dc (hS22)) : Sep _ (geL h.length) ([]))⟩
  rw [iteF hc20] at hF19
  simp only [run_skip, x33_4, run_seq, run_reg, run_ld, B0, reduceIte, reduceEqDiff]
  refine put1_eq (v := .agg [.int .i64 g_0.Epoch, .int .i64 g_0.Leader, lst cI g_0.InStep, .int .i64 g_0.High, lst Replica.cells g_0.Replicas]) rfl ?_
  obtain ⟨v23, hx24, hF25⟩ := bind_some' hF19
  simp only [run_call, B0, reduceIte, reduceEqDiff]
  refine call2 rfl hS16 (mapM1 (snap_agg (mapM1 snap_int (mapM1 snap_int (mapM1 snap_lst (mapM1 snap_int (mapM1 snap_lst mapM0)))))) mapM0) (impl_copyGroup_x
      (fun b hb => decide_eq_true hb) g_0 v23 hx24) ?_
  rintro _ h34 ⟨v26, c27, v30, c31, rfl, hv28, hv32, hS35⟩
  refine ⟨_, free_a (all_c rfl (all_c rfl (all_c (SlF.free1 hv28) (all_c rfl (all_c (SlN.free1 hv32) all_n))))), hS35,
      (pf_app (SlF.pf hv28 (fun _ => rfl)) (pf_app (SlN.pf hv32 Replica.RO) pf_nil)), fun h36 hS37 => ?_⟩
  have hS38 : Sep h36 (geL h.length) (c27 ++ (c31 ++ ([Blk1 b9 [.int .i64 0, .int .i64 0, .nil, .int .i64 0, .nil] 29] ++ ([])))) := by simpa only [List.append_assoc,
      List.nil_append] using hS37
  simp only [run_new, B0, reduceIte, reduceEqDiff]
  refine put2_newC hS38 (fun b39 h40 hS41 => ?_)
  simp only [run_st, B0, reduceIte, reduceEqDiff]
  refine put2_stCx (us := [.int .i64 v23.Epoch, .int .i64 v23.Leader, v26, .int .i64 v23.High, v30]) rfl (cs' := [.int .i64 v23.Epoch, .int .i64 v23.Leader, v26,
      .int .i64 v23.High, v30]) hS41 hW rfl (all_c rfl (all_c rfl (all_c (SlF.one hv28) (all_c rfl (all_c (SlN.one hv32) all_n))))) (Nat.le_of_ble_eq_true rfl) rfl
      (fun h43 hS44 => ?_)
  simp only [run_ops_nil, x33_3, run_seq, run_reg, run_ld, B0, reduceIte, reduceEqDiff]
  refine put1_eq (v := .agg [.int .i64 x_1.Kind, .int .i64 x_1.K, .int .i64 x_1.N]) rfl ?_
  obtain ⟨v45, hx46, hF47⟩ := bind_some' hF25
  simp only [run_call, B0, reduceIte, reduceEqDiff]
  refine call0 rfl (impl_Group_step_x hW k b39 v23 v26 c27 hv28 v30 c31 hv32 x_1 v45 hx46 (Sep.m2 (Sep.m2 (Sep.m2 hS44)))) ?_
  rintro _ h54 ⟨v48, c49, c52, rfl, hv50, hv53, hS55⟩
  simp only [run_un, put1_some, xnot, run_ops_nil, x33_2, run_cond, B0, reduceIte, reduceEqDiff]
  refine cond_split (t := (!v45.1)) (fun hc56 => ?_) (fun hc56 => ?_)
  · rw [iteT hc56] at hF47
    simp only [run_seq, run_reg, run_build, evp, B0, reduceIte, reduceEqDiff]
    refine put1_eq (v := .agg [.int .i64 0, .int .i64 0, .nil, .int .i64 0, .nil]) rfl ?_
    simp only [run_st, B0, reduceIte, reduceEqDiff]
    refine put2_stCx (us := [.int .i64 0, .int .i64 0, .nil, .int .i64 0, .nil]) rfl (cs' := [.int .i64 0, .int .i64 0, .nil, .int .i64 0,
        .nil]) (Sep.m3 hS55) hW rfl rfl (Nat.le_of_ble_eq_true rfl) rfl (fun h57 hS58 => ?_)
    simp only [run_mv, run_ops_nil, run_ret, B0, reduceIte, reduceEqDiff]
    have he := some_inj hF47
    subst he
    refine end_ret_m (mapM1 (res_cell (bb := b9) (oo := 0) (v := .agg [.int .i64 0, .int .i64 0, .nil, .int .i64 0,
        .nil]) (rfl) ((xld_bs (Sep.bk _ _ _ hS58)).trans rfl)) (mapM1 (res_t (v := .bool false) (rfl)) mapM0)) ?_
    exact ⟨.nil, [], .nil, [], by first | trivial | rfl, SlF.nil, SlN.nil, ((Sep.dc ((Sep.dc ((Sep.dc ((Sep.dc (hS58)))))))) : Sep _ (geL h.length) ([]))⟩
  rw [iteF hc56] at hF47
  simp only [run_skip, run_seq, run_reg, run_ld, B0, reduceIte, reduceEqDiff]
  refine put1_eq (v := .agg [.int .i64 v45.2.Epoch, .int .i64 v45.2.Leader, v48, .int .i64 v45.2.High, v30]) ((xld_bs (Sep.bk _ _ _ hS55)).trans rfl) ?_
  simp only [run_st, B0, reduceIte, reduceEqDiff]
  refine put2_stCx (us := [.int .i64 v45.2.Epoch, .int .i64 v45.2.Leader, v48, .int .i64 v45.2.High, v30]) rfl (cs' := [.int .i64 v45.2.Epoch, .int .i64 v45.2.Leader, v48,
      .int .i64 v45.2.High, v30]) (Sep.m3 hS55) hW rfl (all_c rfl (all_c rfl (all_c (SlF.one hv50) (all_c rfl (all_c (SlN.one hv53) all_n))))) (Nat.le_of_ble_eq_true rfl) rfl
      (fun h59 hS60 => ?_)
  simp only [run_mv, run_ops_nil, run_ret, B0, reduceIte, reduceEqDiff]
  have he := some_inj hF47
  subst he
  refine end_ret_m (mapM1 (res_cell (bb := b9) (oo := 0) (v := .agg [.int .i64 v45.2.Epoch, .int .i64 v45.2.Leader, v48, .int .i64 v45.2.High,
      v30]) (rfl) ((xld_bs (Sep.bk _ _ _ hS60)).trans rfl)) (mapM1 (res_t (v := .bool true) (rfl)) mapM0)) ?_
  exact ⟨v48, c49, v30, c52, by first | trivial | rfl, hv50, hv53, (Sep.m1 (Sep.m1 (Sep.dc ((Sep.dc (hS60))))))⟩
theorem spec_l1In_x {W : Nat → Bool} {h : Heap} (hW : ∀ b,
    (geL h.length) b → W b = true) (n_0 : Int) (lo_1 : Int) (hi_2 : Int) (r : Bool) (hF : some (spec_l1In n_0 lo_1 hi_2) = some r) : Ret E W 72 [.int .i64 n_0, .int .i64 lo_1,
    .int .i64 hi_2] h (fun v h' => cut h.length h' E.sz false 9 v = some (.bool r)) := by
  refine Ret.of (fn := x72) rfl (Run.of ?_)
  unfold spec_l1In at hF
  have zf0 : argFr [.int .i64 n_0, .int .i64 lo_1, .int .i64 hi_2] 0 = .int .i64 n_0 := rfl
  have zf1 : argFr [.int .i64 n_0, .int .i64 lo_1, .int .i64 hi_2] 1 = .int .i64 lo_1 := rfl
  have zf2 : argFr [.int .i64 n_0, .int .i64 lo_1, .int .i64 hi_2] 2 = .int .i64 hi_2 := rfl
  generalize argFr [.int .i64 n_0, .int .i64 lo_1, .int .i64 hi_2] = fr0 at zf0 zf1 zf2 ⊢
  have hS : Sep h (geL h.length) [] := Sep.nil h
  simp only [x72, run_seq, run_reg, run_mv, run_ops_nil, x72_1, zf0, zf1, run_bin, put1_some, xgeq, B0, reduceIte, reduceEqDiff]
  refine ops_j 4 (fun fr' h' => Sep h' (geL h.length) ([]) ∧ fr' 14 = .bool ((decide (lo_1 ≤ n_0)) && (decide (n_0 ≤ hi_2)))) (fun Q1 hN2 => ?_) ?_
  · simp only [List.take_succ_cons, List.take_zero]
    simp only [run_guard (g := 10), B0, reduceIte, reduceEqDiff]
    refine guard_split (t := (decide (lo_1 ≤ n_0))) (fun hg3 => ?_) (fun hg3 => ?_)
    · simp only [hg3, run_guard (g := 10), guard_true, zf0, run_mv, zf2, run_bin, put1_some, xleq, run_pick, xpick_t, run_ops_nil, run_nil, B0, reduceIte, reduceEqDiff]
      exact hN2 _ _ ⟨hS, by rw [andT hg3]; simp only [B0, reduceIte, reduceEqDiff]⟩
    · simp only [hg3, run_guard (g := 10), guard_off, run_pick, put1_some, xpick_f, run_ops_nil, run_nil, B0, reduceIte, reduceEqDiff]
      exact hN2 _ _ ⟨hS, by rw [andF hg3]; simp only [B0, reduceIte, reduceEqDiff]⟩
  rintro fr4 h6 ⟨hS7, f5⟩
  simp only [List.drop_succ_cons, List.drop_zero]
  simp only [f5, run_mv, run_ops_nil, run_ret, B0, reduceIte, reduceEqDiff]
  have he := some_inj hF
  subst he
  simp only [end_ret1, B0, reduceIte, reduceEqDiff]
  exact rfl
end Go.Proofs.Ytefgfcalgjmhjaa.X
namespace Go.Proofs.Ytefgfcalgjmhjaa.X
open Go
open Nat (reduceEqDiff)
theorem spec_l6Group_x {W : Nat → Bool} {h : Heap} (hW : ∀ b,
    (geL h.length) b → W b = true) (l_0 : List Int) (many_1 : Int) (r : Bool) (hF : spec_l6Group l_0 many_1 = some r) : Ret E W 73 [lst cI l_0,
    .int .i64 many_1] h (fun v h' => cut h.length h' E.sz false 9 v = some (.bool r)) := by
  refine Ret.of (fn := x73) rfl (Run.of ?_)
  unfold spec_l6Group at hF
  have zf0 : argFr [lst cI l_0, .int .i64 many_1] 0 = lst cI l_0 := rfl
  have zf1 : argFr [lst cI l_0, .int .i64 many_1] 1 = .int .i64 many_1 := rfl
  generalize argFr [lst cI l_0, .int .i64 many_1] = fr0 at zf0 zf1 ⊢
  have hS : Sep h (geL h.length) [] := Sep.nil h
  simp only [x73, run_seq, run_reg, run_mv, run_ops_nil, x73_5, zf0, run_len, put1_some, xlen_lst, B0, reduceIte, reduceEqDiff]
  obtain ⟨oc3, hX5, hk6⟩ := jn_some hF
  simp only [x73_4]
  refine rangeL_j (σ := Unit) l_0 (fun i1 x2 _ => spec_l6Group_b1 l_0 many_1 i1 x2 ) (fun s fr' h' => fr' 0 = lst cI l_0 ∧ fr' 1 = .int .i64 many_1 ∧ fr' 7 = lst cI l_0 ∧ Sep h'
      (geL h.length) ([])) hX5 ⟨zf0, zf1, rfl, hS⟩ (by simp only [B0, reduceIte, reduceEqDiff]) (by simp only [B0, reduceIte,
      reduceEqDiff]) (fun _ _ _ h => h) rfl rfl (fun _ _ _ _ h => h) (fun _ _ _ _ h => h) (fun _ _ _ _ h => h) (by decide) ?_ ?_
  · rintro i1 x2 _ fr15 h16 hx21 ⟨f18, f19, f20, hS17⟩ f22 f23 oc4 hF7 hr8 Q9 hN10 hB14 hK11 hR12 hE13
    unfold spec_l6Group_b1 at hF7
    simp only [x73_2, run_seq, run_reg, f22, run_mv, f20, run_ia, B0, reduceIte, reduceEqDiff]
    refine put1_eq (v := .ref (cI x2) 0) (xia_lstN hx21 rfl) ?_
    simp only [run_ld, B0, reduceIte, reduceEqDiff]
    refine put1_eq (v := .int .i64 x2) rfl ?_
    simp only [run_mv, run_ops_nil, x73_1, run_seq, run_reg, run_bin, put1_some, xlss, B0, reduceIte, reduceEqDiff]
    refine ops_j 4 (fun fr' h' => Sep h' (geL h.length) ([]) ∧ fr' 20 = .bool ((decide (x2 < 0)) || (decide
        (many_1 ≤ x2))) ∧ fr' 0 = lst cI l_0 ∧ fr' 1 = .int .i64 many_1 ∧ fr' 5 = .int .i64 (i1 : Int) ∧ fr' 6 = .int .i64 x2 ∧ fr' 7 = lst cI l_0 ∧ fr' 8 = .int .i64
        (List.length l_0 : Int) ∧ fr' 9 = .int .i64 (i1 : Int)) (fun Q24 hN25 => ?_) ?_
    · simp only [List.take_succ_cons, List.take_zero]
      simp only [run_guard (g := 16), B0, reduceIte, reduceEqDiff]
      refine guard_split (t := (decide (x2 < 0))) (fun hg26 => ?_) (fun hg26 => ?_)
      · simp only [hg26, run_guard (g := 16), guard_off', run_pick, put1_some, xpick_t, run_ops_nil, run_nil, B0, reduceIte, reduceEqDiff]
        exact hN25 _ _ ⟨hS17, by rw [orT hg26]; simp only [B0, reduceIte, reduceEqDiff], f18, f19, rfl, rfl, f20, f23, f22⟩
      · simp only [hg26, run_guard (g := 16), guard_false, run_mv, f19, run_bin, put1_some, xgeq, run_pick, xpick_f, run_ops_nil, run_nil, B0, reduceIte, reduceEqDiff]
        exact hN25 _ _ ⟨hS17, by rw [orF hg26]; simp only [B0, reduceIte, reduceEqDiff], f18, f19, rfl, rfl, f20, f23, f22⟩
    rintro fr27 h36 ⟨hS37, f28, f29, f30, f31, f32, f33, f34, f35⟩
    simp only [List.drop_succ_cons, List.drop_zero]
    simp only [f28, run_mv, B0, reduceIte, reduceEqDiff]
    obtain ⟨v41, hx42, hF43⟩ := bind_some' hF7
    refine ops_j 12 (fun fr' h' => Sep h' (geL h.length) ([]) ∧ fr' 33 = .bool v41 ∧ fr' 0 = lst cI l_0 ∧ fr' 1 = .int .i64 many_1 ∧ fr' 7 = lst cI l_0 ∧ fr' 8 = .int .i64
        (List.length l_0 : Int) ∧ fr' 9 = .int .i64 (i1 : Int)) (fun Q38 hN39 => ?_) ?_
    · simp only [List.take_succ_cons, List.take_zero]
      simp only [run_guard (g := 21), B0, reduceIte, reduceEqDiff]
      refine guard_split (t := ((decide (x2 < 0)) || (decide (many_1 ≤ x2)))) (fun hg40 => ?_) (fun hg40 => ?_)
      · rw [iteT hg40] at hx42
        simp only [hg40, run_guard (g := 21), guard_off', run_guard (g := 24), guard_tup, run_pick, put1_some, xpick_t, run_ops_nil, run_nil, B0, reduceIte, reduceEqDiff]
        have e44 := some_inj hx42
        exact hN39 _ _ ⟨hS37, by rw [← e44]; simp only [B0, reduceIte, reduceEqDiff], f29, f30, f33, f34, f35⟩
      · rw [iteF hg40] at hx42
        simp only [hg40, run_guard (g := 21), guard_false, f31, run_mv, run_bin, put1_some, xgtr, B0, reduceIte, reduceEqDiff]
        obtain ⟨v48, hx49, hF50⟩ := bind_some' hx42
        refine ops_j 8 (fun fr' h' => Sep h' (geL h.length) ([]) ∧ fr' 32 = .bool v48 ∧ fr' 0 = lst cI l_0 ∧ fr' 1 = .int .i64 many_1 ∧ fr' 7 = lst cI l_0 ∧ fr' 8 = .int .i64
            (List.length l_0 : Int) ∧ fr' 9 = .int .i64 (i1 : Int) ∧ fr' 21 = .bool ((decide (x2 < 0)) || (decide (many_1 ≤ x2)))) (fun Q45 hN46 => ?_) ?_
        · simp only [List.take_succ_cons, List.take_zero]
          simp only [run_guard (g := 24), B0, reduceIte, reduceEqDiff]
          refine guard_split (t := (decide ((0 : Int) < (i1 : Int)))) (fun hg47 => ?_) (fun hg47 => ?_)
          · rw [iteT hg47] at hx49
            obtain ⟨x51, hx52, hF53⟩ := bind_some' hx49
            simp only [hg47, run_guard (g := 24), guard_true, f29, run_mv, f31, run_bin, put1_some, xsub, run_ia, B0, reduceIte, reduceEqDiff]
            refine put1_eq (v := .ref (cI x51) 0) (xia_lst hx52 rfl) ?_
            simp only [hg47, run_guard (g := 24), guard_true, run_ld, B0, reduceIte, reduceEqDiff]
            refine put1_eq (v := .int .i64 x51) rfl ?_
            simp only [hg47, run_guard (g := 24), guard_true, f32, run_mv, run_bin, put1_some, xgeq, hg40, run_guard (g := 21), guard_false, run_pick, xpick_t, run_ops_nil,
                run_nil, B0, reduceIte, reduceEqDiff]
            have e54 := some_inj hF53
            exact hN46 _ _ ⟨hS37, by rw [← e54]; simp only [B0, reduceIte, reduceEqDiff], f29, f30, f33, f34, f35, by simp only [hg40, B0, reduceIte, reduceEqDiff]⟩
          · rw [iteF hg47] at hx49
            simp only [hg47, run_guard (g := 24), guard_off, hg40, run_guard (g := 21), guard_false, run_pick, put1_some, xpick_f, run_ops_nil, run_nil, B0, reduceIte,
                reduceEqDiff]
            have e55 := some_inj hx49
            exact hN46 _ _ ⟨hS37, by rw [← e55]; simp only [B0, reduceIte, reduceEqDiff], f29, f30, f33, f34, f35, by simp only [hg40, B0, reduceIte, reduceEqDiff]⟩
        rintro fr56 h64 ⟨hS65, f57, f58, f59, f60, f61, f62, f63⟩
        simp only [List.drop_succ_cons, List.drop_zero]
        simp only [f63, hg40, run_pick, put1_some, xpick_f, f57, run_ops_nil, run_nil, B0, reduceIte, reduceEqDiff]
        have e66 := some_inj hF50
        exact hN39 _ _ ⟨hS65, by rw [← e66]; simp only [B0, reduceIte, reduceEqDiff], f58, f59, f60, f61, f62⟩
    rintro fr67 h74 ⟨hS75, f68, f69, f70, f71, f72, f73⟩
    simp only [List.drop_succ_cons, List.drop_zero]
    simp only [run_ops_nil, f68, run_cond, B0, reduceIte, reduceEqDiff]
    refine cond_split (t := v41) (fun hc76 => ?_) (fun hc76 => ?_)
    · rw [iteT hc76] at hF43
      simp only [run_seq, run_reg, run_mv, run_ops_nil, run_ret, B0, reduceIte, reduceEqDiff]
      have e77 := some_inj hF43
      subst e77
      have ho78 := hr8 _ rfl
      have hk79 := hk6
      rw [ho78] at hk79
      dsimp only [jnO] at hk79
      apply hR12
      have he := some_inj hk79
      subst he
      simp only [end_ret1, B0, reduceIte, reduceEqDiff]
      exact rfl
    rw [iteF hc76] at hF43
    simp only [run_skip, run_nil, B0, reduceIte, reduceEqDiff]
    have e80 := some_inj hF43
    exact hN10 _ _ _ e80.symm ⟨f69, f70, f71, hS75⟩ (f73) (f72)
  rintro _ fr82 h83 rfl ⟨f85, f86, f87, hS84⟩
  dsimp only [jnO] at hk6
  unfold spec_l6Group_j1 at hk6
  simp only [run_seq, run_reg, run_mv, run_ops_nil, run_ret, B0, reduceIte, reduceEqDiff]
  have he := some_inj hk6
  subst he
  simp only [end_ret1, B0, reduceIte, reduceEqDiff]
  exact rfl
theorem spec_l1Has_x {W : Nat → Bool} {h : Heap} (hW : ∀ b,
    (geL h.length) b → W b = true) (l_0 : List Int) (n_1 : Int) (r : Bool) (hF : spec_l1Has l_0 n_1 = some r) : Ret E W 74 [lst cI l_0,
    .int .i64 n_1] h (fun v h' => cut h.length h' E.sz false 9 v = some (.bool r)) := by
  refine Ret.of (fn := x74) rfl (Run.of ?_)
  unfold spec_l1Has at hF
  have zf0 : argFr [lst cI l_0, .int .i64 n_1] 0 = lst cI l_0 := rfl
  have zf1 : argFr [lst cI l_0, .int .i64 n_1] 1 = .int .i64 n_1 := rfl
  generalize argFr [lst cI l_0, .int .i64 n_1] = fr0 at zf0 zf1 ⊢
  have hS : Sep h (geL h.length) [] := Sep.nil h
  simp only [x74, run_seq, run_reg, run_mv, run_ops_nil, x74_5, zf0, run_len, put1_some, xlen_lst, B0, reduceIte, reduceEqDiff]
  obtain ⟨oc3, hX5, hk6⟩ := jn_some hF
  simp only [x74_4]
  refine rangeL_j (σ := Unit) l_0 (fun i1 x2 _ => spec_l1Has_b1 n_1 i1 x2 ) (fun s fr' h' => fr' 1 = .int .i64 n_1 ∧ fr' 7 = lst cI l_0 ∧ Sep h' (geL h.length) ([])) hX5 ⟨zf1,
      rfl, hS⟩ (by simp only [B0, reduceIte, reduceEqDiff]) (by simp only [B0, reduceIte,
      reduceEqDiff]) (fun _ _ _ h => h) rfl rfl (fun _ _ _ _ h => h) (fun _ _ _ _ h => h) (fun _ _ _ _ h => h) (by decide) ?_ ?_
  · rintro i1 x2 _ fr15 h16 hx20 ⟨f18, f19, hS17⟩ f21 f22 oc4 hF7 hr8 Q9 hN10 hB14 hK11 hR12 hE13
    unfold spec_l1Has_b1 at hF7
    simp only [x74_2, run_seq, run_reg, f19, f21, run_ia, B0, reduceIte, reduceEqDiff]
    refine put1_eq (v := .ref (cI x2) 0) (xia_lstN hx20 rfl) ?_
    simp only [run_ld, B0, reduceIte, reduceEqDiff]
    refine put1_eq (v := .int .i64 x2) rfl ?_
    simp only [run_mv, run_ops_nil, x74_1, run_seq, run_reg, f18, run_bin, put1_some, xeql, run_cond, B0, reduceIte, reduceEqDiff]
    refine cond_split (t := (decide (x2 = n_1))) (fun hc23 => ?_) (fun hc23 => ?_)
    · rw [iteT hc23] at hF7
      simp only [run_seq, run_reg, run_mv, run_ops_nil, run_ret, B0, reduceIte, reduceEqDiff]
      have e24 := some_inj hF7
      subst e24
      have ho25 := hr8 _ rfl
      have hk26 := hk6
      rw [ho25] at hk26
      dsimp only [jnO] at hk26
      apply hR12
      have he := some_inj hk26
      subst he
      simp only [end_ret1, B0, reduceIte, reduceEqDiff]
      exact rfl
    rw [iteF hc23] at hF7
    simp only [run_skip, run_nil, B0, reduceIte, reduceEqDiff]
    have e27 := some_inj hF7
    exact hN10 _ _ _ e27.symm ⟨f18, f19, hS17⟩ (f21) (f22)
  rintro _ fr29 h30 rfl ⟨f32, f33, hS31⟩
  dsimp only [jnO] at hk6
  unfold spec_l1Has_j1 at hk6
  simp only [run_seq, run_reg, run_mv, run_ops_nil, run_ret, B0, reduceIte, reduceEqDiff]
  have he := some_inj hk6
  subst he
  simp only [end_ret1, B0, reduceIte, reduceEqDiff]
  exact rfl
theorem spec_l11Log_x {W : Nat → Bool} {h : Heap} (hW : ∀ b,
    (geL h.length) b → W b = true) (l_0 : List Row) (epoch_1 : Int) (r : Bool) (hF : spec_l11Log l_0 epoch_1 = some r) : Ret E W 75 [lst Row.cells l_0,
    .int .i64 epoch_1] h (fun v h' => cut h.length h' E.sz false 9 v = some (.bool r)) := by
  refine Ret.of (fn := x75) rfl (Run.of ?_)
  unfold spec_l11Log at hF
  have zf0 : argFr [lst Row.cells l_0, .int .i64 epoch_1] 0 = lst Row.cells l_0 := rfl
  have zf1 : argFr [lst Row.cells l_0, .int .i64 epoch_1] 1 = .int .i64 epoch_1 := rfl
  generalize argFr [lst Row.cells l_0, .int .i64 epoch_1] = fr0 at zf0 zf1 ⊢
  have hS : Sep h (geL h.length) [] := Sep.nil h
  simp only [x75, run_seq, run_reg, run_mv, run_ops_nil, x75_6, zf0, run_len, put1_some, xlen_lst, B0, reduceIte, reduceEqDiff]
  obtain ⟨oc3, hX5, hk6⟩ := jn_some hF
  simp only [x75_4]
  refine rangeL_j (σ := Unit) l_0 (fun i1 x2 _ => spec_l11Log_b1 l_0 epoch_1 i1 x2 )
      (fun s fr' h' => fr' 0 = lst Row.cells l_0 ∧ fr' 1 = .int .i64 epoch_1 ∧ fr' 7 = lst Row.cells l_0 ∧ Sep h' (geL h.length) ([])) hX5 ⟨zf0, zf1, rfl, hS⟩ (by simp only [B0,
      reduceIte, reduceEqDiff]) (by simp only [B0, reduceIte,
      reduceEqDiff]) (fun _ _ _ h => h) rfl rfl (fun _ _ _ _ h => h) (fun _ _ _ _ h => h) (fun _ _ _ _ h => h) (by decide) ?_ ?_
  · rintro i1 x2 _ fr15 h16 hx21 ⟨f18, f19, f20, hS17⟩ f22 f23 oc4 hF7 hr8 Q9 hN10 hB14 hK11 hR12 hE13
    unfold spec_l11Log_b1 at hF7
    simp only [x75_2, run_seq, run_reg, f22, run_mv, f20, run_ia, B0, reduceIte, reduceEqDiff]
    refine put1_eq (v := .ref (Row.cells x2) 0) (xia_lstN hx21 rfl) ?_
    simp only [run_ld, B0, reduceIte, reduceEqDiff]
    refine put1_eq (v := .agg [.int .i64 x2.Epoch, .int .i64 x2.Value]) rfl ?_
    simp only [run_new, B0, reduceIte, reduceEqDiff]
    refine put2_newC hS17 (fun b24 h25 hS26 => ?_)
    simp only [run_mv, run_st, B0, reduceIte, reduceEqDiff]
    refine put2_stCx (us := [.int .i64 x2.Epoch, .int .i64 x2.Value]) rfl (cs' := [.int .i64 x2.Epoch,
        .int .i64 x2.Value]) hS26 hW rfl rfl (Nat.le_of_ble_eq_true rfl) rfl (fun h28 hS29 => ?_)
    simp only [run_ops_nil, B0, reduceIte, reduceEqDiff]
    refine frz_stepC hS29 hW (by simp only [B0, reduceIte, reduceEqDiff]) (fun h30 hS31 => ?_)
    simp only [run_frz_nil, x75_1, run_seq, run_draw, d4_fa, put1d_some, Nat.reduceAdd, Nat.zero_add, Nat.add_zero, xfa_ref, d4_ld, B0, reduceIte, reduceEqDiff]
    refine put1d_eq (v := .int .i64 x2.Epoch) rfl ?_
    simp only [f19, d4_mv, put1d_some, run_d3_call, B0, reduceIte, reduceEqDiff]
    refine call1d rfl (mapM1 snap_int (mapM1 snap_int (mapM1 snap_int mapM0))) (spec_l1In_x (fun b hb => decide_eq_true hb) x2.Epoch 0 epoch_1 _ rfl) ?_
    simp only [d4_un, put1d_some, xnot, d4_mv, B0, reduceIte, reduceEqDiff]
    simp only [run_guardd (g := 19), B0, reduceIte, reduceEqDiff]
    refine guardd_split (t := (!(spec_l1In x2.Epoch 0 epoch_1))) (fun hg32 => ?_) (fun hg32 => ?_)
    · rw [iteT hg32] at hF7
      simp only [hg32, run_guardd (g := 19), guardd_off', d4_pick, put1d_some, xpick_t, d4_mv, run_guardd (g := 25), run_guardd (g := 28), guardd_tup, run_draw_nil, run_cond,
          cond_true, run_seq, run_reg, run_mv, run_ops_nil, run_ret, B0, reduceIte, reduceEqDiff]
      have e33 := some_inj hF7
      subst e33
      have ho34 := hr8 _ rfl
      have hk35 := hk6
      rw [ho34] at hk35
      dsimp only [jnO] at hk35
      apply hR12
      have he := some_inj hk35
      subst he
      simp only [end_ret1, B0, reduceIte, reduceEqDiff]
      exact rfl
    rw [iteF hg32] at hF7
    simp only [hg32, run_guardd (g := 19), guardd_false, d4_fa, put1d_some, Nat.reduceAdd, Nat.zero_add, Nat.add_zero, xfa_ref, d4_ld, B0, reduceIte, reduceEqDiff]
    refine put1d_eq (v := .int .i64 x2.Value) rfl ?_
    simp only [hg32, run_guardd (g := 19), guardd_false, run_d3_call, B0, reduceIte, reduceEqDiff]
    refine call1d rfl (mapM1 snap_int (mapM1 snap_int (mapM1 snap_int mapM0))) (spec_l1In_x (fun b hb => decide_eq_true hb) x2.Value 0 99 _ rfl) ?_
    simp only [hg32, run_guardd (g := 19), guardd_false, d4_un, put1d_some, xnot, d4_pick, xpick_f, d4_mv, B0, reduceIte, reduceEqDiff]
    obtain ⟨v39, hx40, hF41⟩ := bind_some' hF7
    refine draw_j 14 (fun fr' h' => Sep h' (geL h.length)
        ([]) ∧ fr' 39 = .bool v39 ∧ fr' 0 = lst Row.cells l_0 ∧ fr' 1 = .int .i64 epoch_1 ∧ fr' 7 = lst Row.cells l_0 ∧ fr' 8 = .int .i64
        (List.length l_0 : Int) ∧ fr' 9 = .int .i64 (i1 : Int)) rfl (fun Q36 hN37 => ?_) ?_
    · simp only [List.take_succ_cons, List.take_zero]
      simp only [run_guardd (g := 25), B0, reduceIte, reduceEqDiff]
      refine guardd_split (t := (!(spec_l1In x2.Value 0 99))) (fun hg38 => ?_) (fun hg38 => ?_)
      · rw [iteT hg38] at hx40
        simp only [hg38, run_guardd (g := 25), guardd_off', run_guardd (g := 28), guardd_tup, d4_pick, put1d_some, xpick_t, run_draw_nil, run_nil, B0, reduceIte, reduceEqDiff]
        have e42 := some_inj hx40
        exact hN37 _ _ ⟨hS31, by rw [← e42]; simp only [B0, reduceIte, reduceEqDiff], f18, f19, f20, f23, f22⟩
      · rw [iteF hg38] at hx40
        simp only [hg38, run_guardd (g := 25), guardd_false, d4_mv, put1d_some, d4_bin, xgtr, B0, reduceIte, reduceEqDiff]
        obtain ⟨v46, hx47, hF48⟩ := bind_some' hx40
        refine draw_j 10 (fun fr' h' => Sep h' (geL h.length)
            ([]) ∧ fr' 38 = .bool v46 ∧ fr' 0 = lst Row.cells l_0 ∧ fr' 1 = .int .i64 epoch_1 ∧ fr' 7 = lst Row.cells l_0 ∧ fr' 8 = .int .i64
            (List.length l_0 : Int) ∧ fr' 9 = .int .i64 (i1 : Int) ∧ fr' 25 = .bool (!(spec_l1In x2.Value 0 99))) rfl (fun Q43 hN44 => ?_) ?_
        · simp only [List.take_succ_cons, List.take_zero]
          simp only [run_guardd (g := 28), B0, reduceIte, reduceEqDiff]
          refine guardd_split (t := (decide ((0 : Int) < (i1 : Int)))) (fun hg45 => ?_) (fun hg45 => ?_)
          · rw [iteT hg45] at hx47
            obtain ⟨x49, hx50, hF51⟩ := bind_some' hx47
            simp only [hg45, run_guardd (g := 28), guardd_true, f18, d4_mv, put1d_some, d4_bin, xsub, d4_ia, B0, reduceIte, reduceEqDiff]
            refine put1d_eq (v := .ref (Row.cells x49) 0) (xia_lst hx50 rfl) ?_
            simp only [hg45, run_guardd (g := 28), guardd_true, d4_fa, put1d_some, Nat.reduceAdd, Nat.zero_add, Nat.add_zero, xfa_ref, d4_ld, B0, reduceIte, reduceEqDiff]
            refine put1d_eq (v := .int .i64 x49.Epoch) rfl ?_
            simp only [hg45, run_guardd (g := 28), guardd_true, d4_fa, put1d_some, Nat.reduceAdd, Nat.zero_add, Nat.add_zero, xfa_ref, d4_ld, B0, reduceIte, reduceEqDiff]
            refine put1d_eq (v := .int .i64 x2.Epoch) rfl ?_
            simp only [hg45, run_guardd (g := 28), guardd_true, d4_bin, put1d_some, xgtr, hg38, run_guardd (g := 25), guardd_false, d4_pick, xpick_t, run_draw_nil, run_nil, B0,
                reduceIte, reduceEqDiff]
            have e52 := some_inj hF51
            exact hN44 _ _ ⟨hS31, by rw [← e52]; simp only [B0, reduceIte, reduceEqDiff], f18, f19, f20, f23, f22, by simp only [hg38, B0, reduceIte, reduceEqDiff]⟩
          · rw [iteF hg45] at hx47
            simp only [hg45, run_guardd (g := 28), guardd_off, hg38, run_guardd (g := 25), guardd_false, d4_pick, put1d_some, xpick_f, run_draw_nil, run_nil, B0, reduceIte,
                reduceEqDiff]
            have e53 := some_inj hx47
            exact hN44 _ _ ⟨hS31, by rw [← e53]; simp only [B0, reduceIte, reduceEqDiff], f18, f19, f20, f23, f22, by simp only [hg38, B0, reduceIte, reduceEqDiff]⟩
        rintro fr54 h62 ⟨hS63, f55, f56, f57, f58, f59, f60, f61⟩
        simp only [List.drop_succ_cons, List.drop_zero]
        simp only [f61, hg38, d4_pick, put1d_some, xpick_f, f55, run_draw_nil, run_nil, B0, reduceIte, reduceEqDiff]
        have e64 := some_inj hF48
        exact hN37 _ _ ⟨hS63, by rw [← e64]; simp only [B0, reduceIte, reduceEqDiff], f56, f57, f58, f59, f60⟩
    rintro fr65 h72 ⟨hS73, f66, f67, f68, f69, f70, f71⟩
    simp only [List.drop_succ_cons, List.drop_zero]
    simp only [run_draw_nil, f66, run_cond, B0, reduceIte, reduceEqDiff]
    refine cond_split (t := v39) (fun hc74 => ?_) (fun hc74 => ?_)
    · rw [iteT hc74] at hF41
      simp only [run_seq, run_reg, run_mv, run_ops_nil, run_ret, B0, reduceIte, reduceEqDiff]
      have e75 := some_inj hF41
      subst e75
      have ho76 := hr8 _ rfl
      have hk77 := hk6
      rw [ho76] at hk77
      dsimp only [jnO] at hk77
      apply hR12
      have he := some_inj hk77
      subst he
      simp only [end_ret1, B0, reduceIte, reduceEqDiff]
      exact rfl
    rw [iteF hc74] at hF41
    simp only [run_skip, run_nil, B0, reduceIte, reduceEqDiff]
    have e78 := some_inj hF41
    exact hN10 _ _ _ e78.symm ⟨f67, f68, f69, hS73⟩ (f71) (f70)
  rintro _ fr80 h81 rfl ⟨f83, f84, f85, hS82⟩
  dsimp only [jnO] at hk6
  unfold spec_l11Log_j1 at hk6
  simp only [x75_5, run_seq, run_reg, f83, run_mv, run_len, put1_some, xlen_lst, run_bin, xleq, run_ops_nil, run_ret, B0, reduceIte, reduceEqDiff]
  have he := some_inj hk6
  subst he
  simp only [end_ret1, B0, reduceIte, reduceEqDiff]
  exact rfl
theorem spec_l11Same_x {W : Nat → Bool} {h : Heap} (hW : ∀ b,
    (geL h.length) b → W b = true) (k : Nat) (a_0 : List Row) (b_1 : List Row) (r : Int) (hF : spec_l11Same k a_0 b_1 = some r) : Ret E W 76 [lst Row.cells a_0,
    lst Row.cells b_1] h (fun v h' => cut h.length h' E.sz false 9 v = some (.int .i64 r)) := by
  refine Ret.of (fn := x76) rfl (Run.of ?_)
  unfold spec_l11Same at hF
  have zf0 : argFr [lst Row.cells a_0, lst Row.cells b_1] 0 = lst Row.cells a_0 := rfl
  have zf1 : argFr [lst Row.cells a_0, lst Row.cells b_1] 1 = lst Row.cells b_1 := rfl
  generalize argFr [lst Row.cells a_0, lst Row.cells b_1] = fr0 at zf0 zf1 ⊢
  have hS : Sep h (geL h.length) [] := Sep.nil h
  simp only [x76, run_seq, run_reg, run_mv, run_ops_nil, x76_4, x76_3, B0, reduceIte, reduceEqDiff]
  obtain ⟨oc5, hX7, hk8⟩ := jn_some hF
  simp only [x76_2]
  refine loopF_j (σ := Int) (fun s58 => spec_l11Same_b1 a_0 b_1 s58) (fun s fr' h' => fr' 0 = lst Row.cells a_0 ∧ fr' 1 = lst Row.cells b_1 ∧ fr' 5 = .int .i64 s ∧ Sep h'
      (geL h.length) ([])) hX7 ⟨zf0, zf1, rfl, hS⟩ (fun _ _ _ h => h) ?_ ?_
  · rintro s2 fr17 h18 ⟨f20, f21, f22, hS19⟩ oc6 hF9 hr10 Q11 hN12 hK13 hR14 hE15
    unfold spec_l11Same_b1 at hF9
    simp only [x76_1, run_seq, run_draw, f22, d4_mv, put1d_some, f20, d4_len, xlen_lst, d4_bin, xlss, B0, reduceIte, reduceEqDiff]
    refine draw_j 5 (fun fr' h' => Sep h' (geL h.length) ([]) ∧ fr' 15 = .bool ((decide (s2 < (List.length a_0 : Int))) && (decide (s2 <
        (List.length b_1 : Int)))) ∧ fr' 0 = lst Row.cells a_0 ∧ fr' 1 = lst Row.cells b_1 ∧ fr' 5 = .int .i64 s2) rfl (fun Q24 hN25 => ?_) ?_
    · simp only [List.take_succ_cons, List.take_zero]
      simp only [run_guardd (g := 10), B0, reduceIte, reduceEqDiff]
      refine guardd_split (t := (decide (s2 < (List.length a_0 : Int)))) (fun hg26 => ?_) (fun hg26 => ?_)
      · simp only [hg26, run_guardd (g := 10), guardd_true, f22, d4_mv, put1d_some, f21, d4_len, xlen_lst, d4_bin, xlss, d4_pick, xpick_t, run_draw_nil, run_nil, B0, reduceIte,
          reduceEqDiff]
        exact hN25 _ _ ⟨hS19, by rw [andT hg26]; simp only [B0, reduceIte, reduceEqDiff], f20, f21, f22⟩
      · simp only [hg26, run_guardd (g := 10), guardd_off, d4_pick, put1d_some, xpick_f, run_draw_nil, run_nil, B0, reduceIte, reduceEqDiff]
        exact hN25 _ _ ⟨hS19, by rw [andF hg26]; simp only [B0, reduceIte, reduceEqDiff], f20, f21, f22⟩
    rintro fr27 h32 ⟨hS33, f28, f29, f30, f31⟩
    simp only [List.drop_succ_cons, List.drop_zero]
    simp only [f28, d4_mv, put1d_some, B0, reduceIte, reduceEqDiff]
    obtain ⟨v37, hx38, hF39⟩ := bind_some' hF9
    refine draw_j 10 (fun fr' h' => Sep h' (geL h.length) ([]) ∧ fr' 26 = .bool v37 ∧ fr' 0 = lst Row.cells a_0 ∧ fr' 1 = lst Row.cells b_1 ∧ fr' 5 = .int .i64 s2) rfl
        (fun Q34 hN35 => ?_) ?_
    · simp only [List.take_succ_cons, List.take_zero]
      simp only [run_guardd (g := 16), B0, reduceIte, reduceEqDiff]
      refine guardd_split (t := ((decide (s2 < (List.length a_0 : Int))) && (decide (s2 < (List.length b_1 : Int))))) (fun hg36 => ?_) (fun hg36 => ?_)
      · rw [iteT hg36] at hx38
        obtain ⟨x40, hx41, hF42⟩ := bind_some' hx38
        simp only [hg36, run_guardd (g := 16), guardd_true, f29, d4_mv, put1d_some, f31, d4_ia, B0, reduceIte, reduceEqDiff]
        refine put1d_eq (v := .ref (Row.cells x40) 0) (xia_lst hx41 rfl) ?_
        simp only [hg36, run_guardd (g := 16), guardd_true, d4_ld, B0, reduceIte, reduceEqDiff]
        refine put1d_eq (v := .agg [.int .i64 x40.Epoch, .int .i64 x40.Value]) rfl ?_
        obtain ⟨x43, hx44, hF45⟩ := bind_some' hF42
        simp only [hg36, run_guardd (g := 16), guardd_true, f30, d4_mv, put1d_some, f31, d4_ia, B0, reduceIte, reduceEqDiff]
        refine put1d_eq (v := .ref (Row.cells x43) 0) (xia_lst hx44 rfl) ?_
        simp only [hg36, run_guardd (g := 16), guardd_true, d4_ld, B0, reduceIte, reduceEqDiff]
        refine put1d_eq (v := .agg [.int .i64 x43.Epoch, .int .i64 x43.Value]) rfl ?_
        simp only [hg36, run_guardd (g := 16), guardd_true, d4_eqs, B0, reduceIte, reduceEqDiff]
        refine put1d_eq (v := .bool ((x40.Epoch == x43.Epoch) && ((x40.Value == x43.Value) && true))) rfl ?_
        simp only [hg36, d4_pick, put1d_some, xpick_t, run_draw_nil, run_nil, B0, reduceIte, reduceEqDiff]
        have e46 := some_inj hF45
        exact hN35 _ _ ⟨hS33, by rw [← e46]; simp only [B0, reduceIte, reduceEqDiff], f29, f30, f31⟩
      · rw [iteF hg36] at hx38
        simp only [hg36, run_guardd (g := 16), guardd_off, d4_pick, put1d_some, xpick_f, run_draw_nil, run_nil, B0, reduceIte, reduceEqDiff]
        have e47 := some_inj hx38
        exact hN35 _ _ ⟨hS33, by rw [← e47]; simp only [B0, reduceIte, reduceEqDiff], f29, f30, f31⟩
    rintro fr48 h53 ⟨hS54, f49, f50, f51, f52⟩
    simp only [List.drop_succ_cons, List.drop_zero]
    simp only [run_draw_nil, f49, run_cond, B0, reduceIte, reduceEqDiff]
    refine cond_split (t := v37) (fun hc55 => ?_) (fun hc55 => ?_)
    · rw [iteT hc55] at hF39
      simp only [run_skip, run_block, run_reg, f52, run_mv, run_bin, put1_some, xadd, run_ops_nil, run_blk, run_nil, B0, reduceIte, reduceEqDiff]
      have e56 := some_inj hF39
      exact hN12 _ _ _ e56.symm ⟨f50, f51, rfl, hS54⟩
    rw [iteF hc55] at hF39
    simp only [run_exit, out_code, out_nil, B0, reduceIte, reduceEqDiff]
    have e57 := some_inj hF39
    exact hK13 _ _ _ e57.symm ⟨f50, f51, f52, hS54⟩
  rintro s59 fr60 h61 rfl ⟨f63, f64, f65, hS62⟩
  dsimp only [jnO] at hk8
  unfold spec_l11Same_j1 at hk8
  simp only [run_seq, run_reg, f65, run_mv, run_ops_nil, run_ret, B0, reduceIte, reduceEqDiff]
  have he := some_inj hk8
  subst he
  simp only [end_ret1, B0, reduceIte, reduceEqDiff]
  exact rfl
theorem spec_GoodGroup_x {W : Nat → Bool} {h : Heap} (hW : ∀ b,
    (geL h.length) b → W b = true) (k : Nat) (v_0 : Group) (r : Bool) (hF : spec_GoodGroup k v_0 = some r) : Ret E W 35 [.agg [.int .i64 v_0.Epoch, .int .i64 v_0.Leader,
    lst cI v_0.InStep, .int .i64 v_0.High, lst Replica.cells v_0.Replicas]] h (fun v h' => cut h.length h' E.sz false 9 v = some (.bool r)) := by
  refine Ret.of (fn := x35) rfl (Run.of ?_)
  unfold spec_GoodGroup at hF
  have zf0 : argFr [.agg [.int .i64 v_0.Epoch, .int .i64 v_0.Leader, lst cI v_0.InStep, .int .i64 v_0.High, lst Replica.cells v_0.Replicas]] 0 = .agg [.int .i64 v_0.Epoch,
      .int .i64 v_0.Leader, lst cI v_0.InStep, .int .i64 v_0.High, lst Replica.cells v_0.Replicas] := rfl
  generalize argFr [.agg [.int .i64 v_0.Epoch, .int .i64 v_0.Leader, lst cI v_0.InStep, .int .i64 v_0.High, lst Replica.cells v_0.Replicas]] = fr0 at zf0 ⊢
  have hS : Sep h (geL h.length) [] := Sep.nil h
  simp only [x35, run_seq, run_reg, run_box, zf0, B0, reduceIte, reduceEqDiff]
  refine put2_boxC (cs := [.int .i64 v_0.Epoch, .int .i64 v_0.Leader, lst cI v_0.InStep, .int .i64 v_0.High, lst Replica.cells v_0.Replicas]) hS rfl rfl rfl (fun b1 h2 hS3 => ?_)
  simp only [run_mv, run_ops_nil, B0, reduceIte, reduceEqDiff]
  refine frz_stepC hS3 hW (by simp only [B0, reduceIte, reduceEqDiff]) (fun h5 hS6 => ?_)
  simp only [run_frz_nil, x35_9, run_seq, run_reg, run_fa, put1_some, Nat.reduceAdd, Nat.zero_add, Nat.add_zero, xfa_ref, run_ld, B0, reduceIte, reduceEqDiff]
  refine put1_eq (v := lst Replica.cells v_0.Replicas) rfl ?_
  simp only [run_len, put1_some, xlen_lst, run_mv, run_ops_nil, x35_8, run_seq, run_reg, run_call, B0, reduceIte, reduceEqDiff]
  refine call1 rfl (mapM1 snap_int (mapM1 snap_int (mapM1 snap_int mapM0))) (spec_l1In_x (fun b hb => decide_eq_true hb) (List.length v_0.Replicas : Int) 2 4 _ rfl) ?_
  simp only [run_un, put1_some, xnot, run_mv, B0, reduceIte, reduceEqDiff]
  refine ops_j 5 (fun fr' h' => Sep h' (geL h.length) ([]) ∧ fr' 17 = .bool ((!(spec_l1In (List.length v_0.Replicas : Int) 2 4)) ||
      (!(spec_l1In v_0.Epoch 0 100))) ∧ fr' 1 = .ref [.int .i64 v_0.Epoch, .int .i64 v_0.Leader, lst cI v_0.InStep, .int .i64 v_0.High,
      lst Replica.cells v_0.Replicas] 0 ∧ fr' 3 = .int .i64 (List.length v_0.Replicas : Int)) (fun Q7 hN8 => ?_) ?_
  · simp only [List.take_succ_cons, List.take_zero]
    simp only [run_guard (g := 12), B0, reduceIte, reduceEqDiff]
    refine guard_split (t := (!(spec_l1In (List.length v_0.Replicas : Int) 2 4))) (fun hg9 => ?_) (fun hg9 => ?_)
    · simp only [hg9, run_guard (g := 12), guard_off', run_pick, put1_some, xpick_t, run_ops_nil, run_nil, B0, reduceIte, reduceEqDiff]
      exact hN8 _ _ ⟨hS6, by rw [orT hg9]; simp only [B0, reduceIte, reduceEqDiff], rfl, rfl⟩
    · simp only [hg9, run_guard (g := 12), guard_false, run_fa, put1_some, Nat.reduceAdd, Nat.zero_add, Nat.add_zero, xfa_ref, run_ld, B0, reduceIte, reduceEqDiff]
      refine put1_eq (v := .int .i64 v_0.Epoch) rfl ?_
      simp only [hg9, run_guard (g := 12), guard_false, run_call, B0, reduceIte, reduceEqDiff]
      refine call1 rfl (mapM1 snap_int (mapM1 snap_int (mapM1 snap_int mapM0))) (spec_l1In_x (fun b hb => decide_eq_true hb) v_0.Epoch 0 100 _ rfl) ?_
      simp only [hg9, run_guard (g := 12), guard_false, run_un, put1_some, xnot, run_pick, xpick_f, run_ops_nil, run_nil, B0, reduceIte, reduceEqDiff]
      exact hN8 _ _ ⟨hS6, by rw [orF hg9]; simp only [B0, reduceIte, reduceEqDiff], rfl, rfl⟩
  rintro fr10 h14 ⟨hS15, f11, f12, f13⟩
  simp only [List.drop_succ_cons, List.drop_zero]
  simp only [f11, run_mv, B0, reduceIte, reduceEqDiff]
  obtain ⟨v19, hx20, hF21⟩ := bind_some' hF
  refine ops_j 6 (fun fr' h' => Sep h' (geL h.length) ([]) ∧ fr' 24 = .bool v19 ∧ fr' 1 = .ref [.int .i64 v_0.Epoch, .int .i64 v_0.Leader, lst cI v_0.InStep, .int .i64 v_0.High,
      lst Replica.cells v_0.Replicas] 0) (fun Q16 hN17 => ?_) ?_
  · simp only [List.take_succ_cons, List.take_zero]
    simp only [run_guard (g := 18), B0, reduceIte, reduceEqDiff]
    refine guard_split (t := ((!(spec_l1In (List.length v_0.Replicas : Int) 2 4)) || (!(spec_l1In v_0.Epoch 0 100)))) (fun hg18 => ?_) (fun hg18 => ?_)
    · rw [iteT hg18] at hx20
      simp only [hg18, run_guard (g := 18), guard_off', run_pick, put1_some, xpick_t, run_ops_nil, run_nil, B0, reduceIte, reduceEqDiff]
      have e22 := some_inj hx20
      exact hN17 _ _ ⟨hS15, by rw [← e22]; simp only [B0, reduceIte, reduceEqDiff], f12⟩
    · rw [iteF hg18] at hx20
      simp only [hg18, run_guard (g := 18), guard_false, f12, run_fa, put1_some, Nat.reduceAdd, Nat.zero_add, Nat.add_zero, xfa_ref, run_ld, B0, reduceIte, reduceEqDiff]
      refine put1_eq (v := lst cI v_0.InStep) rfl ?_
      obtain ⟨v23, hx24, hF25⟩ := bind_some' hx20
      simp only [hg18, run_guard (g := 18), guard_false, f13, run_mv, run_call, B0, reduceIte, reduceEqDiff]
      refine call1 rfl (mapM1 snap_lst (mapM1 snap_int mapM0)) (spec_l6Group_x (fun b hb => decide_eq_true hb) v_0.InStep (List.length v_0.Replicas : Int) v23 hx24) ?_
      simp only [hg18, run_guard (g := 18), guard_false, run_un, put1_some, xnot, run_pick, xpick_f, run_ops_nil, run_nil, B0, reduceIte, reduceEqDiff]
      have e26 := some_inj hF25
      exact hN17 _ _ ⟨hS15, by rw [← e26]; simp only [B0, reduceIte, reduceEqDiff], f12⟩
  rintro fr27 h30 ⟨hS31, f28, f29⟩
  simp only [List.drop_succ_cons, List.drop_zero]
  simp only [f28, run_mv, B0, reduceIte, reduceEqDiff]
  obtain ⟨v35, hx36, hF37⟩ := bind_some' hF21
  refine ops_j 7 (fun fr' h' => Sep h' (geL h.length) ([]) ∧ fr' 32 = .bool v35 ∧ fr' 1 = .ref [.int .i64 v_0.Epoch, .int .i64 v_0.Leader, lst cI v_0.InStep, .int .i64 v_0.High,
      lst Replica.cells v_0.Replicas] 0) (fun Q32 hN33 => ?_) ?_
  · simp only [List.take_succ_cons, List.take_zero]
    simp only [run_guard (g := 25), B0, reduceIte, reduceEqDiff]
    refine guard_split (t := v19) (fun hg34 => ?_) (fun hg34 => ?_)
    · rw [iteT hg34] at hx36
      simp only [hg34, run_guard (g := 25), guard_off', run_pick, put1_some, xpick_t, run_ops_nil, run_nil, B0, reduceIte, reduceEqDiff]
      have e38 := some_inj hx36
      exact hN33 _ _ ⟨hS31, by rw [← e38]; simp only [B0, reduceIte, reduceEqDiff], f29⟩
    · rw [iteF hg34] at hx36
      simp only [hg34, run_guard (g := 25), guard_false, f29, run_fa, put1_some, Nat.reduceAdd, Nat.zero_add, Nat.add_zero, xfa_ref, run_ld, B0, reduceIte, reduceEqDiff]
      refine put1_eq (v := lst cI v_0.InStep) rfl ?_
      simp only [hg34, run_guard (g := 25), guard_false, f29, run_fa, put1_some, Nat.reduceAdd, Nat.zero_add, Nat.add_zero, xfa_ref, run_ld, B0, reduceIte, reduceEqDiff]
      refine put1_eq (v := .int .i64 v_0.Leader) rfl ?_
      obtain ⟨v39, hx40, hF41⟩ := bind_some' hx36
      simp only [hg34, run_guard (g := 25), guard_false, run_call, B0, reduceIte, reduceEqDiff]
      refine call1 rfl (mapM1 snap_lst (mapM1 snap_int mapM0)) (spec_l1Has_x (fun b hb => decide_eq_true hb) v_0.InStep v_0.Leader v39 hx40) ?_
      simp only [hg34, run_guard (g := 25), guard_false, run_un, put1_some, xnot, run_pick, xpick_f, run_ops_nil, run_nil, B0, reduceIte, reduceEqDiff]
      have e42 := some_inj hF41
      exact hN33 _ _ ⟨hS31, by rw [← e42]; simp only [B0, reduceIte, reduceEqDiff], f29⟩
  rintro fr43 h46 ⟨hS47, f44, f45⟩
  simp only [List.drop_succ_cons, List.drop_zero]
  simp only [f44, run_mv, B0, reduceIte, reduceEqDiff]
  refine ops_j 4 (fun fr' h' => Sep h' (geL h.length) ([]) ∧ fr' 37 = .bool (v35 || (decide (v_0.High < 0))) ∧ fr' 1 = .ref [.int .i64 v_0.Epoch, .int .i64 v_0.Leader,
      lst cI v_0.InStep, .int .i64 v_0.High, lst Replica.cells v_0.Replicas] 0) (fun Q48 hN49 => ?_) ?_
  · simp only [List.take_succ_cons, List.take_zero]
    simp only [run_guard (g := 33), B0, reduceIte, reduceEqDiff]
    refine guard_split (t := v35) (fun hg50 => ?_) (fun hg50 => ?_)
    · simp only [hg50, run_guard (g := 33), guard_off', run_pick, put1_some, xpick_t, run_ops_nil, run_nil, B0, reduceIte, reduceEqDiff]
      exact hN49 _ _ ⟨hS47, by rw [orT hg50]; simp only [B0, reduceIte, reduceEqDiff], f45⟩
    · simp only [hg50, run_guard (g := 33), guard_false, f45, run_fa, put1_some, Nat.reduceAdd, Nat.zero_add, Nat.add_zero, xfa_ref, run_ld, B0, reduceIte, reduceEqDiff]
      refine put1_eq (v := .int .i64 v_0.High) rfl ?_
      simp only [hg50, run_guard (g := 33), guard_false, run_bin, put1_some, xlss, run_pick, xpick_f, run_ops_nil, run_nil, B0, reduceIte, reduceEqDiff]
      exact hN49 _ _ ⟨hS47, by rw [orF hg50]; simp only [B0, reduceIte, reduceEqDiff], f45⟩
  rintro fr51 h54 ⟨hS55, f52, f53⟩
  simp only [List.drop_succ_cons, List.drop_zero]
  simp only [run_ops_nil, f52, run_cond, B0, reduceIte, reduceEqDiff]
  refine cond_split (t := (v35 || (decide (v_0.High < 0)))) (fun hc56 => ?_) (fun hc56 => ?_)
  · rw [iteT hc56] at hF37
    simp only [run_seq, run_reg, run_mv, run_ops_nil, run_ret, B0, reduceIte, reduceEqDiff]
    have he := some_inj hF37
    subst he
    simp only [end_ret1, B0, reduceIte, reduceEqDiff]
    exact rfl
  rw [iteF hc56] at hF37
  simp only [run_skip, x35_7, run_seq, run_reg, f53, run_fa, put1_some, Nat.reduceAdd, Nat.zero_add, Nat.add_zero, xfa_ref, run_ld, B0, reduceIte, reduceEqDiff]
  refine put1_eq (v := lst Replica.cells v_0.Replicas) rfl ?_
  simp only [run_len, put1_some, xlen_lst, run_mv, run_ops_nil, B0, reduceIte, reduceEqDiff]
  obtain ⟨oc59, hX61, hk62⟩ := jn_some hF37
  simp only [x35_6]
  refine rangeL_j (σ := Unit) v_0.Replicas (fun i57 x58 _ => spec_GoodGroup_b1 k v_0 i57 x58 ) (fun s fr' h' => fr' 1 = .ref [.int .i64 v_0.Epoch, .int .i64 v_0.Leader,
      lst cI v_0.InStep, .int .i64 v_0.High, lst Replica.cells v_0.Replicas] 0 ∧ fr' 39 = lst Replica.cells v_0.Replicas ∧ Sep h' (geL h.length) ([])) hX61 ⟨f53, rfl,
      hS55⟩ (by simp only [B0, reduceIte, reduceEqDiff]) (by simp only [B0, reduceIte,
      reduceEqDiff]) (fun _ _ _ h => h) rfl rfl (fun _ _ _ _ h => h) (fun _ _ _ _ h => h) (fun _ _ _ _ h => h) (by decide) ?_ ?_
  · rintro i57 x58 _ fr71 h72 hx76 ⟨f74, f75, hS73⟩ f77 f78 oc60 hF63 hr64 Q65 hN66 hB70 hK67 hR68 hE69
    unfold spec_GoodGroup_b1 at hF63
    simp only [x35_4, run_seq, run_reg, f77, run_mv, f75, run_ia, B0, reduceIte, reduceEqDiff]
    refine put1_eq (v := .ref (Replica.cells x58) 0) (xia_lstN hx76 rfl) ?_
    simp only [run_ld, B0, reduceIte, reduceEqDiff]
    refine put1_eq (v := .agg [lst Row.cells x58.Log, .int .i64 x58.Epoch, .int .i64 x58.Known]) rfl ?_
    simp only [run_new, B0, reduceIte, reduceEqDiff]
    refine put2_newC hS73 (fun b79 h80 hS81 => ?_)
    simp only [run_mv, run_st, B0, reduceIte, reduceEqDiff]
    refine put2_stCx (us := [lst Row.cells x58.Log, .int .i64 x58.Epoch, .int .i64 x58.Known]) rfl (cs' := [lst Row.cells x58.Log, .int .i64 x58.Epoch,
        .int .i64 x58.Known]) hS81 hW rfl rfl (Nat.le_of_ble_eq_true rfl) rfl (fun h83 hS84 => ?_)
    simp only [run_ops_nil, B0, reduceIte, reduceEqDiff]
    refine frz_stepC hS84 hW (by simp only [B0, reduceIte, reduceEqDiff]) (fun h85 hS86 => ?_)
    simp only [run_frz_nil, x35_3, run_seq, run_reg, run_fa, put1_some, Nat.reduceAdd, Nat.zero_add, Nat.add_zero, xfa_ref, run_ld, B0, reduceIte, reduceEqDiff]
    refine put1_eq (v := lst Row.cells x58.Log) rfl ?_
    simp only [f74, run_fa, put1_some, Nat.reduceAdd, Nat.zero_add, Nat.add_zero, xfa_ref, run_ld, B0, reduceIte, reduceEqDiff]
    refine put1_eq (v := .int .i64 v_0.Epoch) rfl ?_
    obtain ⟨v87, hx88, hF89⟩ := bind_some' hF63
    simp only [run_call, B0, reduceIte, reduceEqDiff]
    refine call1 rfl (mapM1 snap_lst (mapM1 snap_int mapM0)) (spec_l11Log_x (fun b hb => decide_eq_true hb) x58.Log v_0.Epoch v87 hx88) ?_
    simp only [run_un, put1_some, xnot, run_mv, B0, reduceIte, reduceEqDiff]
    refine ops_j 7 (fun fr' h' => Sep h' (geL h.length) ([]) ∧ fr' 59 = .bool ((!v87) || (!(spec_l1In x58.Epoch 0 v_0.Epoch))) ∧ fr' 1 = .ref [.int .i64 v_0.Epoch,
        .int .i64 v_0.Leader, lst cI v_0.InStep, .int .i64 v_0.High, lst Replica.cells v_0.Replicas] 0 ∧ fr' 4 = .int .i64 (i57 : Int) ∧ fr' 5 = .ref [lst Row.cells x58.Log,
        .int .i64 x58.Epoch, .int .i64 x58.Known] 0 ∧ fr' 39 = lst Replica.cells v_0.Replicas ∧ fr' 40 = .int .i64 (List.length v_0.Replicas : Int) ∧ fr' 41 = .int .i64
        (i57 : Int)) (fun Q90 hN91 => ?_) ?_
    · simp only [List.take_succ_cons, List.take_zero]
      simp only [run_guard (g := 52), B0, reduceIte, reduceEqDiff]
      refine guard_split (t := (!v87)) (fun hg92 => ?_) (fun hg92 => ?_)
      · simp only [hg92, run_guard (g := 52), guard_off', run_pick, put1_some, xpick_t, run_ops_nil, run_nil, B0, reduceIte, reduceEqDiff]
        exact hN91 _ _ ⟨hS86, by rw [orT hg92]; simp only [B0, reduceIte, reduceEqDiff], f74, rfl, rfl, f75, f78, f77⟩
      · simp only [hg92, run_guard (g := 52), guard_false, run_fa, put1_some, Nat.reduceAdd, Nat.zero_add, Nat.add_zero, xfa_ref, run_ld, B0, reduceIte, reduceEqDiff]
        refine put1_eq (v := .int .i64 x58.Epoch) rfl ?_
        simp only [hg92, run_guard (g := 52), guard_false, f74, run_fa, put1_some, Nat.reduceAdd, Nat.zero_add, Nat.add_zero, xfa_ref, run_ld, B0, reduceIte, reduceEqDiff]
        refine put1_eq (v := .int .i64 v_0.Epoch) rfl ?_
        simp only [hg92, run_guard (g := 52), guard_false, run_call, B0, reduceIte, reduceEqDiff]
        refine call1 rfl (mapM1 snap_int (mapM1 snap_int (mapM1 snap_int mapM0))) (spec_l1In_x (fun b hb => decide_eq_true hb) x58.Epoch 0 v_0.Epoch _ rfl) ?_
        simp only [hg92, run_guard (g := 52), guard_false, run_un, put1_some, xnot, run_pick, xpick_f, run_ops_nil, run_nil, B0, reduceIte, reduceEqDiff]
        exact hN91 _ _ ⟨hS86, by rw [orF hg92]; simp only [B0, reduceIte, reduceEqDiff], f74, rfl, rfl, f75, f78, f77⟩
    rintro fr93 h101 ⟨hS102, f94, f95, f96, f97, f98, f99, f100⟩
    simp only [List.drop_succ_cons, List.drop_zero]
    simp only [f94, run_mv, B0, reduceIte, reduceEqDiff]
    refine ops_j 4 (fun fr' h' => Sep h' (geL h.length) ([]) ∧ fr' 64 = .bool (((!v87) || (!(spec_l1In x58.Epoch 0 v_0.Epoch))) || (decide
        (x58.Known < 0))) ∧ fr' 1 = .ref [.int .i64 v_0.Epoch, .int .i64 v_0.Leader, lst cI v_0.InStep, .int .i64 v_0.High,
        lst Replica.cells v_0.Replicas] 0 ∧ fr' 4 = .int .i64 (i57 : Int) ∧ fr' 5 = .ref [lst Row.cells x58.Log, .int .i64 x58.Epoch,
        .int .i64 x58.Known] 0 ∧ fr' 39 = lst Replica.cells v_0.Replicas ∧ fr' 40 = .int .i64 (List.length v_0.Replicas : Int) ∧ fr' 41 = .int .i64 (i57 : Int))
        (fun Q103 hN104 => ?_) ?_
    · simp only [List.take_succ_cons, List.take_zero]
      simp only [run_guard (g := 60), B0, reduceIte, reduceEqDiff]
      refine guard_split (t := ((!v87) || (!(spec_l1In x58.Epoch 0 v_0.Epoch)))) (fun hg105 => ?_) (fun hg105 => ?_)
      · simp only [hg105, run_guard (g := 60), guard_off', run_pick, put1_some, xpick_t, run_ops_nil, run_nil, B0, reduceIte, reduceEqDiff]
        exact hN104 _ _ ⟨hS102, by rw [orT hg105]; simp only [B0, reduceIte, reduceEqDiff], f95, f96, f97, f98, f99, f100⟩
      · simp only [hg105, run_guard (g := 60), guard_false, f97, run_fa, put1_some, Nat.reduceAdd, Nat.zero_add, Nat.add_zero, xfa_ref, run_ld, B0, reduceIte, reduceEqDiff]
        refine put1_eq (v := .int .i64 x58.Known) rfl ?_
        simp only [hg105, run_guard (g := 60), guard_false, run_bin, put1_some, xlss, run_pick, xpick_f, run_ops_nil, run_nil, B0, reduceIte, reduceEqDiff]
        exact hN104 _ _ ⟨hS102, by rw [orF hg105]; simp only [B0, reduceIte, reduceEqDiff], f95, f96, f97, f98, f99, f100⟩
    rintro fr106 h114 ⟨hS115, f107, f108, f109, f110, f111, f112, f113⟩
    simp only [List.drop_succ_cons, List.drop_zero]
    simp only [f107, run_mv, B0, reduceIte, reduceEqDiff]
    refine ops_j 7 (fun fr' h' => Sep h' (geL h.length) ([]) ∧ fr' 72 = .bool ((((!v87) || (!(spec_l1In x58.Epoch 0 v_0.Epoch))) || (decide (x58.Known < 0))) || (decide
        ((List.length x58.Log : Int) < x58.Known))) ∧ fr' 1 = .ref [.int .i64 v_0.Epoch, .int .i64 v_0.Leader, lst cI v_0.InStep, .int .i64 v_0.High,
        lst Replica.cells v_0.Replicas] 0 ∧ fr' 4 = .int .i64 (i57 : Int) ∧ fr' 5 = .ref [lst Row.cells x58.Log, .int .i64 x58.Epoch,
        .int .i64 x58.Known] 0 ∧ fr' 39 = lst Replica.cells v_0.Replicas ∧ fr' 40 = .int .i64 (List.length v_0.Replicas : Int) ∧ fr' 41 = .int .i64 (i57 : Int))
        (fun Q116 hN117 => ?_) ?_
    · simp only [List.take_succ_cons, List.take_zero]
      simp only [run_guard (g := 65), B0, reduceIte, reduceEqDiff]
      refine guard_split (t := (((!v87) || (!(spec_l1In x58.Epoch 0 v_0.Epoch))) || (decide (x58.Known < 0)))) (fun hg118 => ?_) (fun hg118 => ?_)
      · simp only [hg118, run_guard (g := 65), guard_off', run_pick, put1_some, xpick_t, run_ops_nil, run_nil, B0, reduceIte, reduceEqDiff]
        exact hN117 _ _ ⟨hS115, by rw [orT hg118]; simp only [B0, reduceIte, reduceEqDiff], f108, f109, f110, f111, f112, f113⟩
      · simp only [hg118, run_guard (g := 65), guard_false, f110, run_fa, put1_some, Nat.reduceAdd, Nat.zero_add, Nat.add_zero, xfa_ref, run_ld, B0, reduceIte, reduceEqDiff]
        refine put1_eq (v := .int .i64 x58.Known) rfl ?_
        simp only [hg118, run_guard (g := 65), guard_false, f110, run_fa, put1_some, Nat.reduceAdd, Nat.zero_add, Nat.add_zero, xfa_ref, run_ld, B0, reduceIte, reduceEqDiff]
        refine put1_eq (v := lst Row.cells x58.Log) rfl ?_
        simp only [hg118, run_guard (g := 65), guard_false, run_len, put1_some, xlen_lst, run_bin, xgtr, run_pick, xpick_f, run_ops_nil, run_nil, B0, reduceIte, reduceEqDiff]
        exact hN117 _ _ ⟨hS115, by rw [orF hg118]; simp only [B0, reduceIte, reduceEqDiff], f108, f109, f110, f111, f112, f113⟩
    rintro fr119 h127 ⟨hS128, f120, f121, f122, f123, f124, f125, f126⟩
    simp only [List.drop_succ_cons, List.drop_zero]
    simp only [run_ops_nil, f120, run_cond, B0, reduceIte, reduceEqDiff]
    refine cond_split (t := ((((!v87) || (!(spec_l1In x58.Epoch 0 v_0.Epoch))) || (decide (x58.Known < 0))) || (decide ((List.length x58.Log : Int) < x58.Known))))
        (fun hc129 => ?_) (fun hc129 => ?_)
    · rw [iteT hc129] at hF89
      simp only [run_seq, run_reg, run_mv, run_ops_nil, run_ret, B0, reduceIte, reduceEqDiff]
      have e130 := some_inj hF89
      subst e130
      have ho131 := hr64 _ rfl
      have hk132 := hk62
      rw [ho131] at hk132
      dsimp only [jnO] at hk132
      apply hR68
      have he := some_inj hk132
      subst he
      simp only [end_ret1, B0, reduceIte, reduceEqDiff]
      exact rfl
    rw [iteF hc129] at hF89
    simp only [run_skip, x35_2, run_seq, run_draw, f121, d4_fa, put1d_some, Nat.reduceAdd, Nat.zero_add, Nat.add_zero, xfa_ref, d4_ld, B0, reduceIte, reduceEqDiff]
    refine put1d_eq (v := lst cI v_0.InStep) rfl ?_
    obtain ⟨v133, hx134, hF135⟩ := bind_some' hF89
    simp only [f122, d4_mv, put1d_some, run_d3_call, B0, reduceIte, reduceEqDiff]
    refine call1d rfl (mapM1 snap_lst (mapM1 snap_int mapM0)) (spec_l1Has_x (fun b hb => decide_eq_true hb) v_0.InStep (i57 : Int) v133 hx134) ?_
    simp only [d4_mv, put1d_some, B0, reduceIte, reduceEqDiff]
    simp only [run_guardd (g := 77), B0, reduceIte, reduceEqDiff]
    refine guardd_split (t := v133) (fun hg136 => ?_) (fun hg136 => ?_)
    · rw [iteT hg136] at hF135
      simp only [hg136, run_guardd (g := 77), guardd_true, f123, d4_fa, put1d_some, Nat.reduceAdd, Nat.zero_add, Nat.add_zero, xfa_ref, d4_ld, B0, reduceIte, reduceEqDiff]
      refine put1d_eq (v := lst Row.cells x58.Log) rfl ?_
      simp only [hg136, run_guardd (g := 77), guardd_true, f121, d4_fa, put1d_some, Nat.reduceAdd, Nat.zero_add, Nat.add_zero, xfa_ref, d4_ld, B0, reduceIte, reduceEqDiff]
      refine put1d_eq (v := lst Replica.cells v_0.Replicas) rfl ?_
      simp only [hg136, run_guardd (g := 77), guardd_true, f121, d4_fa, put1d_some, Nat.reduceAdd, Nat.zero_add, Nat.add_zero, xfa_ref, d4_ld, B0, reduceIte, reduceEqDiff]
      refine put1d_eq (v := .int .i64 v_0.Leader) rfl ?_
      obtain ⟨x137, hx138, hF139⟩ := bind_some' hF135
      simp only [hg136, run_guardd (g := 77), guardd_true, d4_ia, B0, reduceIte, reduceEqDiff]
      refine put1d_eq (v := .ref (Replica.cells x137) 0) (xia_lst hx138 rfl) ?_
      simp only [hg136, run_guardd (g := 77), guardd_true, d4_fa, put1d_some, Nat.reduceAdd, Nat.zero_add, Nat.add_zero, xfa_ref, d4_ld, B0, reduceIte, reduceEqDiff]
      refine put1d_eq (v := lst Row.cells x137.Log) rfl ?_
      obtain ⟨v140, hx141, hF142⟩ := bind_some' hF139
      simp only [hg136, run_guardd (g := 77), guardd_true, run_d2_call, B0, reduceIte, reduceEqDiff]
      refine call1q rfl (mapM1 snap_lst (mapM1 snap_lst mapM0)) (spec_l11Same_x (fun b hb => decide_eq_true hb) k x58.Log x137.Log v140 hx141) ?_
      simp only [hg136, run_guardd (g := 77), guardd_true, f121, d1_fa, put1d_some, Nat.reduceAdd, Nat.zero_add, Nat.add_zero, xfa_ref, d1_ld, ldd_ref, B0, reduceIte, reduceEqDiff]
      refine put1d_eq (v := .int .i64 v_0.High) rfl ?_
      simp only [hg136, run_guardd (g := 77), guardd_true, d4_bin, put1d_some, xlss, d4_pick, xpick_t, run_draw_nil, run_cond, B0, reduceIte, reduceEqDiff]
      refine cond_split (t := (decide (v140 < v_0.High))) (fun hc143 => ?_) (fun hc143 => ?_)
      · rw [iteT hc143] at hF142
        simp only [run_seq, run_reg, run_mv, run_ops_nil, run_ret, B0, reduceIte, reduceEqDiff]
        have e144 := some_inj hF142
        subst e144
        have ho145 := hr64 _ rfl
        have hk146 := hk62
        rw [ho145] at hk146
        dsimp only [jnO] at hk146
        apply hR68
        have he := some_inj hk146
        subst he
        simp only [end_ret1, B0, reduceIte, reduceEqDiff]
        exact rfl
      rw [iteF hc143] at hF142
      simp only [run_skip, x35_1, run_seq, run_draw, f123, d4_fa, put1d_some, Nat.reduceAdd, Nat.zero_add, Nat.add_zero, xfa_ref, d4_ld, B0, reduceIte, reduceEqDiff]
      refine put1d_eq (v := .int .i64 x58.Epoch) rfl ?_
      simp only [f121, d4_fa, put1d_some, Nat.reduceAdd, Nat.zero_add, Nat.add_zero, xfa_ref, d4_ld, B0, reduceIte, reduceEqDiff]
      refine put1d_eq (v := .int .i64 v_0.Epoch) rfl ?_
      simp only [d4_bin, put1d_some, xeql, d4_mv, B0, reduceIte, reduceEqDiff]
      simp only [run_guardd (g := 97), B0, reduceIte, reduceEqDiff]
      refine guardd_split (t := (decide (x58.Epoch = v_0.Epoch))) (fun hg147 => ?_) (fun hg147 => ?_)
      · rw [iteT hg147] at hF142
        simp only [hg147, run_guardd (g := 97), guardd_true, f123, d4_fa, put1d_some, Nat.reduceAdd, Nat.zero_add, Nat.add_zero, xfa_ref, d4_ld, B0, reduceIte, reduceEqDiff]
        refine put1d_eq (v := lst Row.cells x58.Log) rfl ?_
        simp only [hg147, run_guardd (g := 97), guardd_true, f121, d4_fa, put1d_some, Nat.reduceAdd, Nat.zero_add, Nat.add_zero, xfa_ref, d4_ld, B0, reduceIte, reduceEqDiff]
        refine put1d_eq (v := lst Replica.cells v_0.Replicas) rfl ?_
        simp only [hg147, run_guardd (g := 97), guardd_true, f121, d4_fa, put1d_some, Nat.reduceAdd, Nat.zero_add, Nat.add_zero, xfa_ref, d4_ld, B0, reduceIte, reduceEqDiff]
        refine put1d_eq (v := .int .i64 v_0.Leader) rfl ?_
        obtain ⟨x148, hx149, hF150⟩ := bind_some' hF142
        simp only [hg147, run_guardd (g := 97), guardd_true, d4_ia, B0, reduceIte, reduceEqDiff]
        refine put1d_eq (v := .ref (Replica.cells x148) 0) (xia_lst hx149 rfl) ?_
        simp only [hg147, run_guardd (g := 97), guardd_true, d4_fa, put1d_some, Nat.reduceAdd, Nat.zero_add, Nat.add_zero, xfa_ref, d4_ld, B0, reduceIte, reduceEqDiff]
        refine put1d_eq (v := lst Row.cells x148.Log) rfl ?_
        obtain ⟨v151, hx152, hF153⟩ := bind_some' hF150
        simp only [hg147, run_guardd (g := 97), guardd_true, run_d2_call, B0, reduceIte, reduceEqDiff]
        refine call1q rfl (mapM1 snap_lst (mapM1 snap_lst mapM0)) (spec_l11Same_x (fun b hb => decide_eq_true hb) k x58.Log x148.Log v151 hx152) ?_
        simp only [hg147, run_guardd (g := 97), guardd_true, f123, d1_fa, put1d_some, Nat.reduceAdd, Nat.zero_add, Nat.add_zero, xfa_ref, d1_ld, ldd_ref, B0, reduceIte,
            reduceEqDiff]
        refine put1d_eq (v := .int .i64 x58.Known) rfl ?_
        simp only [hg147, run_guardd (g := 97), guardd_true, d4_bin, put1d_some, xlss, d4_pick, xpick_t, run_draw_nil, run_cond, B0, reduceIte, reduceEqDiff]
        refine cond_split (t := (decide (v151 < x58.Known))) (fun hc154 => ?_) (fun hc154 => ?_)
        · rw [iteT hc154] at hF153
          simp only [run_seq, run_reg, run_mv, run_ops_nil, run_ret, B0, reduceIte, reduceEqDiff]
          have e155 := some_inj hF153
          subst e155
          have ho156 := hr64 _ rfl
          have hk157 := hk62
          rw [ho156] at hk157
          dsimp only [jnO] at hk157
          apply hR68
          have he := some_inj hk157
          subst he
          simp only [end_ret1, B0, reduceIte, reduceEqDiff]
          exact rfl
        rw [iteF hc154] at hF153
        simp only [run_skip, run_nil, B0, reduceIte, reduceEqDiff]
        have e158 := some_inj hF153
        exact hN66 _ _ _ e158.symm ⟨f121, f124, hS128⟩ (f126) (f125)
      rw [iteF hg147] at hF142
      simp only [hg147, run_guardd (g := 97), guardd_off, d4_pick, put1d_some, xpick_f, run_draw_nil, run_cond, cond_false, run_skip, run_nil, B0, reduceIte, reduceEqDiff]
      have e159 := some_inj hF142
      exact hN66 _ _ _ e159.symm ⟨f121, f124, hS128⟩ (f126) (f125)
    rw [iteF hg136] at hF135
    simp only [hg136, run_guardd (g := 77), guardd_off, d4_pick, put1d_some, xpick_f, run_draw_nil, run_cond, cond_false, run_skip, x35_1, run_seq, run_draw, f123, d4_fa,
        Nat.reduceAdd, Nat.zero_add, Nat.add_zero, xfa_ref, d4_ld, B0, reduceIte, reduceEqDiff]
    refine put1d_eq (v := .int .i64 x58.Epoch) rfl ?_
    simp only [f121, d4_fa, put1d_some, Nat.reduceAdd, Nat.zero_add, Nat.add_zero, xfa_ref, d4_ld, B0, reduceIte, reduceEqDiff]
    refine put1d_eq (v := .int .i64 v_0.Epoch) rfl ?_
    simp only [d4_bin, put1d_some, xeql, d4_mv, B0, reduceIte, reduceEqDiff]
    simp only [run_guardd (g := 97), B0, reduceIte, reduceEqDiff]
    refine guardd_split (t := (decide (x58.Epoch = v_0.Epoch))) (fun hg160 => ?_) (fun hg160 => ?_)
    · rw [iteT hg160] at hF135
      simp only [hg160, run_guardd (g := 97), guardd_true, f123, d4_fa, put1d_some, Nat.reduceAdd, Nat.zero_add, Nat.add_zero, xfa_ref, d4_ld, B0, reduceIte, reduceEqDiff]
      refine put1d_eq (v := lst Row.cells x58.Log) rfl ?_
      simp only [hg160, run_guardd (g := 97), guardd_true, f121, d4_fa, put1d_some, Nat.reduceAdd, Nat.zero_add, Nat.add_zero, xfa_ref, d4_ld, B0, reduceIte, reduceEqDiff]
      refine put1d_eq (v := lst Replica.cells v_0.Replicas) rfl ?_
      simp only [hg160, run_guardd (g := 97), guardd_true, f121, d4_fa, put1d_some, Nat.reduceAdd, Nat.zero_add, Nat.add_zero, xfa_ref, d4_ld, B0, reduceIte, reduceEqDiff]
      refine put1d_eq (v := .int .i64 v_0.Leader) rfl ?_
      obtain ⟨x161, hx162, hF163⟩ := bind_some' hF135
      simp only [hg160, run_guardd (g := 97), guardd_true, d4_ia, B0, reduceIte, reduceEqDiff]
      refine put1d_eq (v := .ref (Replica.cells x161) 0) (xia_lst hx162 rfl) ?_
      simp only [hg160, run_guardd (g := 97), guardd_true, d4_fa, put1d_some, Nat.reduceAdd, Nat.zero_add, Nat.add_zero, xfa_ref, d4_ld, B0, reduceIte, reduceEqDiff]
      refine put1d_eq (v := lst Row.cells x161.Log) rfl ?_
      obtain ⟨v164, hx165, hF166⟩ := bind_some' hF163
      simp only [hg160, run_guardd (g := 97), guardd_true, run_d2_call, B0, reduceIte, reduceEqDiff]
      refine call1q rfl (mapM1 snap_lst (mapM1 snap_lst mapM0)) (spec_l11Same_x (fun b hb => decide_eq_true hb) k x58.Log x161.Log v164 hx165) ?_
      simp only [hg160, run_guardd (g := 97), guardd_true, f123, d1_fa, put1d_some, Nat.reduceAdd, Nat.zero_add, Nat.add_zero, xfa_ref, d1_ld, ldd_ref, B0, reduceIte, reduceEqDiff]
      refine put1d_eq (v := .int .i64 x58.Known) rfl ?_
      simp only [hg160, run_guardd (g := 97), guardd_true, d4_bin, put1d_some, xlss, d4_pick, xpick_t, run_draw_nil, run_cond, B0, reduceIte, reduceEqDiff]
      refine cond_split (t := (decide (v164 < x58.Known))) (fun hc167 => ?_) (fun hc167 => ?_)
      · rw [iteT hc167] at hF166
        simp only [run_seq, run_reg, run_mv, run_ops_nil, run_ret, B0, reduceIte, reduceEqDiff]
        have e168 := some_inj hF166
        subst e168
        have ho169 := hr64 _ rfl
        have hk170 := hk62
        rw [ho169] at hk170
        dsimp only [jnO] at hk170
        apply hR68
        have he := some_inj hk170
        subst he
        simp only [end_ret1, B0, reduceIte, reduceEqDiff]
        exact rfl
      rw [iteF hc167] at hF166
      simp only [run_skip, run_nil, B0, reduceIte, reduceEqDiff]
      have e171 := some_inj hF166
      exact hN66 _ _ _ e171.symm ⟨f121, f124, hS128⟩ (f126) (f125)
    rw [iteF hg160] at hF135
    simp only [hg160, run_guardd (g := 97), guardd_off, d4_pick, put1d_some, xpick_f, run_draw_nil, run_cond, cond_false, run_skip, run_nil, B0, reduceIte, reduceEqDiff]
    have e172 := some_inj hF135
    exact hN66 _ _ _ e172.symm ⟨f121, f124, hS128⟩ (f126) (f125)
  rintro _ fr174 h175 rfl ⟨f177, f178, hS176⟩
  dsimp only [jnO] at hk62
  unfold spec_GoodGroup_j1 at hk62
  simp only [run_seq, run_reg, run_mv, run_ops_nil, run_ret, B0, reduceIte, reduceEqDiff]
  have he := some_inj hk62
  subst he
  simp only [end_ret1, B0, reduceIte, reduceEqDiff]
  exact rfl
end Go.Proofs.Ytefgfcalgjmhjaa.X
