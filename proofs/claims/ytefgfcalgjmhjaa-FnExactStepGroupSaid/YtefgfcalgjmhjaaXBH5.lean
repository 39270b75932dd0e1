/- The functions' code comes to what the plain functions say (5). -/
import Derived.Test.YtefgfcalgjmhjaaXBH4
set_option linter.unusedVariables false
set_option linter.unusedSimpArgs false
set_option maxRecDepth 100000
namespace Go.Proofs.Ytefgfcalgjmhjaa.X
open Go
open Nat (reduceEqDiff)
theorem spec_StepGroup_x {W : Nat → Bool} {h : Heap} (hW : ∀ b,
    (geL h.length) b → W b = true) (k : Nat) (g_0 : Group) (x_1 : IsrStep) (r : Group × Bool) (hF : spec_StepGroup k g_0 x_1 = some r) : Ret E W 34 [.agg [.int .i64 g_0.Epoch,
    .int .i64 g_0.Leader, lst cI g_0.InStep, .int .i64 g_0.High, lst Replica.cells g_0.Replicas], .agg [.int .i64 x_1.Kind, .int .i64 x_1.K,
    .int .i64 x_1.N]] h (fun v h' => ∃ rv0_2 rc0_2 rv0_4 rc0_4, v = .tup [.agg [.int .i64 r.1.Epoch, .int .i64 r.1.Leader, rv0_2, .int .i64 r.1.High, rv0_4],
    .bool r.2] ∧ SlF cI 1 3 rv0_2 r.1.InStep rc0_2 ∧ SlN Replica.R 3 51 rv0_4 r.1.Replicas rc0_4 ∧ Sep h' (geL h.length) (rc0_2 ++ (rc0_4 ++ ([])))) := by
  refine Ret.of (fn := x34) rfl (Run.of ?_)
  unfold spec_StepGroup at hF
  have zf0 : argFr [.agg [.int .i64 g_0.Epoch, .int .i64 g_0.Leader, lst cI g_0.InStep, .int .i64 g_0.High, lst Replica.cells g_0.Replicas], .agg [.int .i64 x_1.Kind,
      .int .i64 x_1.K, .int .i64 x_1.N]] 0 = .agg [.int .i64 g_0.Epoch, .int .i64 g_0.Leader, lst cI g_0.InStep, .int .i64 g_0.High, lst Replica.cells g_0.Replicas] := rfl
  have zf1 : argFr [.agg [.int .i64 g_0.Epoch, .int .i64 g_0.Leader, lst cI g_0.InStep, .int .i64 g_0.High, lst Replica.cells g_0.Replicas], .agg [.int .i64 x_1.Kind,
      .int .i64 x_1.K, .int .i64 x_1.N]] 1 = .agg [.int .i64 x_1.Kind, .int .i64 x_1.K, .int .i64 x_1.N] := rfl
  generalize argFr [.agg [.int .i64 g_0.Epoch, .int .i64 g_0.Leader, lst cI g_0.InStep, .int .i64 g_0.High, lst Replica.cells g_0.Replicas], .agg [.int .i64 x_1.Kind,
      .int .i64 x_1.K, .int .i64 x_1.N]] = fr0 at zf0 zf1 ⊢
  have hS : Sep h (geL h.length) [] := Sep.nil h
  simp only [x34, run_seq, run_reg, run_box, zf0, B0, reduceIte, reduceEqDiff]
  refine put2_boxC (cs := [.int .i64 g_0.Epoch, .int .i64 g_0.Leader, lst cI g_0.InStep, .int .i64 g_0.High, lst Replica.cells g_0.Replicas]) hS rfl rfl rfl (fun b1 h2 hS3 => ?_)
  simp only [run_box, zf1, B0, reduceIte, reduceEqDiff]
  refine put2_boxC (cs := [.int .i64 x_1.Kind, .int .i64 x_1.K, .int .i64 x_1.N]) hS3 rfl rfl rfl (fun b5 h6 hS7 => ?_)
  simp only [run_new, B0, reduceIte, reduceEqDiff]
  refine put2_newC hS7 (fun b9 h10 hS11 => ?_)
  simp only [run_mv, run_ops_nil, B0, reduceIte, reduceEqDiff]
  refine frz_stepC (Sep.m2 hS11) hW (by simp only [B0, reduceIte, reduceEqDiff]) (fun h13 hS14 => ?_)
  refine frz_stepC (Sep.m1 hS14) hW (by simp only [B0, reduceIte, reduceEqDiff]) (fun h15 hS16 => ?_)
  simp only [run_frz_nil, x34_6, run_seq, run_reg, run_ld, B0, reduceIte, reduceEqDiff]
  refine put1_eq (v := .agg [.int .i64 g_0.Epoch, .int .i64 g_0.Leader, lst cI g_0.InStep, .int .i64 g_0.High, lst Replica.cells g_0.Replicas]) rfl ?_
  obtain ⟨v17, hx18, hF19⟩ := bind_some' hF
  simp only [run_call, B0, reduceIte, reduceEqDiff]
  refine call1 rfl (mapM1 (snap_agg (mapM1 snap_int (mapM1 snap_int (mapM1 snap_lst (mapM1 snap_int (mapM1 snap_lst mapM0)))))) mapM0) (spec_GoodGroup_x
      (fun b hb => decide_eq_true hb) k g_0 v17 hx18) ?_
  simp only [run_un, put1_some, xnot, run_ops_nil, x34_1, run_cond, B0, reduceIte, reduceEqDiff]
  refine cond_split (t := (!v17)) (fun hc20 => ?_) (fun hc20 => ?_)
  · rw [iteT hc20] at hF19
    simp only [run_seq, run_reg, run_build, evp, B0, reduceIte, reduceEqDiff]
    refine put1_eq (v := .agg [.int .i64 0, .int .i64 0, .nil, .int .i64 0, .nil]) rfl ?_
    simp only [run_st, B0, reduceIte, reduceEqDiff]
    refine put2_stCx (us := [.int .i64 0, .int .i64 0, .nil, .int .i64 0, .nil]) rfl (cs' := [.int .i64 0, .int .i64 0, .nil, .int .i64 0,
        .nil]) hS16 hW rfl rfl (Nat.le_of_ble_eq_true rfl) rfl (fun h21 hS22 => ?_)
    simp only [run_mv, run_ops_nil, run_ret, B0, reduceIte, reduceEqDiff]
    have he := some_inj hF19
    subst he
    refine end_ret_m (mapM1 (res_cell (bb := b9) (oo := 0) (v := .agg [.int .i64 0, .int .i64 0, .nil, .int .i64 0,
        .nil]) (rfl) ((xld_bs (Sep.bk _ _ _ hS22)).trans rfl)) (mapM1 (res_t (v := .bool false) (rfl)) mapM0)) ?_
    exact ⟨.nil, [], .nil, [], by first | trivial | rfl, SlF.nil, SlN.nil, ((Sep.dc (hS22)) : Sep _ (geL h.length) ([]))⟩
  rw [iteF hc20] at hF19
  simp only [run_skip, x34_5, run_seq, run_draw, d1_new, B0, reduceIte, reduceEqDiff]
  refine put2d_newC hS16 (fun b23 h24 hS25 => ?_)
  simp only [d4_ld, B0, reduceIte, reduceEqDiff]
  refine put1d_eq (v := .agg [.int .i64 g_0.Epoch, .int .i64 g_0.Leader, lst cI g_0.InStep, .int .i64 g_0.High, lst Replica.cells g_0.Replicas]) rfl ?_
  obtain ⟨v27, hx28, hF29⟩ := bind_some' hF19
  simp only [run_d2_call, B0, reduceIte, reduceEqDiff]
  refine call2q rfl hS25 (mapM1 (snap_agg (mapM1 snap_int (mapM1 snap_int (mapM1 snap_lst (mapM1 snap_int (mapM1 snap_lst mapM0)))))) mapM0) (spec_l11Own_x
      (fun b hb => decide_eq_true hb) g_0 v27 hx28) ?_
  rintro _ h38 ⟨v30, c31, v34, c35, rfl, hv32, hv36, hS39⟩
  refine ⟨_, free_a (all_c rfl (all_c rfl (all_c (SlF.free1 hv32) (all_c rfl (all_c (SlN.free1 hv36) all_n))))), hS39,
      (pf_app (SlF.pf hv32 (fun _ => rfl)) (pf_app (SlN.pf hv36 Replica.RO) pf_nil)), fun h40 hS41 => ?_⟩
  have hS42 : Sep h40 (geL h.length) (c31 ++ (c35 ++ ([Blk1 b23 [.int .i64 0, .int .i64 0, .nil, .int .i64 0, .nil] 29] ++ ([Blk1 b9 [.int .i64 0, .int .i64 0, .nil, .int .i64 0,
      .nil] 29] ++ ([]))))) := by simpa only [List.append_assoc, List.nil_append] using hS41
  simp only [d1_ld, ldd_ref, B0, reduceIte, reduceEqDiff]
  refine put1d_eq (v := .agg [.int .i64 x_1.Kind, .int .i64 x_1.K, .int .i64 x_1.N]) rfl ?_
  obtain ⟨v43, hx44, hF45⟩ := bind_some' hF29
  simp only [run_d3_call, B0, reduceIte, reduceEqDiff]
  refine call0d rfl (spec_l11Step_x hW k v27 v30 c31 hv32 v34 c35 hv36 x_1 v43 hx44 (Sep.m1 (Sep.m1 hS42))) ?_
  rintro _ h52 ⟨v46, c47, c50, rfl, hv48, hv51, hS53⟩
  simp only [d4_mv, put1d_some, d4_ext, xext_0, d1_ext, xext_1, d3_st, B0, reduceIte, reduceEqDiff]
  refine put2d_stCx (us := [.int .i64 v43.1.Epoch, .int .i64 v43.1.Leader, v46, .int .i64 v43.1.High, v34]) rfl (cs' := [.int .i64 v43.1.Epoch, .int .i64 v43.1.Leader, v46,
      .int .i64 v43.1.High, v34]) (Sep.m2 hS53) hW rfl (all_c rfl (all_c rfl (all_c (SlF.one hv48) (all_c rfl (all_c (SlN.one hv51) all_n))))) (Nat.le_of_ble_eq_true rfl) rfl
      (fun h54 hS55 => ?_)
  simp only [d4_mv, put1d_some, run_draw_nil, B0, reduceIte, reduceEqDiff]
  refine frz_stepC hS55 hW (by simp only [B0, reduceIte, reduceEqDiff]) (fun h56 hS57 => ?_)
  simp only [run_frz_nil, x34_4, run_seq, run_reg, run_mv, run_un, put1_some, xnot, run_ops_nil, x34_2, run_cond, B0, reduceIte, reduceEqDiff]
  refine cond_split (t := (!v43.2)) (fun hc58 => ?_) (fun hc58 => ?_)
  · rw [iteT hc58] at hF45
    simp only [run_seq, run_reg, run_build, evp, B0, reduceIte, reduceEqDiff]
    refine put1_eq (v := .agg [.int .i64 0, .int .i64 0, .nil, .int .i64 0, .nil]) rfl ?_
    simp only [run_st, B0, reduceIte, reduceEqDiff]
    refine put2_stCx (us := [.int .i64 0, .int .i64 0, .nil, .int .i64 0, .nil]) rfl (cs' := [.int .i64 0, .int .i64 0, .nil, .int .i64 0,
        .nil]) (Sep.m2 hS57) hW rfl rfl (Nat.le_of_ble_eq_true rfl) rfl (fun h59 hS60 => ?_)
    simp only [run_mv, run_ops_nil, run_ret, B0, reduceIte, reduceEqDiff]
    have he := some_inj hF45
    subst he
    refine end_ret_m (mapM1 (res_cell (bb := b9) (oo := 0) (v := .agg [.int .i64 0, .int .i64 0, .nil, .int .i64 0,
        .nil]) (rfl) ((xld_bs (Sep.bk _ _ _ hS60)).trans rfl)) (mapM1 (res_t (v := .bool false) (rfl)) mapM0)) ?_
    exact ⟨.nil, [], .nil, [], by first | trivial | rfl, SlF.nil, SlN.nil, ((Sep.dc ((Sep.dc ((Sep.dc (hS60)))))) : Sep _ (geL h.length) ([]))⟩
  rw [iteF hc58] at hF45
  simp only [run_skip, x34_3, run_seq, run_reg, run_ld, B0, reduceIte, reduceEqDiff]
  refine put1_eq (v := .agg [.int .i64 v43.1.Epoch, .int .i64 v43.1.Leader, v46, .int .i64 v43.1.High, v34]) rfl ?_
  obtain ⟨v61, hx62, hF63⟩ := bind_some' hF45
  simp only [run_call, B0, reduceIte, reduceEqDiff]
  refine call2 rfl hS57 (mapM1 (snap_agg (mapM1 snap_int (mapM1 snap_int (mapM1 (SlF.snap hv48 hS57 rfl (fun _ => rfl) (fun _ => rfl)) (mapM1 snap_int (mapM1 (SlN.snap hv51 _
      (Sep.m1 hS57) rfl Replica.RO) mapM0)))))) mapM0) (spec_l11Own_x (fun b hb => decide_eq_true hb) v43.1 v61 hx62) ?_
  rintro _ h72 ⟨v64, c65, v68, c69, rfl, hv66, hv70, hS73⟩
  refine ⟨_, free_a (all_c rfl (all_c rfl (all_c (SlF.free1 hv66) (all_c rfl (all_c (SlN.free1 hv70) all_n))))), hS73,
      (pf_app (SlF.pf hv66 (fun _ => rfl)) (pf_app (SlN.pf hv70 Replica.RO) pf_nil)), fun h74 hS75 => ?_⟩
  have hS76 : Sep h74 (geL h.length) (c65 ++ (c69 ++ (c47 ++ (c50 ++ ([Blk1 b9 [.int .i64 0, .int .i64 0, .nil, .int .i64 0,
      .nil] 29] ++ ([])))))) := by simpa only [List.append_assoc, List.nil_append] using hS75
  simp only [run_st, B0, reduceIte, reduceEqDiff]
  refine put2_stCx (us := [.int .i64 v61.Epoch, .int .i64 v61.Leader, v64, .int .i64 v61.High, v68]) rfl (cs' := [.int .i64 v61.Epoch, .int .i64 v61.Leader, v64,
      .int .i64 v61.High, v68]) (Sep.m4 hS76) hW rfl (all_c rfl (all_c rfl (all_c (SlF.one hv66) (all_c rfl (all_c (SlN.one hv70) all_n))))) (Nat.le_of_ble_eq_true rfl) rfl
      (fun h77 hS78 => ?_)
  simp only [run_mv, run_ops_nil, run_ret, B0, reduceIte, reduceEqDiff]
  have he := some_inj hF63
  subst he
  refine end_ret_m (mapM1 (res_cell (bb := b9) (oo := 0) (v := .agg [.int .i64 v61.Epoch, .int .i64 v61.Leader, v64, .int .i64 v61.High,
      v68]) (rfl) ((xld_bs (Sep.bk _ _ _ hS78)).trans rfl)) (mapM1 (res_t (v := .bool true) (rfl)) mapM0)) ?_
  exact ⟨v64, c65, v68, c69, by first | trivial | rfl, hv66, hv70, (Sep.m1 (Sep.m1 (Sep.dc (Sep.m2 (Sep.dc (Sep.m2 (Sep.dc (hS78))))))))⟩
theorem laws_toIsrStep_x {W : Nat → Bool} {h : Heap} (hW : ∀ b,
    (geL h.length) b → W b = true) (a_0 : IsrStep) (r : IsrStep) (hF : some (laws_toIsrStep a_0) = some r) : Ret E W 43 [.agg [.int .i64 a_0.Kind, .int .i64 a_0.K,
    .int .i64 a_0.N]] h (fun v h' => cut h.length h' E.sz false 9 v = some (.agg [.int .i64 r.Kind, .int .i64 r.K, .int .i64 r.N])) := by
  refine Ret.of (fn := x43) rfl (Run.of ?_)
  unfold laws_toIsrStep at hF
  have zf0 : argFr [.agg [.int .i64 a_0.Kind, .int .i64 a_0.K, .int .i64 a_0.N]] 0 = .agg [.int .i64 a_0.Kind, .int .i64 a_0.K, .int .i64 a_0.N] := rfl
  generalize argFr [.agg [.int .i64 a_0.Kind, .int .i64 a_0.K, .int .i64 a_0.N]] = fr0 at zf0 ⊢
  have hS : Sep h (geL h.length) [] := Sep.nil h
  simp only [x43, run_seq, run_reg, run_box, zf0, B0, reduceIte, reduceEqDiff]
  refine put2_boxC (cs := [.int .i64 a_0.Kind, .int .i64 a_0.K, .int .i64 a_0.N]) hS rfl rfl rfl (fun b1 h2 hS3 => ?_)
  simp only [run_new, B0, reduceIte, reduceEqDiff]
  refine put2_newC hS3 (fun b5 h6 hS7 => ?_)
  simp only [run_ops_nil, B0, reduceIte, reduceEqDiff]
  refine frz_stepC (Sep.m1 hS7) hW (by simp only [B0, reduceIte, reduceEqDiff]) (fun h9 hS10 => ?_)
  simp only [run_frz_nil, x43_4, run_seq, run_reg, run_new, B0, reduceIte, reduceEqDiff]
  refine put2_newC hS10 (fun b11 h12 hS13 => ?_)
  simp only [run_ops_nil, x43_3, run_seq, run_reg, run_fa, put1_some, Nat.reduceAdd, Nat.zero_add, Nat.add_zero, xfa_ref, run_ld, B0, reduceIte, reduceEqDiff]
  refine put1_eq (v := .int .i64 a_0.Kind) rfl ?_
  simp only [run_fa, put1_some, Nat.reduceAdd, Nat.zero_add, Nat.add_zero, xfa_ptr, run_st, B0, reduceIte, reduceEqDiff]
  refine put2_stCx (us := [.int .i64 a_0.Kind]) rfl (cs' := [.int .i64 a_0.Kind, .int .i64 0, .int .i64 0]) hS13 hW rfl rfl (Nat.le_of_ble_eq_true rfl) rfl (fun h15 hS16 => ?_)
  simp only [run_ops_nil, x43_2, run_seq, run_reg, run_fa, put1_some, Nat.reduceAdd, Nat.zero_add, Nat.add_zero, xfa_ref, run_ld, B0, reduceIte, reduceEqDiff]
  refine put1_eq (v := .int .i64 a_0.K) rfl ?_
  simp only [run_fa, put1_some, Nat.reduceAdd, Nat.zero_add, Nat.add_zero, xfa_ptr, run_st, B0, reduceIte, reduceEqDiff]
  refine put2_stCx (us := [.int .i64 a_0.K]) rfl (cs' := [.int .i64 a_0.Kind, .int .i64 a_0.K, .int .i64 0]) hS16 hW rfl rfl (Nat.le_of_ble_eq_true rfl) rfl (fun h17 hS18 => ?_)
  simp only [run_ops_nil, x43_1, run_seq, run_reg, run_fa, put1_some, Nat.reduceAdd, Nat.zero_add, Nat.add_zero, xfa_ref, run_ld, B0, reduceIte, reduceEqDiff]
  refine put1_eq (v := .int .i64 a_0.N) rfl ?_
  simp only [run_fa, put1_some, Nat.reduceAdd, Nat.zero_add, Nat.add_zero, xfa_ptr, run_st, B0, reduceIte, reduceEqDiff]
  refine put2_stCx (us := [.int .i64 a_0.N]) rfl (cs' := [.int .i64 a_0.Kind, .int .i64 a_0.K,
      .int .i64 a_0.N]) hS18 hW rfl rfl (Nat.le_of_ble_eq_true rfl) rfl (fun h19 hS20 => ?_)
  simp only [run_ops_nil, run_seq, run_reg, run_ld, B0, reduceIte, reduceEqDiff]
  refine put1_eq (v := .agg [.int .i64 a_0.Kind, .int .i64 a_0.K, .int .i64 a_0.N]) ((xld_bs (Sep.bk _ _ _ hS20)).trans rfl) ?_
  simp only [run_st, B0, reduceIte, reduceEqDiff]
  refine put2_stCx (us := [.int .i64 a_0.Kind, .int .i64 a_0.K, .int .i64 a_0.N]) rfl (cs' := [.int .i64 a_0.Kind, .int .i64 a_0.K,
      .int .i64 a_0.N]) (Sep.m1 hS20) hW rfl rfl (Nat.le_of_ble_eq_true rfl) rfl (fun h21 hS22 => ?_)
  simp only [run_ops_nil, run_ret, B0, reduceIte, reduceEqDiff]
  have he := some_inj hF
  subst he
  refine end_ret_cell (bb := b5) (oo := 0) (v := .agg [.int .i64 a_0.Kind, .int .i64 a_0.K, .int .i64 a_0.N]) (by simp only [B0, reduceIte,
      reduceEqDiff]) ((xld_bs (Sep.bk _ _ _ hS22)).trans rfl) ?_
  exact (cut_agg (mapM1 rfl (mapM1 rfl (mapM1 rfl mapM0))))
theorem laws_FnExactStepGroup_x {W : Nat → Bool} {h : Heap} (hW : ∀ b,
    (geL h.length) b → W b = true) (k : Nat) (v_0 : Group) (v_1 : IsrStep) (r : Bool) (hF : laws_FnExactStepGroup k v_0 v_1 = some r) : Ret E W 7 [.agg [.int .i64 v_0.Epoch,
    .int .i64 v_0.Leader, lst cI v_0.InStep, .int .i64 v_0.High, lst Replica.cells v_0.Replicas], .agg [.int .i64 v_1.Kind, .int .i64 v_1.K,
    .int .i64 v_1.N]] h (fun v h' => cut h.length h' E.sz false 9 v = some (.bool r)) := by
  refine Ret.of (fn := x7) rfl (Run.of ?_)
  unfold laws_FnExactStepGroup at hF
  have zf0 : argFr [.agg [.int .i64 v_0.Epoch, .int .i64 v_0.Leader, lst cI v_0.InStep, .int .i64 v_0.High, lst Replica.cells v_0.Replicas], .agg [.int .i64 v_1.Kind,
      .int .i64 v_1.K, .int .i64 v_1.N]] 0 = .agg [.int .i64 v_0.Epoch, .int .i64 v_0.Leader, lst cI v_0.InStep, .int .i64 v_0.High, lst Replica.cells v_0.Replicas] := rfl
  have zf1 : argFr [.agg [.int .i64 v_0.Epoch, .int .i64 v_0.Leader, lst cI v_0.InStep, .int .i64 v_0.High, lst Replica.cells v_0.Replicas], .agg [.int .i64 v_1.Kind,
      .int .i64 v_1.K, .int .i64 v_1.N]] 1 = .agg [.int .i64 v_1.Kind, .int .i64 v_1.K, .int .i64 v_1.N] := rfl
  generalize argFr [.agg [.int .i64 v_0.Epoch, .int .i64 v_0.Leader, lst cI v_0.InStep, .int .i64 v_0.High, lst Replica.cells v_0.Replicas], .agg [.int .i64 v_1.Kind,
      .int .i64 v_1.K, .int .i64 v_1.N]] = fr0 at zf0 zf1 ⊢
  have hS : Sep h (geL h.length) [] := Sep.nil h
  simp only [x7, run_seq, run_reg, run_box, zf0, B0, reduceIte, reduceEqDiff]
  refine put2_boxC (cs := [.int .i64 v_0.Epoch, .int .i64 v_0.Leader, lst cI v_0.InStep, .int .i64 v_0.High, lst Replica.cells v_0.Replicas]) hS rfl rfl rfl (fun b1 h2 hS3 => ?_)
  simp only [run_box, zf1, B0, reduceIte, reduceEqDiff]
  refine put2_boxC (cs := [.int .i64 v_1.Kind, .int .i64 v_1.K, .int .i64 v_1.N]) hS3 rfl rfl rfl (fun b5 h6 hS7 => ?_)
  simp only [run_mv, run_ops_nil, B0, reduceIte, reduceEqDiff]
  refine frz_stepC (Sep.m1 hS7) hW (by simp only [B0, reduceIte, reduceEqDiff]) (fun h9 hS10 => ?_)
  refine frz_stepC hS10 hW (by simp only [B0, reduceIte, reduceEqDiff]) (fun h11 hS12 => ?_)
  simp only [run_frz_nil, x7_23, run_seq, run_reg, run_mv, run_ops_nil, x7_22, run_ld, B0, reduceIte, reduceEqDiff]
  refine put1_eq (v := .agg [.int .i64 v_0.Epoch, .int .i64 v_0.Leader, lst cI v_0.InStep, .int .i64 v_0.High, lst Replica.cells v_0.Replicas]) rfl ?_
  obtain ⟨v13, hx14, hF15⟩ := bind_some' hF
  simp only [run_mv, run_call, B0, reduceIte, reduceEqDiff]
  refine call1 rfl (mapM1 (snap_agg (mapM1 snap_int (mapM1 snap_int (mapM1 snap_lst (mapM1 snap_int (mapM1 snap_lst mapM0)))))) (mapM1 snap_int mapM0)) (laws_szGroup_x
      (fun b hb => decide_eq_true hb) k v_0 1048576 v13 hx14) ?_
  simp only [run_mv, run_ops_nil, x7_21, run_seq, run_reg, run_bin, put1_some, xlss, run_cond, B0, reduceIte, reduceEqDiff]
  refine cond_split (t := (decide (v13 < 0))) (fun hc16 => ?_) (fun hc16 => ?_)
  · rw [iteT hc16] at hF15
    simp only [run_seq, run_reg, run_mv, run_ops_nil, run_ret, B0, reduceIte, reduceEqDiff]
    have he := some_inj hF15
    subst he
    simp only [end_ret1, B0, reduceIte, reduceEqDiff]
    exact rfl
  rw [iteF hc16] at hF15
  simp only [run_skip, x7_20, run_seq, run_draw, d1_new, B0, reduceIte, reduceEqDiff]
  refine put2d_newC hS12 (fun b17 h18 hS19 => ?_)
  simp only [d4_ld, B0, reduceIte, reduceEqDiff]
  refine put1d_eq (v := .agg [.int .i64 v_0.Epoch, .int .i64 v_0.Leader, lst cI v_0.InStep, .int .i64 v_0.High, lst Replica.cells v_0.Replicas]) rfl ?_
  obtain ⟨v21, hx22, hF23⟩ := bind_some' hF15
  simp only [run_d2_call, B0, reduceIte, reduceEqDiff]
  refine call2q rfl hS19 (mapM1 (snap_agg (mapM1 snap_int (mapM1 snap_int (mapM1 snap_lst (mapM1 snap_int (mapM1 snap_lst mapM0)))))) mapM0) (laws_toGroup_x
      (fun b hb => decide_eq_true hb) k v_0 v21 hx22) ?_
  rintro _ h32 ⟨v24, c25, v28, c29, rfl, hv26, hv30, hS33⟩
  refine ⟨_, free_a (all_c rfl (all_c rfl (all_c (SlF.free1 hv26) (all_c rfl (all_c (SlN.free1 hv30) all_n))))), hS33,
      (pf_app (SlF.pf hv26 (fun _ => rfl)) (pf_app (SlN.pf hv30 Replica.RO) pf_nil)), fun h34 hS35 => ?_⟩
  have hS36 : Sep h34 (geL h.length) (c25 ++ (c29 ++ ([Blk1 b17 [.int .i64 0, .int .i64 0, .nil, .int .i64 0, .nil] 29] ++ ([])))) := by simpa only [List.append_assoc,
      List.nil_append] using hS35
  simp only [d1_ld, ldd_ref, B0, reduceIte, reduceEqDiff]
  refine put1d_eq (v := .agg [.int .i64 v_1.Kind, .int .i64 v_1.K, .int .i64 v_1.N]) rfl ?_
  simp only [run_d3_call, B0, reduceIte, reduceEqDiff]
  refine call1d rfl (mapM1 (snap_agg (mapM1 snap_int (mapM1 snap_int (mapM1 snap_int mapM0)))) mapM0) (laws_toIsrStep_x (fun b hb => decide_eq_true hb) v_1 _ rfl) ?_
  obtain ⟨v37, hx38, hF39⟩ := bind_some' hF23
  simp only [run_d3_call, B0, reduceIte, reduceEqDiff]
  refine call2d rfl hS36 (mapM1 (snap_agg (mapM1 snap_int (mapM1 snap_int (mapM1 (SlF.snap hv26 hS36 rfl (fun _ => rfl) (fun _ => rfl)) (mapM1 snap_int (mapM1 (SlN.snap hv30 _
      (Sep.m1 hS36) rfl Replica.RO) mapM0)))))) (mapM1 (snap_agg (mapM1 snap_int (mapM1 snap_int (mapM1 snap_int mapM0)))) mapM0)) (spec_StepGroup_x
      (fun b hb => decide_eq_true hb) k v21 (laws_toIsrStep v_1) v37 hx38) ?_
  rintro _ h48 ⟨v40, c41, v44, c45, rfl, hv42, hv46, hS49⟩
  refine ⟨_, free_t (all_c (free2_a (all_c rfl (all_c rfl (all_c (SlF.free1 hv42) (all_c rfl (all_c (SlN.free1 hv46) all_n)))))) (all_c rfl all_n)), hS49,
      (pf_app (SlF.pf hv42 (fun _ => rfl)) (pf_app (SlN.pf hv46 Replica.RO) pf_nil)), fun h50 hS51 => ?_⟩
  have hS52 : Sep h50 (geL h.length) (c41 ++ (c45 ++ (c25 ++ (c29 ++ ([Blk1 b17 [.int .i64 0, .int .i64 0, .nil, .int .i64 0,
      .nil] 29] ++ ([])))))) := by simpa only [List.append_assoc, List.nil_append] using hS51
  simp only [d4_mv, put1d_some, d4_ext, xext_0, d1_ext, xext_1, d3_st, B0, reduceIte, reduceEqDiff]
  refine put2d_stCx (us := [.int .i64 v37.1.Epoch, .int .i64 v37.1.Leader, v40, .int .i64 v37.1.High, v44]) rfl (cs' := [.int .i64 v37.1.Epoch, .int .i64 v37.1.Leader, v40,
      .int .i64 v37.1.High, v44]) (Sep.m4 hS52) hW rfl (all_c rfl (all_c rfl (all_c (SlF.one hv42) (all_c rfl (all_c (SlN.one hv46) all_n))))) (Nat.le_of_ble_eq_true rfl) rfl
      (fun h53 hS54 => ?_)
  simp only [d4_mv, put1d_some, run_draw_nil, B0, reduceIte, reduceEqDiff]
  refine frz_stepC hS54 hW (by simp only [B0, reduceIte, reduceEqDiff]) (fun h55 hS56 => ?_)
  simp only [run_frz_nil, x7_19, run_seq, run_reg, run_ld, B0, reduceIte, reduceEqDiff]
  refine put1_eq (v := .agg [.int .i64 v_0.Epoch, .int .i64 v_0.Leader, lst cI v_0.InStep, .int .i64 v_0.High, lst Replica.cells v_0.Replicas]) rfl ?_
  obtain ⟨v57, hx58, hF59⟩ := bind_some' hF39
  simp only [run_call, B0, reduceIte, reduceEqDiff]
  refine call2 rfl hS56 (mapM1 (snap_agg (mapM1 snap_int (mapM1 snap_int (mapM1 snap_lst (mapM1 snap_int (mapM1 snap_lst mapM0)))))) mapM0) (laws_toGroup_x
      (fun b hb => decide_eq_true hb) k v_0 v57 hx58) ?_
  rintro _ h68 ⟨v60, c61, v64, c65, rfl, hv62, hv66, hS69⟩
  refine ⟨_, free_a (all_c rfl (all_c rfl (all_c (SlF.free1 hv62) (all_c rfl (all_c (SlN.free1 hv66) all_n))))), hS69,
      (pf_app (SlF.pf hv62 (fun _ => rfl)) (pf_app (SlN.pf hv66 Replica.RO) pf_nil)), fun h70 hS71 => ?_⟩
  have hS72 : Sep h70 (geL h.length) (c61 ++ (c65 ++ (c41 ++ (c45 ++ (c25 ++ (c29 ++ ([]))))))) := by simpa only [List.append_assoc, List.nil_append] using hS71
  simp only [run_new, B0, reduceIte, reduceEqDiff]
  refine put2_newC hS72 (fun b73 h74 hS75 => ?_)
  simp only [run_st, B0, reduceIte, reduceEqDiff]
  refine put2_stCx (us := [.int .i64 v57.Epoch, .int .i64 v57.Leader, v60, .int .i64 v57.High, v64]) rfl (cs' := [.int .i64 v57.Epoch, .int .i64 v57.Leader, v60,
      .int .i64 v57.High, v64]) hS75 hW rfl (all_c rfl (all_c rfl (all_c (SlF.one hv62) (all_c rfl (all_c (SlN.one hv66) all_n))))) (Nat.le_of_ble_eq_true rfl) rfl
      (fun h77 hS78 => ?_)
  simp only [run_ops_nil, B0, reduceIte, reduceEqDiff]
  refine frz_stepC hS78 hW (by simp only [B0, reduceIte, reduceEqDiff]) (fun h79 hS80 => ?_)
  simp only [run_frz_nil, x7_18, run_seq, run_draw, d1_new, B0, reduceIte, reduceEqDiff]
  refine put2d_newC hS80 (fun b81 h82 hS83 => ?_)
  simp only [d1_ld, ldd_ref, B0, reduceIte, reduceEqDiff]
  refine put1d_eq (v := .agg [.int .i64 v57.Epoch, .int .i64 v57.Leader, v60, .int .i64 v57.High, v64]) rfl ?_
  simp only [d4_ld, B0, reduceIte, reduceEqDiff]
  refine put1d_eq (v := .agg [.int .i64 v_1.Kind, .int .i64 v_1.K, .int .i64 v_1.N]) rfl ?_
  simp only [run_d2_call, B0, reduceIte, reduceEqDiff]
  refine call1q rfl (mapM1 (snap_agg (mapM1 snap_int (mapM1 snap_int (mapM1 snap_int mapM0)))) mapM0) (laws_toIsrStep_x (fun b hb => decide_eq_true hb) v_1 _ rfl) ?_
  obtain ⟨v85, hx86, hF87⟩ := bind_some' hF59
  simp only [run_d3_call, B0, reduceIte, reduceEqDiff]
  refine call2d rfl hS83 (mapM1 (snap_agg (mapM1 snap_int (mapM1 snap_int (mapM1 (SlF.snap hv62 (Sep.m1 hS83) rfl (fun _ => rfl) (fun _ => rfl)) (mapM1 snap_int (mapM1
      (SlN.snap hv66 _ (Sep.m2 hS83) rfl Replica.RO) mapM0)))))) (mapM1 (snap_agg (mapM1 snap_int (mapM1 snap_int (mapM1 snap_int mapM0)))) mapM0)) (impl_StepGroup_x
      (fun b hb => decide_eq_true hb) k v57 (laws_toIsrStep v_1) v85 hx86) ?_
  rintro _ h96 ⟨v88, c89, v92, c93, rfl, hv90, hv94, hS97⟩
  refine ⟨_, free_t (all_c (free2_a (all_c rfl (all_c rfl (all_c (SlF.free1 hv90) (all_c rfl (all_c (SlN.free1 hv94) all_n)))))) (all_c rfl all_n)), hS97,
      (pf_app (SlF.pf hv90 (fun _ => rfl)) (pf_app (SlN.pf hv94 Replica.RO) pf_nil)), fun h98 hS99 => ?_⟩
  have hS100 : Sep h98 (geL h.length) (c89 ++ (c93 ++ ([Blk1 b81 [.int .i64 0, .int .i64 0, .nil, .int .i64 0,
      .nil] 29] ++ (c61 ++ (c65 ++ (c41 ++ (c45 ++ (c25 ++ (c29 ++ ([])))))))))) := by simpa only [List.append_assoc, List.nil_append] using hS99
  simp only [d4_mv, put1d_some, d4_ext, xext_0, d1_ext, xext_1, d3_st, B0, reduceIte, reduceEqDiff]
  refine put2d_stCx (us := [.int .i64 v85.1.Epoch, .int .i64 v85.1.Leader, v88, .int .i64 v85.1.High, v92]) rfl (cs' := [.int .i64 v85.1.Epoch, .int .i64 v85.1.Leader, v88,
      .int .i64 v85.1.High, v92]) (Sep.m2 hS100) hW rfl (all_c rfl (all_c rfl (all_c (SlF.one hv90) (all_c rfl (all_c (SlN.one hv94) all_n))))) (Nat.le_of_ble_eq_true rfl) rfl
      (fun h101 hS102 => ?_)
  simp only [d4_mv, put1d_some, run_draw_nil, B0, reduceIte, reduceEqDiff]
  refine frz_stepC hS102 hW (by simp only [B0, reduceIte, reduceEqDiff]) (fun h103 hS104 => ?_)
  simp only [run_frz_nil, x7_17, run_seq, run_reg, run_ld, B0, reduceIte, reduceEqDiff]
  refine put1_eq (v := .agg [.int .i64 v85.1.Epoch, .int .i64 v85.1.Leader, v88, .int .i64 v85.1.High, v92]) rfl ?_
  simp only [run_ld, B0, reduceIte, reduceEqDiff]
  refine put1_eq (v := .agg [.int .i64 v37.1.Epoch, .int .i64 v37.1.Leader, v40, .int .i64 v37.1.High, v44]) rfl ?_
  obtain ⟨v105, hx106, hF107⟩ := bind_some' hF87
  simp only [run_call, B0, reduceIte, reduceEqDiff]
  refine call1 rfl (mapM1 (snap_agg (mapM1 snap_int (mapM1 snap_int (mapM1 (SlF.snap hv90 hS104 rfl (fun _ => rfl) (fun _ => rfl)) (mapM1 snap_int (mapM1 (SlN.snap hv94 _
      (Sep.m1 hS104) rfl Replica.RO) mapM0)))))) (mapM1 (snap_agg (mapM1 snap_int (mapM1 snap_int (mapM1 (SlF.snap hv42 (Sep.m4 hS104) rfl (fun _ => rfl) (fun _ => rfl))
      (mapM1 snap_int (mapM1 (SlN.snap hv46 _ (Sep.m5 hS104) rfl Replica.RO) mapM0)))))) mapM0)) (laws_eqGroup_x (fun b hb => decide_eq_true hb) k v85.1 v37.1 v105 hx106) ?_
  simp only [run_un, put1_some, xnot, run_mv, B0, reduceIte, reduceEqDiff]
  refine ops_j 4 (fun fr' h' => Sep h' (geL h.length) (c41 ++ (c45 ++ (c61 ++ (c65 ++ (c89 ++ (c93 ++ ([]))))))) ∧ fr' 46 = .bool ((!v105) ||
      (!(v85.2 == v37.2))) ∧ fr' 2 = .ref [.int .i64 v_0.Epoch, .int .i64 v_0.Leader, lst cI v_0.InStep, .int .i64 v_0.High,
      lst Replica.cells v_0.Replicas] 0 ∧ fr' 3 = .ref [.int .i64 v_1.Kind, .int .i64 v_1.K, .int .i64 v_1.N] 0 ∧ fr' 6 = .ref [.int .i64 v37.1.Epoch, .int .i64 v37.1.Leader, v40,
      .int .i64 v37.1.High, v44] 0 ∧ fr' 7 = .bool v37.2 ∧ fr' 8 = .ref [.int .i64 v57.Epoch, .int .i64 v57.Leader, v60, .int .i64 v57.High,
      v64] 0 ∧ fr' 9 = .ref [.int .i64 v85.1.Epoch, .int .i64 v85.1.Leader, v88, .int .i64 v85.1.High, v92] 0 ∧ fr' 10 = .bool v85.2) (fun Q108 hN109 => ?_) ?_
  · simp only [List.take_succ_cons, List.take_zero]
    simp only [run_guard (g := 42), B0, reduceIte, reduceEqDiff]
    refine guard_split (t := (!v105)) (fun hg110 => ?_) (fun hg110 => ?_)
    · simp only [hg110, run_guard (g := 42), guard_off', run_pick, put1_some, xpick_t, run_ops_nil, run_nil, B0, reduceIte, reduceEqDiff]
      exact hN109 _ _ ⟨(Sep.m5 (Sep.m5 (Sep.m3 (Sep.m3 (Sep.m1 (Sep.m1 (Sep.dc (Sep.m6 (Sep.dc (Sep.m6 hS104)))))))))), by rw [orT hg110]; simp only [B0, reduceIte, reduceEqDiff],
          rfl, rfl, rfl, rfl, rfl, rfl, rfl⟩
    · simp only [hg110, run_guard (g := 42), guard_false, run_mv, run_eqb, put1_some, xeqb_t, run_pick, xpick_f, run_ops_nil, run_nil, B0, reduceIte, reduceEqDiff]
      exact hN109 _ _ ⟨(Sep.m5 (Sep.m5 (Sep.m3 (Sep.m3 (Sep.m1 (Sep.m1 (Sep.dc (Sep.m6 (Sep.dc (Sep.m6 hS104)))))))))), by rw [orF hg110]; simp only [B0, reduceIte, reduceEqDiff],
          rfl, rfl, rfl, rfl, rfl, rfl, rfl⟩
  rintro fr111 h120 ⟨hS121, f112, f113, f114, f115, f116, f117, f118, f119⟩
  simp only [List.drop_succ_cons, List.drop_zero]
  simp only [run_ops_nil, f112, run_cond, B0, reduceIte, reduceEqDiff]
  refine cond_split (t := ((!v105) || (!(v85.2 == v37.2)))) (fun hc122 => ?_) (fun hc122 => ?_)
  · rw [iteT hc122] at hF107
    simp only [run_seq, run_reg, run_mv, run_ops_nil, run_ret, B0, reduceIte, reduceEqDiff]
    have he := some_inj hF107
    subst he
    simp only [end_ret1, B0, reduceIte, reduceEqDiff]
    exact rfl
  rw [iteF hc122] at hF107
  simp only [run_skip, x7_16, run_seq, run_draw, f117, d1_ld, ldd_ref, B0, reduceIte, reduceEqDiff]
  refine put1d_eq (v := .agg [.int .i64 v57.Epoch, .int .i64 v57.Leader, v60, .int .i64 v57.High, v64]) rfl ?_
  simp only [f113, d4_ld, B0, reduceIte, reduceEqDiff]
  refine put1d_eq (v := .agg [.int .i64 v_0.Epoch, .int .i64 v_0.Leader, lst cI v_0.InStep, .int .i64 v_0.High, lst Replica.cells v_0.Replicas]) rfl ?_
  obtain ⟨v123, hx124, hF125⟩ := bind_some' hF107
  simp only [run_d2_call, B0, reduceIte, reduceEqDiff]
  refine call2q rfl hS121 (mapM1 (snap_agg (mapM1 snap_int (mapM1 snap_int (mapM1 snap_lst (mapM1 snap_int (mapM1 snap_lst mapM0)))))) mapM0) (laws_toGroup_x
      (fun b hb => decide_eq_true hb) k v_0 v123 hx124) ?_
  rintro _ h134 ⟨v126, c127, v130, c131, rfl, hv128, hv132, hS135⟩
  refine ⟨_, free_a (all_c rfl (all_c rfl (all_c (SlF.free1 hv128) (all_c rfl (all_c (SlN.free1 hv132) all_n))))), hS135,
      (pf_app (SlF.pf hv128 (fun _ => rfl)) (pf_app (SlN.pf hv132 Replica.RO) pf_nil)), fun h136 hS137 => ?_⟩
  have hS138 : Sep h136 (geL h.length) (c127 ++ (c131 ++ (c41 ++ (c45 ++ (c61 ++ (c65 ++ (c89 ++ (c93 ++ ([]))))))))) := by simpa only [List.append_assoc,
      List.nil_append] using hS137
  obtain ⟨v139, hx140, hF141⟩ := bind_some' hF125
  simp only [run_d3_call, B0, reduceIte, reduceEqDiff]
  refine call1d rfl (mapM1 (snap_agg (mapM1 snap_int (mapM1 snap_int (mapM1 (SlF.snap hv62 (Sep.m4 hS138) rfl (fun _ => rfl) (fun _ => rfl)) (mapM1 snap_int (mapM1
      (SlN.snap hv66 _ (Sep.m5 hS138) rfl Replica.RO) mapM0)))))) (mapM1 (snap_agg (mapM1 snap_int (mapM1 snap_int (mapM1 (SlF.snap hv128 hS138 rfl (fun _ => rfl) (fun _ => rfl))
      (mapM1 snap_int (mapM1 (SlN.snap hv132 _ (Sep.m1 hS138) rfl Replica.RO) mapM0)))))) mapM0)) (laws_eqGroup_x (fun b hb => decide_eq_true hb) k v57 v123 v139 hx140) ?_
  simp only [d4_un, put1d_some, xnot, run_draw_nil, run_cond, B0, reduceIte, reduceEqDiff]
  refine cond_split (t := (!v139)) (fun hc142 => ?_) (fun hc142 => ?_)
  · rw [iteT hc142] at hF141
    simp only [run_seq, run_reg, run_mv, run_ops_nil, run_ret, B0, reduceIte, reduceEqDiff]
    have he := some_inj hF141
    subst he
    simp only [end_ret1, B0, reduceIte, reduceEqDiff]
    exact rfl
  rw [iteF hc142] at hF141
  simp only [run_skip, x7_15, run_seq, run_reg, run_mv, run_ops_nil, x7_14, f117, run_ld, B0, reduceIte, reduceEqDiff]
  refine put1_eq (v := .agg [.int .i64 v57.Epoch, .int .i64 v57.Leader, v60, .int .i64 v57.High, v64]) rfl ?_
  obtain ⟨v143, hx144, hF145⟩ := bind_some' hF141
  simp only [run_mv, run_call, B0, reduceIte, reduceEqDiff]
  refine call0 rfl (laws_markGroup_x hW k v57 v60 c61 hv62 v64 c65 hv66 1 v143 hx144 (Sep.m5 (Sep.m5 hS138))) ?_
  rintro _ h150 ⟨c146, c148, rfl, hv147, hv149, hS151⟩
  simp only [run_mv, run_ops_nil, x7_13, run_seq, run_reg, run_bin, put1_some, xlss, B0, reduceIte, reduceEqDiff]
  obtain ⟨v155, hx156, hF157⟩ := bind_some' hF145
  refine ops_j 5 (fun fr' h' => Sep h' (geL h.length) (c41 ++ (c45 ++ (c89 ++ (c93 ++ ([]))))) ∧ fr' 62 = .bool v155 ∧ fr' 2 = .ref [.int .i64 v_0.Epoch, .int .i64 v_0.Leader,
      lst cI v_0.InStep, .int .i64 v_0.High, lst Replica.cells v_0.Replicas] 0 ∧ fr' 3 = .ref [.int .i64 v_1.Kind, .int .i64 v_1.K,
      .int .i64 v_1.N] 0 ∧ fr' 6 = .ref [.int .i64 v37.1.Epoch, .int .i64 v37.1.Leader, v40, .int .i64 v37.1.High,
      v44] 0 ∧ fr' 7 = .bool v37.2 ∧ fr' 9 = .ref [.int .i64 v85.1.Epoch, .int .i64 v85.1.Leader, v88, .int .i64 v85.1.High,
      v92] 0 ∧ fr' 10 = .bool v85.2) (fun Q152 hN153 => ?_) ?_
  · simp only [List.take_succ_cons, List.take_zero]
    simp only [run_guard (g := 57), B0, reduceIte, reduceEqDiff]
    refine guard_split (t := (decide (v143.1 < 0))) (fun hg154 => ?_) (fun hg154 => ?_)
    · rw [iteT hg154] at hx156
      simp only [hg154, run_guard (g := 57), guard_off', run_pick, put1_some, xpick_t, run_ops_nil, run_nil, B0, reduceIte, reduceEqDiff]
      have e158 := some_inj hx156
      exact hN153 _ _ ⟨(Sep.m3 (Sep.m3 (Sep.m3 (Sep.m3 (Sep.dc ((Sep.dc ((Sep.dc ((Sep.dc (hS151)))))))))))), by rw [← e158]; simp only [B0, reduceIte, reduceEqDiff], f113, f114,
          f115, f116, f118, f119⟩
    · rw [iteF hg154] at hx156
      simp only [hg154, run_guard (g := 57), guard_false, f118, run_ld, B0, reduceIte, reduceEqDiff]
      refine put1_eq (v := .agg [.int .i64 v85.1.Epoch, .int .i64 v85.1.Leader, v88, .int .i64 v85.1.High, v92]) rfl ?_
      simp only [hg154, run_guard (g := 57), guard_false, f115, run_ld, B0, reduceIte, reduceEqDiff]
      refine put1_eq (v := .agg [.int .i64 v37.1.Epoch, .int .i64 v37.1.Leader, v40, .int .i64 v37.1.High, v44]) rfl ?_
      obtain ⟨v159, hx160, hF161⟩ := bind_some' hx156
      simp only [hg154, run_guard (g := 57), guard_false, run_call, B0, reduceIte, reduceEqDiff]
      refine call1 rfl (mapM1 (snap_agg (mapM1 snap_int (mapM1 snap_int (mapM1 (SlF.snap hv90 (Sep.m6 hS151) rfl (fun _ => rfl) (fun _ => rfl)) (mapM1 snap_int (mapM1
          (SlN.snap hv94 _ (Sep.m7 hS151) rfl Replica.RO) mapM0)))))) (mapM1 (snap_agg (mapM1 snap_int (mapM1 snap_int (mapM1 (SlF.snap hv42 (Sep.m4 hS151) rfl (fun _ => rfl)
          (fun _ => rfl)) (mapM1 snap_int (mapM1 (SlN.snap hv46 _ (Sep.m5 hS151) rfl Replica.RO) mapM0)))))) mapM0)) (laws_eqGroup_x
          (fun b hb => decide_eq_true hb) k v85.1 v37.1 v159 hx160) ?_
      simp only [hg154, run_guard (g := 57), guard_false, run_un, put1_some, xnot, run_pick, xpick_f, run_ops_nil, run_nil, B0, reduceIte, reduceEqDiff]
      have e162 := some_inj hF161
      exact hN153 _ _ ⟨(Sep.m3 (Sep.m3 (Sep.m3 (Sep.m3 (Sep.dc ((Sep.dc ((Sep.dc ((Sep.dc (hS151)))))))))))), by rw [← e162]; simp only [B0, reduceIte, reduceEqDiff], f113, f114,
          f115, f116, f118, f119⟩
  rintro fr163 h171 ⟨hS172, f164, f165, f166, f167, f168, f169, f170⟩
  simp only [List.drop_succ_cons, List.drop_zero]
  simp only [f164, run_mv, B0, reduceIte, reduceEqDiff]
  refine ops_j 4 (fun fr' h' => Sep h' (geL h.length) (c41 ++ (c45 ++ (c89 ++ (c93 ++ ([]))))) ∧ fr' 67 = .bool (v155 || (!(v85.2 == v37.2))) ∧ fr' 2 = .ref [.int .i64 v_0.Epoch,
      .int .i64 v_0.Leader, lst cI v_0.InStep, .int .i64 v_0.High, lst Replica.cells v_0.Replicas] 0 ∧ fr' 3 = .ref [.int .i64 v_1.Kind, .int .i64 v_1.K,
      .int .i64 v_1.N] 0 ∧ fr' 6 = .ref [.int .i64 v37.1.Epoch, .int .i64 v37.1.Leader, v40, .int .i64 v37.1.High,
      v44] 0 ∧ fr' 7 = .bool v37.2 ∧ fr' 9 = .ref [.int .i64 v85.1.Epoch, .int .i64 v85.1.Leader, v88, .int .i64 v85.1.High, v92] 0) (fun Q173 hN174 => ?_) ?_
  · simp only [List.take_succ_cons, List.take_zero]
    simp only [run_guard (g := 63), B0, reduceIte, reduceEqDiff]
    refine guard_split (t := v155) (fun hg175 => ?_) (fun hg175 => ?_)
    · simp only [hg175, run_guard (g := 63), guard_off', run_pick, put1_some, xpick_t, run_ops_nil, run_nil, B0, reduceIte, reduceEqDiff]
      exact hN174 _ _ ⟨(Sep.m3 (Sep.m3 (Sep.m3 (Sep.m3 hS172)))), by rw [orT hg175]; simp only [B0, reduceIte, reduceEqDiff], f165, f166, f167, f168, f169⟩
    · simp only [hg175, run_guard (g := 63), guard_false, f170, run_mv, f168, run_eqb, put1_some, xeqb_t, run_pick, xpick_f, run_ops_nil, run_nil, B0, reduceIte, reduceEqDiff]
      exact hN174 _ _ ⟨(Sep.m3 (Sep.m3 (Sep.m3 (Sep.m3 hS172)))), by rw [orF hg175]; simp only [B0, reduceIte, reduceEqDiff], f165, f166, f167, f168, f169⟩
  rintro fr176 h183 ⟨hS184, f177, f178, f179, f180, f181, f182⟩
  simp only [List.drop_succ_cons, List.drop_zero]
  simp only [run_ops_nil, f177, run_cond, B0, reduceIte, reduceEqDiff]
  refine cond_split (t := (v155 || (!(v85.2 == v37.2)))) (fun hc185 => ?_) (fun hc185 => ?_)
  · rw [iteT hc185] at hF157
    simp only [run_seq, run_reg, run_mv, run_ops_nil, run_ret, B0, reduceIte, reduceEqDiff]
    have he := some_inj hF157
    subst he
    simp only [end_ret1, B0, reduceIte, reduceEqDiff]
    exact rfl
  rw [iteF hc185] at hF157
  simp only [run_skip, x7_12, run_seq, run_reg, run_mv, run_ops_nil, x7_11, f182, run_ld, B0, reduceIte, reduceEqDiff]
  refine put1_eq (v := .agg [.int .i64 v85.1.Epoch, .int .i64 v85.1.Leader, v88, .int .i64 v85.1.High, v92]) rfl ?_
  obtain ⟨v186, hx187, hF188⟩ := bind_some' hF157
  simp only [run_mv, run_call, B0, reduceIte, reduceEqDiff]
  refine call0 rfl (laws_markGroup_x hW k v85.1 v88 c89 hv90 v92 c93 hv94 1 v186 hx187 (Sep.m3 (Sep.m3 hS184))) ?_
  rintro _ h193 ⟨c189, c191, rfl, hv190, hv192, hS194⟩
  simp only [run_mv, run_ops_nil, x7_10, run_seq, run_reg, x7_9, f182, run_ld, B0, reduceIte, reduceEqDiff]
  refine put1_eq (v := .agg [.int .i64 v85.1.Epoch, .int .i64 v85.1.Leader, v88, .int .i64 v85.1.High, v92]) rfl ?_
  obtain ⟨v195, hx196, hF197⟩ := bind_some' hF188
  simp only [run_mv, run_call, B0, reduceIte, reduceEqDiff]
  refine call1 rfl (mapM1 (snap_agg (mapM1 snap_int (mapM1 snap_int (mapM1 (SlF.snap hv190 hS194 rfl (fun _ => rfl) (fun _ => rfl)) (mapM1 snap_int (mapM1 (SlN.snap hv192 _
      (Sep.m1 hS194) rfl Replica.RO) mapM0)))))) (mapM1 snap_int mapM0)) (laws_heldGroup_x (fun b hb => decide_eq_true hb) k
      (Group.mk v85.1.Epoch v85.1.Leader v186.2.InStep v85.1.High v186.2.Replicas) 1 v195 hx196) ?_
  simp only [run_mv, run_ops_nil, x7_8, run_seq, run_reg, run_bin, put1_some, xlss, run_cond, B0, reduceIte, reduceEqDiff]
  refine cond_split (t := (decide (v195 < 0))) (fun hc198 => ?_) (fun hc198 => ?_)
  · rw [iteT hc198] at hF197
    simp only [run_seq, run_reg, run_mv, run_ops_nil, run_ret, B0, reduceIte, reduceEqDiff]
    have he := some_inj hF197
    subst he
    simp only [end_ret1, B0, reduceIte, reduceEqDiff]
    exact rfl
  rw [iteF hc198] at hF197
  simp only [run_skip, x7_7, run_seq, run_reg, run_mv, run_bin, put1_some, xneq, run_ops_nil, run_cond, B0, reduceIte, reduceEqDiff]
  refine cond_split (t := (decide (v195 ≠ v186.1))) (fun hc199 => ?_) (fun hc199 => ?_)
  · rw [iteT hc199] at hF197
    simp only [run_seq, run_reg, run_mv, run_ops_nil, run_ret, B0, reduceIte, reduceEqDiff]
    have he := some_inj hF197
    subst he
    simp only [end_ret1, B0, reduceIte, reduceEqDiff]
    exact rfl
  rw [iteF hc199] at hF197
  simp only [run_skip, x7_6, run_seq, run_draw, d1_new, B0, reduceIte, reduceEqDiff]
  refine put2d_newC hS194 (fun b200 h201 hS202 => ?_)
  simp only [f178, d4_ld, B0, reduceIte, reduceEqDiff]
  refine put1d_eq (v := .agg [.int .i64 v_0.Epoch, .int .i64 v_0.Leader, lst cI v_0.InStep, .int .i64 v_0.High, lst Replica.cells v_0.Replicas]) rfl ?_
  obtain ⟨v204, hx205, hF206⟩ := bind_some' hF197
  simp only [run_d2_call, B0, reduceIte, reduceEqDiff]
  refine call2q rfl hS202 (mapM1 (snap_agg (mapM1 snap_int (mapM1 snap_int (mapM1 snap_lst (mapM1 snap_int (mapM1 snap_lst mapM0)))))) mapM0) (laws_toGroup_x
      (fun b hb => decide_eq_true hb) k v_0 v204 hx205) ?_
  rintro _ h215 ⟨v207, c208, v211, c212, rfl, hv209, hv213, hS216⟩
  refine ⟨_, free_a (all_c rfl (all_c rfl (all_c (SlF.free1 hv209) (all_c rfl (all_c (SlN.free1 hv213) all_n))))), hS216,
      (pf_app (SlF.pf hv209 (fun _ => rfl)) (pf_app (SlN.pf hv213 Replica.RO) pf_nil)), fun h217 hS218 => ?_⟩
  have hS219 : Sep h217 (geL h.length) (c208 ++ (c212 ++ ([Blk1 b200 [.int .i64 0, .int .i64 0, .nil, .int .i64 0,
      .nil] 29] ++ (c189 ++ (c191 ++ (c41 ++ (c45 ++ ([])))))))) := by simpa only [List.append_assoc, List.nil_append] using hS218
  simp only [f179, d1_ld, ldd_ref, B0, reduceIte, reduceEqDiff]
  refine put1d_eq (v := .agg [.int .i64 v_1.Kind, .int .i64 v_1.K, .int .i64 v_1.N]) rfl ?_
  simp only [run_d3_call, B0, reduceIte, reduceEqDiff]
  refine call1d rfl (mapM1 (snap_agg (mapM1 snap_int (mapM1 snap_int (mapM1 snap_int mapM0)))) mapM0) (laws_toIsrStep_x (fun b hb => decide_eq_true hb) v_1 _ rfl) ?_
  obtain ⟨v220, hx221, hF222⟩ := bind_some' hF206
  simp only [run_d3_call, B0, reduceIte, reduceEqDiff]
  refine call2d rfl hS219 (mapM1 (snap_agg (mapM1 snap_int (mapM1 snap_int (mapM1 (SlF.snap hv209 hS219 rfl (fun _ => rfl) (fun _ => rfl)) (mapM1 snap_int (mapM1
      (SlN.snap hv213 _ (Sep.m1 hS219) rfl Replica.RO) mapM0)))))) (mapM1 (snap_agg (mapM1 snap_int (mapM1 snap_int (mapM1 snap_int mapM0)))) mapM0)) (impl_StepGroup_x
      (fun b hb => decide_eq_true hb) k v204 (laws_toIsrStep v_1) v220 hx221) ?_
  rintro _ h231 ⟨v223, c224, v227, c228, rfl, hv225, hv229, hS232⟩
  refine ⟨_, free_t (all_c (free2_a (all_c rfl (all_c rfl (all_c (SlF.free1 hv225) (all_c rfl (all_c (SlN.free1 hv229) all_n)))))) (all_c rfl all_n)), hS232,
      (pf_app (SlF.pf hv225 (fun _ => rfl)) (pf_app (SlN.pf hv229 Replica.RO) pf_nil)), fun h233 hS234 => ?_⟩
  have hS235 : Sep h233 (geL h.length) (c224 ++ (c228 ++ (c208 ++ (c212 ++ ([Blk1 b200 [.int .i64 0, .int .i64 0, .nil, .int .i64 0,
      .nil] 29] ++ (c189 ++ (c191 ++ (c41 ++ (c45 ++ ([])))))))))) := by simpa only [List.append_assoc, List.nil_append] using hS234
  simp only [d4_mv, put1d_some, d4_ext, xext_0, d1_ext, xext_1, d3_st, B0, reduceIte, reduceEqDiff]
  refine put2d_stCx (us := [.int .i64 v220.1.Epoch, .int .i64 v220.1.Leader, v223, .int .i64 v220.1.High, v227]) rfl (cs' := [.int .i64 v220.1.Epoch, .int .i64 v220.1.Leader,
      v223, .int .i64 v220.1.High, v227]) (Sep.m4 hS235) hW rfl (all_c rfl (all_c rfl (all_c (SlF.one hv225) (all_c rfl (all_c (SlN.one hv229) all_n)))))
      (Nat.le_of_ble_eq_true rfl) rfl (fun h236 hS237 => ?_)
  simp only [d4_mv, put1d_some, run_draw_nil, B0, reduceIte, reduceEqDiff]
  refine frz_stepC hS237 hW (by simp only [B0, reduceIte, reduceEqDiff]) (fun h238 hS239 => ?_)
  simp only [run_frz_nil, x7_5, run_seq, run_reg, run_ld, B0, reduceIte, reduceEqDiff]
  refine put1_eq (v := .agg [.int .i64 v220.1.Epoch, .int .i64 v220.1.Leader, v223, .int .i64 v220.1.High, v227]) rfl ?_
  simp only [f180, run_ld, B0, reduceIte, reduceEqDiff]
  refine put1_eq (v := .agg [.int .i64 v37.1.Epoch, .int .i64 v37.1.Leader, v40, .int .i64 v37.1.High, v44]) rfl ?_
  obtain ⟨v240, hx241, hF242⟩ := bind_some' hF222
  simp only [run_call, B0, reduceIte, reduceEqDiff]
  refine call1 rfl (mapM1 (snap_agg (mapM1 snap_int (mapM1 snap_int (mapM1 (SlF.snap hv225 hS239 rfl (fun _ => rfl) (fun _ => rfl)) (mapM1 snap_int (mapM1 (SlN.snap hv229 _
      (Sep.m1 hS239) rfl Replica.RO) mapM0)))))) (mapM1 (snap_agg (mapM1 snap_int (mapM1 snap_int (mapM1 (SlF.snap hv42 (Sep.m6 hS239) rfl (fun _ => rfl) (fun _ => rfl))
      (mapM1 snap_int (mapM1 (SlN.snap hv46 _ (Sep.m7 hS239) rfl Replica.RO) mapM0)))))) mapM0)) (laws_eqGroup_x (fun b hb => decide_eq_true hb) k v220.1 v37.1 v240 hx241) ?_
  simp only [run_un, put1_some, xnot, run_mv, B0, reduceIte, reduceEqDiff]
  refine ops_j 4 (fun fr' h' => Sep h' (geL h.length) (c189 ++ (c191 ++ ([]))) ∧ fr' 95 = .bool ((!v240) || (!(v220.2 == v37.2))) ∧ fr' 9 = .ref [.int .i64 v85.1.Epoch,
      .int .i64 v85.1.Leader, v88, .int .i64 v85.1.High, v92] 0 ∧ fr' 12 = .int .i64 v186.1) (fun Q243 hN244 => ?_) ?_
  · simp only [List.take_succ_cons, List.take_zero]
    simp only [run_guard (g := 91), B0, reduceIte, reduceEqDiff]
    refine guard_split (t := (!v240)) (fun hg245 => ?_) (fun hg245 => ?_)
    · simp only [hg245, run_guard (g := 91), guard_off', run_pick, put1_some, xpick_t, run_ops_nil, run_nil, B0, reduceIte, reduceEqDiff]
      exact hN244 _ _ ⟨(Sep.m1 (Sep.m1 (Sep.dc (Sep.m2 (Sep.dc (Sep.m2 (Sep.dc ((Sep.dc ((Sep.dc ((Sep.dc (hS239)))))))))))))), by rw [orT hg245]; simp only [B0, reduceIte,
          reduceEqDiff], f182, rfl⟩
    · simp only [hg245, run_guard (g := 91), guard_false, run_mv, f181, run_eqb, put1_some, xeqb_t, run_pick, xpick_f, run_ops_nil, run_nil, B0, reduceIte, reduceEqDiff]
      exact hN244 _ _ ⟨(Sep.m1 (Sep.m1 (Sep.dc (Sep.m2 (Sep.dc (Sep.m2 (Sep.dc ((Sep.dc ((Sep.dc ((Sep.dc (hS239)))))))))))))), by rw [orF hg245]; simp only [B0, reduceIte,
          reduceEqDiff], f182, rfl⟩
  rintro fr246 h250 ⟨hS251, f247, f248, f249⟩
  simp only [List.drop_succ_cons, List.drop_zero]
  simp only [run_ops_nil, f247, run_cond, B0, reduceIte, reduceEqDiff]
  refine cond_split (t := ((!v240) || (!(v220.2 == v37.2)))) (fun hc252 => ?_) (fun hc252 => ?_)
  · rw [iteT hc252] at hF242
    simp only [run_seq, run_reg, run_mv, run_ops_nil, run_ret, B0, reduceIte, reduceEqDiff]
    have he := some_inj hF242
    subst he
    simp only [end_ret1, B0, reduceIte, reduceEqDiff]
    exact rfl
  rw [iteF hc252] at hF242
  simp only [run_skip, x7_4, run_seq, run_reg, run_mv, run_ops_nil, x7_3, f248, run_ld, B0, reduceIte, reduceEqDiff]
  refine put1_eq (v := .agg [.int .i64 v85.1.Epoch, .int .i64 v85.1.Leader, v88, .int .i64 v85.1.High, v92]) rfl ?_
  obtain ⟨v253, hx254, hF255⟩ := bind_some' hF242
  simp only [run_mv, run_call, B0, reduceIte, reduceEqDiff]
  refine call1 rfl (mapM1 (snap_agg (mapM1 snap_int (mapM1 snap_int (mapM1 (SlF.snap hv190 hS251 rfl (fun _ => rfl) (fun _ => rfl)) (mapM1 snap_int (mapM1 (SlN.snap hv192 _
      (Sep.m1 hS251) rfl Replica.RO) mapM0)))))) (mapM1 snap_int mapM0)) (laws_heldGroup_x (fun b hb => decide_eq_true hb) k
      (Group.mk v85.1.Epoch v85.1.Leader v186.2.InStep v85.1.High v186.2.Replicas) 1 v253 hx254) ?_
  simp only [run_mv, run_ops_nil, x7_2, run_seq, run_reg, run_bin, put1_some, xlss, run_cond, B0, reduceIte, reduceEqDiff]
  refine cond_split (t := (decide (v253 < 0))) (fun hc256 => ?_) (fun hc256 => ?_)
  · rw [iteT hc256] at hF255
    simp only [run_seq, run_reg, run_mv, run_ops_nil, run_ret, B0, reduceIte, reduceEqDiff]
    have he := some_inj hF255
    subst he
    simp only [end_ret1, B0, reduceIte, reduceEqDiff]
    exact rfl
  rw [iteF hc256] at hF255
  simp only [run_skip, x7_1, run_seq, run_reg, run_mv, f249, run_bin, put1_some, xneq, run_ops_nil, run_cond, B0, reduceIte, reduceEqDiff]
  refine cond_split (t := (decide (v253 ≠ v186.1))) (fun hc257 => ?_) (fun hc257 => ?_)
  · rw [iteT hc257] at hF255
    simp only [run_seq, run_reg, run_mv, run_ops_nil, run_ret, B0, reduceIte, reduceEqDiff]
    have he := some_inj hF255
    subst he
    simp only [end_ret1, B0, reduceIte, reduceEqDiff]
    exact rfl
  rw [iteF hc257] at hF255
  simp only [run_skip, run_seq, run_reg, run_mv, run_ops_nil, run_ret, B0, reduceIte, reduceEqDiff]
  have he := some_inj hF255
  subst he
  simp only [end_ret1, B0, reduceIte, reduceEqDiff]
  exact rfl
end Go.Proofs.Ytefgfcalgjmhjaa.X
