/- The functions' code comes to what the plain functions say (2). -/
import Derived.Test.YtddkoiapboeemaaXL1H1
set_option linter.unusedVariables false
set_option linter.unusedSimpArgs false
set_option maxRecDepth 100000
namespace Go.Proofs.Ytddkoiapboeemaa.X
open Go
open Nat (reduceEqDiff)
theorem impl_isLegal_x {W : Nat → Bool} {h : Heap} (hW : ∀ b,
    (geL h.length) b → W b = true) (l_0 : List Call) (order_1 : List Int) (r : Bool) (hF : impl_isLegal l_0 order_1 = some r) : Ret E W 58 [lst Call.cells l_0,
    lst cI order_1] h (fun v h' => cut h.length h' E.sz false 9 v = some (.bool r)) := by
  refine Ret.of (fn := x58) rfl (Run.of ?_)
  unfold impl_isLegal at hF
  have zf0 : argFr [lst Call.cells l_0, lst cI order_1] 0 = lst Call.cells l_0 := rfl
  have zf1 : argFr [lst Call.cells l_0, lst cI order_1] 1 = lst cI order_1 := rfl
  generalize argFr [lst Call.cells l_0, lst cI order_1] = fr0 at zf0 zf1 ⊢
  have hS : Sep h (geL h.length) [] := Sep.nil h
  simp only [x58, run_seq, run_reg, run_mv, run_ops_nil, x58_10, run_build, evp, B0, reduceIte, reduceEqDiff]
  refine put1_eq (v := .agg [.int .i64 0, .int .i64 0, .int .i64 0]) rfl ?_
  simp only [run_new, B0, reduceIte, reduceEqDiff]
  refine put2_newC hS (fun b1 h2 hS3 => ?_)
  have hS5 : Sep h2 (geL h.length) ([Blk1 b1 (List.map cI [(0 : Int), (0 : Int), (0 : Int)]).flatten 81] ++ ([])) := hS3
  simp only [run_st, B0, reduceIte, reduceEqDiff]
  refine put2_stC (cs' := [.int .i64 0, .int .i64 0, .int .i64 0]) hS5 hW rfl rfl (nle rfl) rfl (fun h6 hS7 => ?_)
  have hS8 : Sep h6 (geL h.length) ([Blk1 b1 (List.map cI [(0 : Int), (0 : Int), (0 : Int)]).flatten 81] ++ ([])) := hS7
  simp only [run_ops_nil, x58_9, run_seq, run_reg, zf1, run_mv, run_len, put1_some, xlen_lst, B0, reduceIte, reduceEqDiff]
  obtain ⟨oc13, hX15, hk16⟩ := jn_some hF
  simp only [x58_8]
  refine rangeL_j (σ := (List Int)) order_1 (fun i11 x12 s65 => impl_isLegal_b1 l_0 i11 x12 s65)
      (fun s fr' h' => fr' 0 = lst Call.cells l_0 ∧ fr' 5 = .ptr b1 0 ∧ fr' 10 = lst cI order_1 ∧ Sep h' (geL h.length) ([Blk1 b1 (List.map cI s).flatten 81] ++ ([]))) hX15 ⟨zf0,
      rfl, rfl, hS8⟩ (by simp only [B0, reduceIte, reduceEqDiff]) (by simp only [B0, reduceIte,
      reduceEqDiff]) (fun _ _ _ h => h) rfl rfl (fun _ _ _ _ h => h) (fun _ _ _ _ h => h) (fun _ _ _ _ h => h) (by decide) ?_ ?_
  · rintro i11 x12 s10 fr25 h26 hx31 ⟨f28, f29, f30, hS27⟩ f32 f33 oc14 hF17 hr18 Q19 hN20 hB24 hK21 hR22 hE23
    unfold impl_isLegal_b1 at hF17
    simp only [x58_6, run_seq, run_reg, f30, f32, run_ia, B0, reduceIte, reduceEqDiff]
    refine put1_eq (v := .ref (cI x12) 0) (xia_lstN hx31 rfl) ?_
    simp only [run_ld, B0, reduceIte, reduceEqDiff]
    refine put1_eq (v := .int .i64 x12) rfl ?_
    obtain ⟨x34, hx35, hF36⟩ := bind_some' hF17
    simp only [run_mv, run_ops_nil, x58_5, run_seq, run_reg, f28, run_ia, B0, reduceIte, reduceEqDiff]
    refine put1_eq (v := .ref (Call.cells x34) 0) (xia_lst hx35 rfl) ?_
    simp only [run_ld, B0, reduceIte, reduceEqDiff]
    refine put1_eq (v := .agg [.int .i64 x34.Client, .int .i64 x34.Object, .bool x34.Write, .int .i64 x34.Value, .int .i64 x34.Begin, .int .i64 x34.End]) rfl ?_
    simp only [run_new, B0, reduceIte, reduceEqDiff]
    refine put2_newC hS27 (fun b37 h38 hS39 => ?_)
    simp only [run_st, B0, reduceIte, reduceEqDiff]
    refine put2_stCx (us := [.int .i64 x34.Client, .int .i64 x34.Object, .bool x34.Write, .int .i64 x34.Value, .int .i64 x34.Begin,
        .int .i64 x34.End]) rfl (cs' := [.int .i64 x34.Client, .int .i64 x34.Object, .bool x34.Write, .int .i64 x34.Value, .int .i64 x34.Begin,
        .int .i64 x34.End]) hS39 hW rfl rfl (nle rfl) rfl (fun h41 hS42 => ?_)
    simp only [run_ops_nil, B0, reduceIte, reduceEqDiff]
    refine frz_stepC hS42 hW (by simp only [B0, reduceIte, reduceEqDiff]) (fun h43 hS44 => ?_)
    simp only [run_frz_nil, x58_4, run_seq, run_reg, run_fa, put1_some, Nat.reduceAdd, Nat.zero_add, Nat.add_zero, xfa_ref, run_ld, B0, reduceIte, reduceEqDiff]
    refine put1_eq (v := .bool x34.Write) rfl ?_
    simp only [run_ops_nil, x58_3, run_cond, B0, reduceIte, reduceEqDiff]
    refine cond_split (t := x34.Write) (fun hc45 => ?_) (fun hc45 => ?_)
    · rw [iteT hc45] at hF36
      simp only [x58_1, run_reg, run_fa, put1_some, Nat.reduceAdd, Nat.zero_add, Nat.add_zero, xfa_ref, run_ld, B0, reduceIte, reduceEqDiff]
      refine put1_eq (v := .int .i64 x34.Object) rfl ?_
      simp only [run_fa, put1_some, Nat.reduceAdd, Nat.zero_add, Nat.add_zero, xfa_ref, run_ld, B0, reduceIte, reduceEqDiff]
      refine put1_eq (v := .int .i64 x34.Value) rfl ?_
      obtain ⟨x46, hx47, hF48⟩ := bind_some' hF36
      obtain ⟨hp49, hF50⟩ := ck_some hF48
      simp only [f29, run_iaA, B0, reduceIte, reduceEqDiff]
      refine put2_iaA (geti_some hx47).1 hp49 ?_
      simp only [run_st, B0, reduceIte, reduceEqDiff]
      refine put2_starr (f1 := cI) (x' := x34.Value) hS44 hW hx47 (fun _ => rfl) rfl rfl (fun h51 hS52 => ?_)
      have hx53 := geti_set (x' := x34.Value) hx47
      simp only [run_ops_nil, run_nil, B0, reduceIte, reduceEqDiff]
      have e54 := some_inj hF50
      exact hN20 _ _ _ e54.symm ⟨f28, f29, f30, hS52⟩ (f32) (f33)
    rw [iteF hc45] at hF36
    simp only [x58_2, run_seq, run_draw, d4_fa, put1d_some, Nat.reduceAdd, Nat.zero_add, Nat.add_zero, xfa_ref, d4_ld, B0, reduceIte, reduceEqDiff]
    refine put1d_eq (v := .int .i64 x34.Object) rfl ?_
    obtain ⟨x55, hx56, hF57⟩ := bind_some' hF36
    obtain ⟨hp58, hF59⟩ := ck_some hF57
    simp only [f29, d4_iaA, B0, reduceIte, reduceEqDiff]
    refine put1d_eq (xiaA_i (geti_some hx56).1 hp58) ?_
    simp only [d4_ld, B0, reduceIte, reduceEqDiff]
    refine put1d_eq (v := .int .i64 x55) ((arr_ld (f1 := cI) (Sep.bk _ _ _ hS44) hx56 (fun _ => rfl)).trans rfl) ?_
    simp only [d4_fa, put1d_some, Nat.reduceAdd, Nat.zero_add, Nat.add_zero, xfa_ref, d4_ld, B0, reduceIte, reduceEqDiff]
    refine put1d_eq (v := .int .i64 x34.Value) rfl ?_
    simp only [d4_bin, put1d_some, xneq, run_draw_nil, run_cond, B0, reduceIte, reduceEqDiff]
    refine cond_split (t := (decide (x55 ≠ x34.Value))) (fun hc60 => ?_) (fun hc60 => ?_)
    · rw [iteT hc60] at hF59
      simp only [run_seq, run_reg, run_mv, run_ops_nil, run_ret, B0, reduceIte, reduceEqDiff]
      have e61 := some_inj hF59
      subst e61
      have ho62 := hr18 _ rfl
      have hk63 := hk16
      rw [ho62] at hk63
      dsimp only [jnO] at hk63
      apply hR22
      have he := some_inj hk63
      subst he
      simp only [end_ret1, B0, reduceIte, reduceEqDiff]
      exact rfl
    rw [iteF hc60] at hF59
    simp only [run_skip, run_nil, B0, reduceIte, reduceEqDiff]
    have e64 := some_inj hF59
    exact hN20 _ _ _ e64.symm ⟨f28, f29, f30, hS44⟩ (f32) (f33)
  rintro s66 fr67 h68 rfl ⟨f70, f71, f72, hS69⟩
  dsimp only [jnO] at hk16
  unfold impl_isLegal_j1 at hk16
  simp only [run_seq, run_reg, run_mv, run_ops_nil, run_ret, B0, reduceIte, reduceEqDiff]
  have he := some_inj hk16
  subst he
  simp only [end_ret1, B0, reduceIte, reduceEqDiff]
  exact rfl
theorem impl_IsLegal_x {W : Nat → Bool} {h : Heap} (hW : ∀ b,
    (geL h.length) b → W b = true) (l_0 : List Call) (order_1 : List Int) (r : Bool × Bool) (hF : impl_IsLegal l_0 order_1 = some r) : Ret E W 31 [lst Call.cells l_0,
    lst cI order_1] h (fun v h' => cut h.length h' E.sz false 9 v = some (.tup [.bool r.1, .bool r.2])) := by
  refine Ret.of (fn := x31) rfl (Run.of ?_)
  unfold impl_IsLegal at hF
  have zf0 : argFr [lst Call.cells l_0, lst cI order_1] 0 = lst Call.cells l_0 := rfl
  have zf1 : argFr [lst Call.cells l_0, lst cI order_1] 1 = lst cI order_1 := rfl
  generalize argFr [lst Call.cells l_0, lst cI order_1] = fr0 at zf0 zf1 ⊢
  have hS : Sep h (geL h.length) [] := Sep.nil h
  obtain ⟨v1, hx2, hF3⟩ := bind_some' hF
  simp only [x31, run_seq, run_reg, run_mv, run_ops_nil, x31_3, zf0, run_call, B0, reduceIte, reduceEqDiff]
  refine call1 rfl (mapM1 snap_lst mapM0) (impl_areCalls_x (fun b hb => decide_eq_true hb) l_0 v1 hx2) ?_
  simp only [run_un, put1_some, xnot, run_mv, B0, reduceIte, reduceEqDiff]
  obtain ⟨v7, hx8, hF9⟩ := bind_some' hF3
  refine ops_j 5 (fun fr' h' => Sep h' (geL h.length) ([]) ∧ fr' 14 = .bool v7 ∧ fr' 0 = lst Call.cells l_0 ∧ fr' 1 = lst cI order_1) (fun Q4 hN5 => ?_) ?_
  · simp only [List.take_succ_cons, List.take_zero]
    simp only [run_guard (g := 9), B0, reduceIte, reduceEqDiff]
    refine guard_split (t := (!v1)) (fun hg6 => ?_) (fun hg6 => ?_)
    · rw [iteT hg6] at hx8
      simp only [hg6, run_guard (g := 9), guard_off', run_pick, put1_some, xpick_t, run_ops_nil, run_nil, B0, reduceIte, reduceEqDiff]
      have e10 := some_inj hx8
      exact hN5 _ _ ⟨hS, by rw [← e10]; simp only [B0, reduceIte, reduceEqDiff], zf0, zf1⟩
    · rw [iteF hg6] at hx8
      obtain ⟨v11, hx12, hF13⟩ := bind_some' hx8
      simp only [hg6, run_guard (g := 9), guard_false, zf0, run_mv, zf1, run_call, B0, reduceIte, reduceEqDiff]
      refine call1 rfl (mapM1 snap_lst (mapM1 snap_lst mapM0)) (impl_isOrder_x (fun b hb => decide_eq_true hb) l_0 order_1 v11 hx12) ?_
      simp only [hg6, run_guard (g := 9), guard_false, run_un, put1_some, xnot, run_pick, xpick_f, run_ops_nil, run_nil, B0, reduceIte, reduceEqDiff]
      have e14 := some_inj hF13
      exact hN5 _ _ ⟨hS, by rw [← e14]; simp only [B0, reduceIte, reduceEqDiff], zf0, zf1⟩
  rintro fr15 h19 ⟨hS20, f16, f17, f18⟩
  simp only [List.drop_succ_cons, List.drop_zero]
  simp only [run_ops_nil, x31_1, f16, run_cond, B0, reduceIte, reduceEqDiff]
  refine cond_split (t := v7) (fun hc21 => ?_) (fun hc21 => ?_)
  · rw [iteT hc21] at hF9
    simp only [run_seq, run_reg, run_mv, run_ops_nil, run_ret, B0, reduceIte, reduceEqDiff]
    have he := some_inj hF9
    subst he
    simp only [end_ret2, B0, reduceIte, reduceEqDiff]
    exact cut_tup (mapM1 rfl (mapM1 rfl mapM0))
  rw [iteF hc21] at hF9
  obtain ⟨v22, hx23, hF24⟩ := bind_some' hF9
  simp only [run_skip, x31_2, run_seq, run_reg, f17, run_mv, f18, run_call, B0, reduceIte, reduceEqDiff]
  refine call1 rfl (mapM1 snap_lst (mapM1 snap_lst mapM0)) (impl_isLegal_x (fun b hb => decide_eq_true hb) l_0 order_1 v22 hx23) ?_
  simp only [run_mv, run_ops_nil, run_ret, B0, reduceIte, reduceEqDiff]
  have he := some_inj hF24
  subst he
  simp only [end_ret2, B0, reduceIte, reduceEqDiff]
  exact cut_tup (mapM1 rfl (mapM1 rfl mapM0))
theorem laws_FnExactIsLegal_x {W : Nat → Bool} {h : Heap} (hW : ∀ b,
    (geL h.length) b → W b = true) (k : Nat) (aL_0 : List Call) (aOrder_1 : List Int) (r : Bool)
    (hF : laws_FnExactIsLegal k aL_0 aOrder_1 = some r) : Ret E W 8 [lst Call.cells aL_0, lst cI aOrder_1] h (fun v h' => cut h.length h' E.sz false 9 v = some (.bool r)) := by
  refine Ret.of (fn := x8) rfl (Run.of ?_)
  unfold laws_FnExactIsLegal at hF
  have zf0 : argFr [lst Call.cells aL_0, lst cI aOrder_1] 0 = lst Call.cells aL_0 := rfl
  have zf1 : argFr [lst Call.cells aL_0, lst cI aOrder_1] 1 = lst cI aOrder_1 := rfl
  generalize argFr [lst Call.cells aL_0, lst cI aOrder_1] = fr0 at zf0 zf1 ⊢
  have hS : Sep h (geL h.length) [] := Sep.nil h
  simp only [x8, run_seq, run_reg, run_mv, run_ops_nil, x8_11, zf1, run_len, put1_some, xlen_lst, run_bin, xgtr, run_cond, B0, reduceIte, reduceEqDiff]
  refine cond_split (t := (decide ((1048576 : Int) < (List.length aOrder_1 : Int)))) (fun hc1 => ?_) (fun hc1 => ?_)
  · rw [iteT hc1] at hF
    simp only [run_seq, run_reg, run_mv, run_ops_nil, run_ret, B0, reduceIte, reduceEqDiff]
    have he := some_inj hF
    subst he
    simp only [end_ret1, B0, reduceIte, reduceEqDiff]
    exact rfl
  rw [iteF hc1] at hF
  obtain ⟨v2, hx3, hF4⟩ := bind_some' hF
  simp only [run_skip, x8_10, run_seq, run_reg, run_mv, run_ops_nil, x8_9, zf0, run_call, B0, reduceIte, reduceEqDiff]
  refine call1 rfl (mapM1 snap_lst (mapM1 snap_int mapM0)) (laws_szCallS_x (fun b hb => decide_eq_true hb) aL_0 1048576 v2 hx3) ?_
  simp only [run_mv, run_ops_nil, x8_8, run_seq, run_reg, run_bin, put1_some, xlss, run_cond, B0, reduceIte, reduceEqDiff]
  refine cond_split (t := (decide (v2 < 0))) (fun hc5 => ?_) (fun hc5 => ?_)
  · rw [iteT hc5] at hF4
    simp only [run_seq, run_reg, run_mv, run_ops_nil, run_ret, B0, reduceIte, reduceEqDiff]
    have he := some_inj hF4
    subst he
    simp only [end_ret1, B0, reduceIte, reduceEqDiff]
    exact rfl
  rw [iteF hc5] at hF4
  obtain ⟨v6, hx7, hF8⟩ := bind_some' hF4
  simp only [run_skip, x8_7, run_seq, run_reg, zf0, run_mv, run_call, B0, reduceIte, reduceEqDiff]
  refine call2 rfl hS (mapM1 snap_lst mapM0) (laws_toCallS_x (fun b hb => decide_eq_true hb) k aL_0 v6 hx7) ?_
  rintro v9 h13 ⟨_, c10, rfl, hv11, hS14⟩
  refine ⟨_, free_1 (SlF.free1 hv11), hS14, (pf_app (SlF.pf hv11 (fun _ => rfl)) pf_nil), fun h15 hS16 => ?_⟩
  have hS17 : Sep h15 (geL h.length) (c10 ++ ([])) := by simpa only [List.append_assoc, List.nil_append] using hS16
  obtain ⟨v18, hx19, hF20⟩ := bind_some' hF8
  simp only [zf1, run_mv, run_call, B0, reduceIte, reduceEqDiff]
  refine call2 rfl hS17 (mapM1 snap_lst mapM0) (laws_toIntS_x (fun b hb => decide_eq_true hb) k aOrder_1 v18 hx19) ?_
  rintro v21 h25 ⟨_, c22, rfl, hv23, hS26⟩
  refine ⟨_, free_1 (SlF.free1 hv23), hS26, (pf_app (SlF.pf hv23 (fun _ => rfl)) pf_nil), fun h27 hS28 => ?_⟩
  have hS29 : Sep h27 (geL h.length) (c22 ++ (c10 ++ ([]))) := by simpa only [List.append_assoc, List.nil_append] using hS28
  obtain ⟨v30, hx31, hF32⟩ := bind_some' hF20
  simp only [run_call, B0, reduceIte, reduceEqDiff]
  refine call1 rfl (mapM1 (SlF.snap hv11 (Sep.m1 hS29) rfl (fun _ => rfl) (fun _ => rfl)) (mapM1 (SlF.snap hv23 hS29 rfl (fun _ => rfl) (fun _ => rfl)) mapM0)) (spec_IsLegal_x
      (fun b hb => decide_eq_true hb) v6 v18 v30 hx31) ?_
  obtain ⟨v33, hx34, hF35⟩ := bind_some' hF32
  simp only [run_mv, run_ext, put1_some, xext_0, xext_1, run_ops_nil, x8_6, run_seq, run_reg, zf0, run_call, B0, reduceIte, reduceEqDiff]
  refine call2 rfl hS29 (mapM1 snap_lst mapM0) (laws_toCallS_x (fun b hb => decide_eq_true hb) k aL_0 v33 hx34) ?_
  rintro v36 h40 ⟨_, c37, rfl, hv38, hS41⟩
  refine ⟨_, free_1 (SlF.free1 hv38), hS41, (pf_app (SlF.pf hv38 (fun _ => rfl)) pf_nil), fun h42 hS43 => ?_⟩
  have hS44 : Sep h42 (geL h.length) (c37 ++ (c22 ++ (c10 ++ ([])))) := by simpa only [List.append_assoc, List.nil_append] using hS43
  obtain ⟨v45, hx46, hF47⟩ := bind_some' hF35
  simp only [run_mv, run_ops_nil, x8_5, run_seq, run_reg, zf1, run_call, B0, reduceIte, reduceEqDiff]
  refine call2 rfl hS44 (mapM1 snap_lst mapM0) (laws_toIntS_x (fun b hb => decide_eq_true hb) k aOrder_1 v45 hx46) ?_
  rintro v48 h52 ⟨_, c49, rfl, hv50, hS53⟩
  refine ⟨_, free_1 (SlF.free1 hv50), hS53, (pf_app (SlF.pf hv50 (fun _ => rfl)) pf_nil), fun h54 hS55 => ?_⟩
  have hS56 : Sep h54 (geL h.length) (c49 ++ (c37 ++ (c22 ++ (c10 ++ ([]))))) := by simpa only [List.append_assoc, List.nil_append] using hS55
  obtain ⟨v57, hx58, hF59⟩ := bind_some' hF47
  simp only [run_mv, run_ops_nil, x8_4, run_seq, run_reg, run_call, B0, reduceIte, reduceEqDiff]
  refine call1 rfl (mapM1 (SlF.snap hv38 (Sep.m1 hS56) rfl (fun _ => rfl) (fun _ => rfl)) (mapM1 (SlF.snap hv50 hS56 rfl (fun _ => rfl) (fun _ => rfl)) mapM0)) (impl_IsLegal_x
      (fun b hb => decide_eq_true hb) v33 v45 v57 hx58) ?_
  simp only [run_mv, run_ext, put1_some, xext_0, xext_1, run_ops_nil, x8_3, run_seq, run_reg, run_eqb, xeqb_t, B0, reduceIte, reduceEqDiff]
  refine ops_j 4 (fun fr' h' => Sep h' (geL h.length) (c37 ++ (c49 ++ ([]))) ∧ fr' 45 = .bool ((!(v57.1 == v30.1)) ||
      (!(v57.2 == v30.2))) ∧ fr' 0 = lst Call.cells aL_0 ∧ fr' 1 = lst cI aOrder_1 ∧ fr' 8 = v36 ∧ fr' 9 = v48) (fun Q60 hN61 => ?_) ?_
  · simp only [List.take_succ_cons, List.take_zero]
    simp only [run_guard (g := 41), B0, reduceIte, reduceEqDiff]
    refine guard_split (t := (!(v57.1 == v30.1))) (fun hg62 => ?_) (fun hg62 => ?_)
    · simp only [hg62, run_guard (g := 41), guard_off', run_pick, put1_some, xpick_t, run_ops_nil, run_nil, B0, reduceIte, reduceEqDiff]
      exact hN61 _ _ ⟨(Sep.m1 (Sep.dc (Sep.m2 (Sep.dc (Sep.m2 hS56))))), by rw [orT hg62]; simp only [B0, reduceIte, reduceEqDiff], zf0, zf1, rfl, rfl⟩
    · simp only [hg62, run_guard (g := 41), guard_false, run_mv, run_eqb, put1_some, xeqb_t, run_pick, xpick_f, run_ops_nil, run_nil, B0, reduceIte, reduceEqDiff]
      exact hN61 _ _ ⟨(Sep.m1 (Sep.dc (Sep.m2 (Sep.dc (Sep.m2 hS56))))), by rw [orF hg62]; simp only [B0, reduceIte, reduceEqDiff], zf0, zf1, rfl, rfl⟩
  rintro fr63 h69 ⟨hS70, f64, f65, f66, f67, f68⟩
  simp only [List.drop_succ_cons, List.drop_zero]
  simp only [run_ops_nil, f64, run_cond, B0, reduceIte, reduceEqDiff]
  refine cond_split (t := ((!(v57.1 == v30.1)) || (!(v57.2 == v30.2)))) (fun hc71 => ?_) (fun hc71 => ?_)
  · rw [iteT hc71] at hF59
    simp only [run_seq, run_reg, run_mv, run_ops_nil, run_ret, B0, reduceIte, reduceEqDiff]
    have he := some_inj hF59
    subst he
    simp only [end_ret1, B0, reduceIte, reduceEqDiff]
    exact rfl
  rw [iteF hc71] at hF59
  obtain ⟨v72, hx73, hF74⟩ := bind_some' hF59
  simp only [run_skip, x8_2, run_seq, run_reg, f67, run_mv, f65, run_call, B0, reduceIte, reduceEqDiff]
  refine call2 rfl hS70 (mapM1 snap_lst mapM0) (laws_toCallS_x (fun b hb => decide_eq_true hb) k aL_0 v72 hx73) ?_
  rintro v75 h79 ⟨_, c76, rfl, hv77, hS80⟩
  refine ⟨_, free_1 (SlF.free1 hv77), hS80, (pf_app (SlF.pf hv77 (fun _ => rfl)) pf_nil), fun h81 hS82 => ?_⟩
  have hS83 : Sep h81 (geL h.length) (c76 ++ (c37 ++ (c49 ++ ([])))) := by simpa only [List.append_assoc, List.nil_append] using hS82
  obtain ⟨v84, hx85, hF86⟩ := bind_some' hF74
  simp only [run_call, B0, reduceIte, reduceEqDiff]
  refine call1 rfl (mapM1 (SlF.snap hv38 (Sep.m1 hS83) rfl (fun _ => rfl) (fun _ => rfl)) (mapM1 (SlF.snap hv77 hS83 rfl (fun _ => rfl) (fun _ => rfl)) mapM0)) (laws_eqCallS_x
      (fun b hb => decide_eq_true hb) k v33 v72 v84 hx85) ?_
  simp only [run_un, put1_some, xnot, run_ops_nil, run_cond, B0, reduceIte, reduceEqDiff]
  refine cond_split (t := (!v84)) (fun hc87 => ?_) (fun hc87 => ?_)
  · rw [iteT hc87] at hF86
    simp only [run_seq, run_reg, run_mv, run_ops_nil, run_ret, B0, reduceIte, reduceEqDiff]
    have he := some_inj hF86
    subst he
    simp only [end_ret1, B0, reduceIte, reduceEqDiff]
    exact rfl
  rw [iteF hc87] at hF86
  obtain ⟨v88, hx89, hF90⟩ := bind_some' hF86
  simp only [run_skip, x8_1, run_seq, run_reg, f68, run_mv, f66, run_call, B0, reduceIte, reduceEqDiff]
  refine call2 rfl hS83 (mapM1 snap_lst mapM0) (laws_toIntS_x (fun b hb => decide_eq_true hb) k aOrder_1 v88 hx89) ?_
  rintro v91 h95 ⟨_, c92, rfl, hv93, hS96⟩
  refine ⟨_, free_1 (SlF.free1 hv93), hS96, (pf_app (SlF.pf hv93 (fun _ => rfl)) pf_nil), fun h97 hS98 => ?_⟩
  have hS99 : Sep h97 (geL h.length) (c92 ++ (c76 ++ (c37 ++ (c49 ++ ([]))))) := by simpa only [List.append_assoc, List.nil_append] using hS98
  obtain ⟨v100, hx101, hF102⟩ := bind_some' hF90
  simp only [run_call, B0, reduceIte, reduceEqDiff]
  refine call1 rfl (mapM1 (SlF.snap hv50 (Sep.m3 hS99) rfl (fun _ => rfl) (fun _ => rfl)) (mapM1 (SlF.snap hv93 hS99 rfl (fun _ => rfl) (fun _ => rfl)) mapM0)) (laws_eqIntS_x
      (fun b hb => decide_eq_true hb) k v45 v88 v100 hx101) ?_
  simp only [run_un, put1_some, xnot, run_ops_nil, run_cond, B0, reduceIte, reduceEqDiff]
  refine cond_split (t := (!v100)) (fun hc103 => ?_) (fun hc103 => ?_)
  · rw [iteT hc103] at hF102
    simp only [run_seq, run_reg, run_mv, run_ops_nil, run_ret, B0, reduceIte, reduceEqDiff]
    have he := some_inj hF102
    subst he
    simp only [end_ret1, B0, reduceIte, reduceEqDiff]
    exact rfl
  rw [iteF hc103] at hF102
  simp only [run_skip, run_seq, run_reg, run_mv, run_ops_nil, run_ret, B0, reduceIte, reduceEqDiff]
  have he := some_inj hF102
  subst he
  simp only [end_ret1, B0, reduceIte, reduceEqDiff]
  exact rfl
end Go.Proofs.Ytddkoiapboeemaa.X
