/- The functions' code comes to what the plain functions say (3). -/
import Derived.Test.YtddkoiapboeemaaXFH2
set_option linter.unusedVariables false
set_option linter.unusedSimpArgs false
set_option maxRecDepth 100000
namespace Go.Proofs.Ytddkoiapboeemaa.X
open Go
theorem impl_isLegal_x {W : Nat → Bool} {h : Heap} (hW : ∀ b,
    h.length ≤ b → W b = true) (l_0 : List Call) (order_1 : List Int) (r : Bool) (hF : impl_isLegal l_0 order_1 = some r) : Ret E W 58 [lst Call.cells l_0,
    lst cI order_1] h (fun v h' => cut h.length h' E.sz false 9 v = some (.bool r)) := by
  refine Ret.of (fn := x58) rfl (Run.of ?_)
  unfold impl_isLegal at hF
  have zf0 : argFr [lst Call.cells l_0, lst cI order_1] 0 = lst Call.cells l_0 := rfl
  have zf1 : argFr [lst Call.cells l_0, lst cI order_1] 1 = lst cI order_1 := rfl
  generalize argFr [lst Call.cells l_0, lst cI order_1] = fr0 at zf0 zf1 ⊢
  have hS : Sep h h.length [] := Sep.nil h
  simp only [x58, run_seq, run_reg, run_mv, run_ops_nil, x58_10, run_build, evp, put_at, put_no, ev_t, ev_c, reduceIte, Nat.reduceEqDiff, List.map_cons, List.map_nil]
  refine put1_eq (v := .agg [.int .i64 0, .int .i64 0, .int .i64 0]) rfl ?_
  simp only [run_new, put_at, put_no, ev_t, ev_c, reduceIte, Nat.reduceEqDiff, List.map_cons, List.map_nil]
  refine put2_newC hS (fun b1 h2 hS3 => ?_)
  have hS5 : Sep h2 h.length ([Blk1 b1 (List.map cI [(0 : Int), (0 : Int), (0 : Int)]).flatten 81] ++ ([])) := hS3
  simp only [run_st, put_at, put_no, ev_t, ev_c, reduceIte, Nat.reduceEqDiff, List.map_cons, List.map_nil]
  refine put2_stC (cs' := [.int .i64 0, .int .i64 0, .int .i64 0]) hS5 hW rfl rfl (Nat.le_of_ble_eq_true rfl) rfl (fun h6 hS7 => ?_)
  have hS8 : Sep h6 h.length ([Blk1 b1 (List.map cI [(0 : Int), (0 : Int), (0 : Int)]).flatten 81] ++ ([])) := hS7
  simp only [put_no, run_ops_nil, x58_9, run_seq, run_reg, zf1, run_mv, run_len, put1_some, xlen_lst, put_at, ev_t, ev_c, reduceIte, Nat.reduceEqDiff, List.map_cons, List.map_nil]
  obtain ⟨oc13, hX15, hk16⟩ := jn_some hF
  simp only [x58_8]
  refine rangeL_j (σ := (List Int)) order_1 (fun i11 x12 s65 => impl_isLegal_b1 l_0 i11 x12 s65)
      (fun s fr' h' => fr' 0 = lst Call.cells l_0 ∧ fr' 5 = .ptr b1 0 ∧ fr' 10 = lst cI order_1 ∧ Sep h' h.length ([Blk1 b1 (List.map cI s).flatten 81] ++
      ([]))) hX15 ⟨by simp only [zf0, put_at, put_no, ev_t, ev_c, reduceIte, Nat.reduceEqDiff, List.map_cons, List.map_nil], by simp only [put_at, put_no, ev_t, ev_c, reduceIte,
      Nat.reduceEqDiff, List.map_cons, List.map_nil], by simp only [put_at, put_no, ev_t, ev_c, reduceIte, Nat.reduceEqDiff, List.map_cons, List.map_nil],
      hS8⟩ (by simp only [put_at, put_no, ev_t, ev_c, reduceIte, Nat.reduceEqDiff, List.map_cons, List.map_nil]) (by simp only [put_at, put_no, ev_t, ev_c, reduceIte,
      Nat.reduceEqDiff, List.map_cons, List.map_nil]) (fun _ _ _ h => h) rfl rfl (fun _ _ _ _ h => h) (fun _ _ _ _ h => h) (fun _ _ _ _ h => h) (by decide) ?_ ?_
  · rintro i11 x12 s10 fr25 h26 hx31 ⟨f28, f29, f30, hS27⟩ f32 f33 oc14 hF17 hr18 Q19 hN20 hB24 hK21 hR22 hE23
    unfold impl_isLegal_b1 at hF17
    simp only [x58_6, run_seq, run_reg, f30, f32, run_ia, put_at, put_no, ev_t, ev_c, reduceIte, Nat.reduceEqDiff, List.map_cons, List.map_nil]
    refine put1_eq (v := .ref (cI x12) 0) (xia_lstN hx31 rfl) ?_
    simp only [run_ld, put_at, put_no, ev_t, ev_c, reduceIte, Nat.reduceEqDiff, List.map_cons, List.map_nil]
    refine put1_eq (v := .int .i64 x12) rfl ?_
    obtain ⟨x34, hx35, hF36⟩ := bind_some' hF17
    simp only [run_mv, run_ops_nil, x58_5, run_seq, run_reg, f28, run_ia, put_at, put_no, ev_t, ev_c, reduceIte, Nat.reduceEqDiff, List.map_cons, List.map_nil]
    refine put1_eq (v := .ref (Call.cells x34) 0) (xia_lst hx35 rfl) ?_
    simp only [run_ld, put_at, put_no, ev_t, ev_c, reduceIte, Nat.reduceEqDiff, List.map_cons, List.map_nil]
    refine put1_eq (v := .agg [.int .i64 x34.Client, .int .i64 x34.Object, .bool x34.Write, .int .i64 x34.Value, .int .i64 x34.Begin, .int .i64 x34.End]) rfl ?_
    simp only [run_new, put_at, put_no, ev_t, ev_c, reduceIte, Nat.reduceEqDiff, List.map_cons, List.map_nil]
    refine put2_newC hS27 (fun b37 h38 hS39 => ?_)
    simp only [run_st, put_at, put_no, ev_t, ev_c, reduceIte, Nat.reduceEqDiff, List.map_cons, List.map_nil]
    refine put2_stC (cs' := [.int .i64 x34.Client, .int .i64 x34.Object, .bool x34.Write, .int .i64 x34.Value, .int .i64 x34.Begin,
        .int .i64 x34.End]) hS39 hW rfl rfl (Nat.le_of_ble_eq_true rfl) rfl (fun h41 hS42 => ?_)
    simp only [put_no, run_ops_nil, put_at, ev_t, ev_c, reduceIte, Nat.reduceEqDiff, List.map_cons, List.map_nil]
    refine frz_stepC hS42 hW (by simp only [put_at, put_no, ev_t, ev_c, reduceIte, Nat.reduceEqDiff, List.map_cons, List.map_nil]) (fun h43 hS44 => ?_)
    simp only [run_frz_nil, x58_4, run_seq, run_reg, run_fa, put1_some, Nat.reduceAdd, Nat.zero_add, Nat.add_zero, xfa_ref, run_ld, put_at, put_no, ev_t, ev_c, reduceIte,
        Nat.reduceEqDiff, List.map_cons, List.map_nil]
    refine put1_eq (v := .bool x34.Write) rfl ?_
    simp only [run_ops_nil, x58_3, run_cond, put_at, put_no, ev_t, ev_c, reduceIte, Nat.reduceEqDiff, List.map_cons, List.map_nil]
    refine cond_split (t := x34.Write) (fun hc45 => ?_) (fun hc45 => ?_)
    · rw [iteT hc45] at hF36
      simp only [x58_1, run_reg, run_fa, put1_some, Nat.reduceAdd, Nat.zero_add, Nat.add_zero, xfa_ref, run_ld, put_at, put_no, ev_t, ev_c, reduceIte, Nat.reduceEqDiff,
          List.map_cons, List.map_nil]
      refine put1_eq (v := .int .i64 x34.Object) rfl ?_
      simp only [run_fa, put1_some, Nat.reduceAdd, Nat.zero_add, Nat.add_zero, xfa_ref, run_ld, put_at, put_no, ev_t, ev_c, reduceIte, Nat.reduceEqDiff, List.map_cons,
          List.map_nil]
      refine put1_eq (v := .int .i64 x34.Value) rfl ?_
      obtain ⟨x46, hx47, hF48⟩ := bind_some' hF36
      obtain ⟨hp49, hF50⟩ := ck_some hF48
      simp only [f29, run_iaA, put_at, put_no, ev_t, ev_c, reduceIte, Nat.reduceEqDiff, List.map_cons, List.map_nil]
      refine put2_iaA (geti_some hx47).1 hp49 ?_
      simp only [run_st, put_at, put_no, ev_t, ev_c, reduceIte, Nat.reduceEqDiff, List.map_cons, List.map_nil]
      refine put2_starr (f1 := cI) (x' := x34.Value) hS44 hW hx47 (fun _ => rfl) rfl rfl (fun h51 hS52 => ?_)
      have hx53 := geti_set (x' := x34.Value) hx47
      simp only [put_no, run_ops_nil, run_nil, put_at, ev_t, ev_c, reduceIte, Nat.reduceEqDiff, List.map_cons, List.map_nil]
      have e54 := some_inj hF50
      exact hN20 _ _ _ e54.symm ⟨by simp only [f28, put_at, put_no, ev_t, ev_c, reduceIte, Nat.reduceEqDiff, List.map_cons, List.map_nil], by simp only [f29, put_at, put_no, ev_t,
          ev_c, reduceIte, Nat.reduceEqDiff, List.map_cons, List.map_nil], by simp only [f30, put_at, put_no, ev_t, ev_c, reduceIte, Nat.reduceEqDiff, List.map_cons,
          List.map_nil], hS52⟩ (by simp only [f32, put_at, put_no, ev_t, ev_c, reduceIte, Nat.reduceEqDiff, List.map_cons, List.map_nil]) (by simp only [f33, put_at, put_no, ev_t,
          ev_c, reduceIte, Nat.reduceEqDiff, List.map_cons, List.map_nil])
    · rw [iteF hc45] at hF36
      simp only [x58_2, run_seq, run_draw, d4_fa, put1d_some, Nat.reduceAdd, Nat.zero_add, Nat.add_zero, xfa_ref, d4_ld, put_at, put_no, ev_t, ev_c, reduceIte, Nat.reduceEqDiff,
          List.map_cons, List.map_nil]
      refine put1d_eq (v := .int .i64 x34.Object) rfl ?_
      obtain ⟨x55, hx56, hF57⟩ := bind_some' hF36
      obtain ⟨hp58, hF59⟩ := ck_some hF57
      simp only [f29, d4_iaA, put_at, put_no, ev_t, ev_c, reduceIte, Nat.reduceEqDiff, List.map_cons, List.map_nil]
      refine put1d_eq (xiaA_i (geti_some hx56).1 hp58) ?_
      simp only [d4_ld, put_at, put_no, ev_t, ev_c, reduceIte, Nat.reduceEqDiff, List.map_cons, List.map_nil]
      refine put1d_eq (v := .int .i64 x55) ((arr_ld (f1 := cI) (Sep.bk _ _ _ hS44) hx56 (fun _ => rfl)).trans rfl) ?_
      simp only [d4_fa, put1d_some, Nat.reduceAdd, Nat.zero_add, Nat.add_zero, xfa_ref, d4_ld, put_at, put_no, ev_t, ev_c, reduceIte, Nat.reduceEqDiff, List.map_cons, List.map_nil]
      refine put1d_eq (v := .int .i64 x34.Value) rfl ?_
      simp only [d4_bin, put1d_some, xneq, run_draw_nil, run_cond, put_at, put_no, ev_t, ev_c, reduceIte, Nat.reduceEqDiff, List.map_cons, List.map_nil]
      refine cond_split (t := (decide (x55 ≠ x34.Value))) (fun hc60 => ?_) (fun hc60 => ?_)
      · rw [iteT hc60] at hF59
        simp only [run_seq, run_reg, run_mv, run_ops_nil, run_ret, put_at, put_no, ev_t, ev_c, reduceIte, Nat.reduceEqDiff, List.map_cons, List.map_nil]
        have e61 := some_inj hF59
        subst e61
        have ho62 := hr18 _ rfl
        have hk63 := hk16
        rw [ho62] at hk63
        dsimp only [jnO] at hk63
        apply hR22
        have he := some_inj hk63
        subst he
        simp only [end_ret1, put_at, put_no, ev_t, ev_c, reduceIte, Nat.reduceEqDiff, List.map_cons, List.map_nil]
        exact rfl
      · rw [iteF hc60] at hF59
        simp only [run_skip, run_nil, put_at, put_no, ev_t, ev_c, reduceIte, Nat.reduceEqDiff, List.map_cons, List.map_nil]
        have e64 := some_inj hF59
        exact hN20 _ _ _ e64.symm ⟨by simp only [f28, put_at, put_no, ev_t, ev_c, reduceIte, Nat.reduceEqDiff, List.map_cons, List.map_nil], by simp only [f29, put_at, put_no,
            ev_t, ev_c, reduceIte, Nat.reduceEqDiff, List.map_cons, List.map_nil], by simp only [f30, put_at, put_no, ev_t, ev_c, reduceIte, Nat.reduceEqDiff, List.map_cons,
            List.map_nil], hS44⟩ (by simp only [f32, put_at, put_no, ev_t, ev_c, reduceIte, Nat.reduceEqDiff, List.map_cons, List.map_nil]) (by simp only [f33, put_at, put_no,
            ev_t, ev_c, reduceIte, Nat.reduceEqDiff, List.map_cons, List.map_nil])
  · rintro s66 fr67 h68 rfl ⟨f70, f71, f72, hS69⟩
    dsimp only [jnO] at hk16
    unfold impl_isLegal_j1 at hk16
    simp only [run_seq, run_reg, run_mv, run_ops_nil, run_ret, put_at, put_no, ev_t, ev_c, reduceIte, Nat.reduceEqDiff, List.map_cons, List.map_nil]
    have he := some_inj hk16
    subst he
    simp only [end_ret1, put_at, put_no, ev_t, ev_c, reduceIte, Nat.reduceEqDiff, List.map_cons, List.map_nil]
    exact rfl
theorem slices_Index_int_x {W : Nat → Bool} {h : Heap} (hW : ∀ b,
    h.length ≤ b → W b = true) (s_0 : List Int) (v_1 : Int) (r : Int) (hF : slices_Index_int s_0 v_1 = some r) : Ret E W 74 [lst cI s_0,
    .int .i64 v_1] h (fun v h' => cut h.length h' E.sz false 9 v = some (.int .i64 r)) := by
  refine Ret.of (fn := x74) rfl (Run.of ?_)
  unfold slices_Index_int at hF
  have zf0 : argFr [lst cI s_0, .int .i64 v_1] 0 = lst cI s_0 := rfl
  have zf1 : argFr [lst cI s_0, .int .i64 v_1] 1 = .int .i64 v_1 := rfl
  generalize argFr [lst cI s_0, .int .i64 v_1] = fr0 at zf0 zf1 ⊢
  have hS : Sep h h.length [] := Sep.nil h
  simp only [x74, run_seq, run_reg, run_mv, run_ops_nil, x74_6, zf0, run_len, put1_some, xlen_lst, put_at, put_no, ev_t, ev_c, reduceIte, Nat.reduceEqDiff, List.map_cons,
      List.map_nil]
  obtain ⟨oc3, hX5, hk6⟩ := jn_some hF
  simp only [x74_5]
  refine rangeL_j (σ := Unit) s_0 (fun i1 x2 _ => slices_Index_int_b1 v_1 i1 x2 ) (fun s fr' h' => fr' 0 = lst cI s_0 ∧ fr' 1 = .int .i64 v_1 ∧ Sep h' h.length
      ([])) hX5 ⟨by simp only [zf0, put_at, put_no, ev_t, ev_c, reduceIte, Nat.reduceEqDiff, List.map_cons, List.map_nil], by simp only [zf1, put_at, put_no, ev_t, ev_c,
      reduceIte, Nat.reduceEqDiff, List.map_cons, List.map_nil], hS⟩ (by simp only [put_at, put_no, ev_t, ev_c, reduceIte, Nat.reduceEqDiff, List.map_cons,
      List.map_nil]) (by simp only [put_at, put_no, ev_t, ev_c, reduceIte, Nat.reduceEqDiff, List.map_cons,
      List.map_nil]) (fun _ _ _ h => h) rfl rfl (fun _ _ _ _ h => h) (fun _ _ _ _ h => h) (fun _ _ _ _ h => h) (by decide) ?_ ?_
  · rintro i1 x2 _ fr15 h16 hx20 ⟨f18, f19, hS17⟩ f21 f22 oc4 hF7 hr8 Q9 hN10 hB14 hK11 hR12 hE13
    unfold slices_Index_int_b1 at hF7
    simp only [x74_3, run_seq, run_reg, f21, run_mv, run_ops_nil, x74_2, f19, f18, run_ia, put_at, put_no, ev_t, ev_c, reduceIte, Nat.reduceEqDiff, List.map_cons, List.map_nil]
    refine put1_eq (v := .ref (cI x2) 0) (xia_lstN hx20 rfl) ?_
    simp only [run_ld, put_at, put_no, ev_t, ev_c, reduceIte, Nat.reduceEqDiff, List.map_cons, List.map_nil]
    refine put1_eq (v := .int .i64 x2) rfl ?_
    simp only [run_bin, put1_some, xeql, run_ops_nil, x74_1, run_cond, put_at, put_no, ev_t, ev_c, reduceIte, Nat.reduceEqDiff, List.map_cons, List.map_nil]
    refine cond_split (t := (decide (v_1 = x2))) (fun hc23 => ?_) (fun hc23 => ?_)
    · rw [iteT hc23] at hF7
      simp only [run_seq, run_reg, run_mv, run_ops_nil, run_ret, put_at, put_no, ev_t, ev_c, reduceIte, Nat.reduceEqDiff, List.map_cons, List.map_nil]
      have e24 := some_inj hF7
      subst e24
      have ho25 := hr8 _ rfl
      have hk26 := hk6
      rw [ho25] at hk26
      dsimp only [jnO] at hk26
      apply hR12
      have he := some_inj hk26
      subst he
      simp only [end_ret1, put_at, put_no, ev_t, ev_c, reduceIte, Nat.reduceEqDiff, List.map_cons, List.map_nil]
      exact rfl
    · rw [iteF hc23] at hF7
      simp only [run_skip, run_nil, put_at, put_no, ev_t, ev_c, reduceIte, Nat.reduceEqDiff, List.map_cons, List.map_nil]
      have e27 := some_inj hF7
      exact hN10 _ _ _ e27.symm ⟨by simp only [f18, put_at, put_no, ev_t, ev_c, reduceIte, Nat.reduceEqDiff, List.map_cons, List.map_nil], by simp only [f19, put_at, put_no, ev_t,
          ev_c, reduceIte, Nat.reduceEqDiff, List.map_cons, List.map_nil], hS17⟩ (by simp only [f21, put_at, put_no, ev_t, ev_c, reduceIte, Nat.reduceEqDiff, List.map_cons,
          List.map_nil]) (by simp only [f22, put_at, put_no, ev_t, ev_c, reduceIte, Nat.reduceEqDiff, List.map_cons, List.map_nil])
  · rintro _ fr29 h30 rfl ⟨f32, f33, hS31⟩
    dsimp only [jnO] at hk6
    unfold slices_Index_int_j1 at hk6
    simp only [run_seq, run_reg, run_mv, run_ops_nil, run_ret, put_at, put_no, ev_t, ev_c, reduceIte, Nat.reduceEqDiff, List.map_cons, List.map_nil]
    have he := some_inj hk6
    subst he
    simp only [end_ret1, put_at, put_no, ev_t, ev_c, reduceIte, Nat.reduceEqDiff, List.map_cons, List.map_nil]
    exact rfl
theorem slices_Contains_int_x {W : Nat → Bool} {h : Heap} (hW : ∀ b,
    h.length ≤ b → W b = true) (s_0 : List Int) (v_1 : Int) (r : Bool) (hF : slices_Contains_int s_0 v_1 = some r) : Ret E W 68 [lst cI s_0,
    .int .i64 v_1] h (fun v h' => cut h.length h' E.sz false 9 v = some (.bool r)) := by
  refine Ret.of (fn := x68) rfl (Run.of ?_)
  unfold slices_Contains_int at hF
  have zf0 : argFr [lst cI s_0, .int .i64 v_1] 0 = lst cI s_0 := rfl
  have zf1 : argFr [lst cI s_0, .int .i64 v_1] 1 = .int .i64 v_1 := rfl
  generalize argFr [lst cI s_0, .int .i64 v_1] = fr0 at zf0 zf1 ⊢
  have hS : Sep h h.length [] := Sep.nil h
  obtain ⟨v1, hx2, hF3⟩ := bind_some' hF
  simp only [x68, run_seq, run_reg, run_mv, run_ops_nil, x68_1, zf0, zf1, run_call, put_at, put_no, ev_t, ev_c, reduceIte, Nat.reduceEqDiff, List.map_cons, List.map_nil]
  refine call1 rfl (mapM1 snap_lst (mapM1 snap_int mapM0)) (slices_Index_int_x (fun b hb => decide_eq_true hb) s_0 v_1 v1 hx2) ?_
  simp only [run_bin, put1_some, xgeq, run_mv, run_ops_nil, run_ret, put_at, put_no, ev_t, ev_c, reduceIte, Nat.reduceEqDiff, List.map_cons, List.map_nil]
  have he := some_inj hF3
  subst he
  simp only [end_ret1, put_at, put_no, ev_t, ev_c, reduceIte, Nat.reduceEqDiff, List.map_cons, List.map_nil]
  exact rfl
theorem impl_orderFor_1_rec_x (rec : (List Int) → (List Call) → (Int → Int → Option Bool) → Option ((List Int) × Bool))
    (hrec : ∀ {W : Nat → Bool} {h : Heap} {lo : Nat} {S0 : List Obj} (hW : ∀ b,
    lo ≤ b → W b = true) (pv0 : XV) (pc0 : List Obj) (order_0 : List Int) (ph0 : SlF cI 1 3 pv0 order_0 pc0) (cap_0 : List Call) {gc1 : Nat} {capsc1 : List XV}
    (hmc1 : E.mode gc1 = 1) (cap_1 : Int → Int → Option Bool) (hfc1 : ∀ (W : Nat → Bool) (h : Heap), (∀ b, h.length ≤ b → W b = true) → ∀ a0 a1 r,
    cap_1 a0 a1 = some r → Ret E W gc1 ([.int .i64 a0,
    .int .i64 a1] ++ capsc1) h (fun v h' => cut h.length h' E.sz false 9 v = some (.bool r))) (pbs : Nat) (r : (List Int) × Bool) (hF : rec order_0 cap_0 cap_1 = some r)
    (hS : Sep h lo (pc0 ++ ([Blk1 pbs [.fn 67 [.ref ((cL Call.cells) cap_0) 0, .ref [.fn gc1 capsc1] 0, .ptr pbs 0]] 79] ++ (S0)))), Ret E W 67 [pv0,
    .ref ((cL Call.cells) cap_0) 0, .ref [.fn gc1 capsc1] 0, .ptr pbs 0] h (fun v h' => ∃ rv0 rc0, v = .tup [rv0,
    .bool r.2] ∧ SlF cI 1 3 rv0 r.1 rc0 ∧ Sep h' lo (rc0 ++ ([Blk1 pbs [.fn 67 [.ref ((cL Call.cells) cap_0) 0, .ref [.fn gc1 capsc1] 0,
    .ptr pbs 0]] 79] ++ (S0))))) {W : Nat → Bool} {h : Heap} {lo : Nat} {S0 : List Obj} (hW : ∀ b,
    lo ≤ b → W b = true) (pv0 : XV) (pc0 : List Obj) (order_0 : List Int) (ph0 : SlF cI 1 3 pv0 order_0 pc0) (cap_0 : List Call) {gc1 : Nat} {capsc1 : List XV}
    (hmc1 : E.mode gc1 = 1) (cap_1 : Int → Int → Option Bool) (hfc1 : ∀ (W : Nat → Bool) (h : Heap), (∀ b, h.length ≤ b → W b = true) → ∀ a0 a1 r,
    cap_1 a0 a1 = some r → Ret E W gc1 ([.int .i64 a0,
    .int .i64 a1] ++ capsc1) h (fun v h' => cut h.length h' E.sz false 9 v = some (.bool r))) (pbs : Nat) (r : (List Int) × Bool)
    (hF : impl_orderFor_1_rec rec order_0 cap_0 cap_1 = some r) (hS : Sep h lo (pc0 ++ ([Blk1 pbs [.fn 67 [.ref ((cL Call.cells) cap_0) 0, .ref [.fn gc1 capsc1] 0,
    .ptr pbs 0]] 79] ++ (S0)))) : Ret E W 67 [pv0, .ref ((cL Call.cells) cap_0) 0, .ref [.fn gc1 capsc1] 0, .ptr pbs 0] h (fun v h' => ∃ rv0 rc0, v = .tup [rv0,
    .bool r.2] ∧ SlF cI 1 3 rv0 r.1 rc0 ∧ Sep h' lo (rc0 ++ ([Blk1 pbs [.fn 67 [.ref ((cL Call.cells) cap_0) 0, .ref [.fn gc1 capsc1] 0, .ptr pbs 0]] 79] ++ (S0)))) := by
  refine Ret.of (fn := x67) rfl (Run.of ?_)
  unfold impl_orderFor_1_rec at hF
  have zf0 : argFr [pv0, .ref ((cL Call.cells) cap_0) 0, .ref [.fn gc1 capsc1] 0, .ptr pbs 0] 0 = pv0 := rfl
  have zf1 : argFr [pv0, .ref ((cL Call.cells) cap_0) 0, .ref [.fn gc1 capsc1] 0, .ptr pbs 0] 1 = .ref ((cL Call.cells) cap_0) 0 := rfl
  have zf2 : argFr [pv0, .ref ((cL Call.cells) cap_0) 0, .ref [.fn gc1 capsc1] 0, .ptr pbs 0] 2 = .ref [.fn gc1 capsc1] 0 := rfl
  have zf3 : argFr [pv0, .ref ((cL Call.cells) cap_0) 0, .ref [.fn gc1 capsc1] 0, .ptr pbs 0] 3 = .ptr pbs 0 := rfl
  generalize argFr [pv0, .ref ((cL Call.cells) cap_0) 0, .ref [.fn gc1 capsc1] 0, .ptr pbs 0] = fr0 at zf0 zf1 zf2 zf3 ⊢
  simp only [x67, run_seq, run_reg, run_mv, run_ops_nil, x67_11, zf0, run_len, put1_some, SlF.plen ph0, zf1, run_ld, put_at, put_no, ev_t, ev_c, reduceIte, Nat.reduceEqDiff,
      List.map_cons, List.map_nil]
  refine put1_eq (v := lst Call.cells cap_0) rfl ?_
  simp only [run_len, put1_some, xlen_lst, run_bin, xeql, run_ops_nil, x67_1, run_cond, put_at, put_no, ev_t, ev_c, reduceIte, Nat.reduceEqDiff, List.map_cons, List.map_nil]
  refine cond_split (t := (decide ((List.length order_0 : Int) = (List.length cap_0 : Int)))) (fun hc1 => ?_) (fun hc1 => ?_)
  · rw [iteT hc1] at hF
    simp only [run_seq, run_reg, zf0, run_mv, run_ops_nil, run_ret, put_at, put_no, ev_t, ev_c, reduceIte, Nat.reduceEqDiff, List.map_cons, List.map_nil]
    have he := some_inj hF
    subst he
    simp only [end_ret2, put_at, put_no, ev_t, ev_c, reduceIte, Nat.reduceEqDiff, List.map_cons, List.map_nil]
    exact ⟨pv0, pc0, by first | trivial | rfl, ph0, (Sep.m1 (Sep.m1 hS))⟩
  · rw [iteF hc1] at hF
    simp only [run_skip, x67_10, run_seq, run_reg, zf1, run_ld, put_at, put_no, ev_t, ev_c, reduceIte, Nat.reduceEqDiff, List.map_cons, List.map_nil]
    refine put1_eq (v := lst Call.cells cap_0) rfl ?_
    simp only [run_len, put1_some, xlen_lst, run_mv, run_ops_nil, put_at, put_no, ev_t, ev_c, reduceIte, Nat.reduceEqDiff, List.map_cons, List.map_nil]
    obtain ⟨oc4, hX6, hk7⟩ := jn_some hF
    simp only [x67_9]
    refine rangeN_j (σ := Unit) (fun i2 _ => impl_orderFor_1_b1 order_0 cap_0 cap_1 rec i2 ) (fun s fr' h' => fr' 0 = pv0 ∧ fr' 1 = .ref
        ((cL Call.cells) cap_0) 0 ∧ fr' 2 = .ref [.fn gc1 capsc1] 0 ∧ fr' 3 = .ptr pbs 0 ∧ Sep h' lo (pc0 ++ ([Blk1 pbs [.fn 67 [.ref ((cL Call.cells) cap_0) 0,
        .ref [.fn gc1 capsc1] 0, .ptr pbs 0]] 79] ++ (S0)))) hX6 ⟨by simp only [zf0, put_at, put_no, ev_t, ev_c, reduceIte, Nat.reduceEqDiff, List.map_cons, List.map_nil],
        by simp only [zf1, put_at, put_no, ev_t, ev_c, reduceIte, Nat.reduceEqDiff, List.map_cons, List.map_nil], by simp only [zf2, put_at, put_no, ev_t, ev_c, reduceIte,
        Nat.reduceEqDiff, List.map_cons, List.map_nil], by simp only [zf3, put_at, put_no, ev_t, ev_c, reduceIte, Nat.reduceEqDiff, List.map_cons, List.map_nil],
        (Sep.m1 (Sep.m1 hS))⟩ (by simp only [put_at, put_no, ev_t, ev_c, reduceIte, Nat.reduceEqDiff, List.map_cons, List.map_nil]) (by simp only [put_at, put_no, ev_t, ev_c,
        reduceIte, Nat.reduceEqDiff, List.map_cons, List.map_nil]) (fun _ _ _ h => h) rfl rfl (fun _ _ _ _ h => h) (fun _ _ _ _ h => h) (fun _ _ _ _ h => h) (by decide) ?_ ?_
    · rintro i2 _ fr16 h17 hx23 ⟨f19, f20, f21, f22, hS18⟩ f24 f25 oc5 hF8 hr9 Q10 hN11 hB15 hK12 hR13 hE14
      unfold impl_orderFor_1_b1 at hF8
      simp only [x67_7, run_seq, run_reg, f24, run_mv, run_ops_nil, x67_6, run_buildS, evp, put_at, put_no, ev_t, ev_c, reduceIte, Nat.reduceEqDiff, List.map_cons, List.map_nil]
      refine put2_buildSF (n := 1) (f := cI) ([] : List Int) hS18 rfl rfl (fun v26 c27 h28 hv29 hS30 => ?_)
      simp only [f19, run_mv, run_app, put_at, put_no, ev_t, ev_c, reduceIte, Nat.reduceEqDiff, List.map_cons, List.map_nil]
      obtain ⟨l32, hx33, hF34⟩ := bind_some' hF8
      refine put2_appF (f := cI) hv29 hS30 hW (fun _ => rfl) (fun _ => rfl) (SlF.first ph0 (Sep.m1 hS30) (fun _ => rfl)) hx33 (fun v35 c36 h37 hv38 hS39 => ?_)
      simp only [run_mv, run_buildS, evp, put_at, put_no, ev_t, ev_c, reduceIte, Nat.reduceEqDiff, List.map_cons, List.map_nil]
      refine put2_buildSF (n := 1) (f := cI) [(i2 : Int)] hS39 rfl rfl (fun v41 c42 h43 hv44 hS45 => ?_)
      simp only [run_app, put_at, put_no, ev_t, ev_c, reduceIte, Nat.reduceEqDiff, List.map_cons, List.map_nil]
      obtain ⟨l47, hx48, hF49⟩ := bind_some' hF34
      refine put2_appF (f := cI) hv38 (Sep.m1 hS45) hW (fun _ => rfl) (fun _ => rfl) (SlF.first hv44 hS45 (fun _ => rfl)) hx48 (fun v50 c51 h52 hv53 hS54 => ?_)
      obtain ⟨v56, hx57, hF58⟩ := bind_some' hF49
      simp only [run_mv, run_ops_nil, x67_5, run_seq, run_reg, f19, run_call, put_at, put_no, ev_t, ev_c, reduceIte, Nat.reduceEqDiff, List.map_cons, List.map_nil]
      refine call1 rfl (mapM1 (SlF.snap ph0 (Sep.m2 hS54) rfl (fun _ => rfl) (fun _ => rfl)) (mapM1 snap_int mapM0)) (slices_Contains_int_x
          (fun b hb => decide_eq_true hb) order_0 (i2 : Int) v56 hx57) ?_
      simp only [run_mv, put_at, put_no, ev_t, ev_c, reduceIte, Nat.reduceEqDiff, List.map_cons, List.map_nil]
      obtain ⟨v62, hx63, hF64⟩ := bind_some' hF58
      refine ops_j 5 (fun fr' h' => Sep h' lo (pc0 ++ ([Blk1 pbs [.fn 67 [.ref ((cL Call.cells) cap_0) 0, .ref [.fn gc1 capsc1] 0,
          .ptr pbs 0]] 79] ++ (c51 ++ (S0)))) ∧ fr' 36 = .bool v62 ∧ fr' 0 = pv0 ∧ fr' 1 = .ref
          ((cL Call.cells) cap_0) 0 ∧ fr' 2 = .ref [.fn gc1 capsc1] 0 ∧ fr' 3 = .ptr pbs 0 ∧ fr' 8 = v50 ∧ fr' 18 = .int .i64 (List.length cap_0 : Int) ∧ fr' 19 = .int .i64
          (i2 : Int)) (fun Q59 hN60 => ?_) ?_
      · simp only [List.take_succ_cons, List.take_zero]
        simp only [run_guard (g := 31), put_at, put_no, ev_t, ev_c, reduceIte, Nat.reduceEqDiff, List.map_cons, List.map_nil]
        refine guard_split (t := v56) (fun hg61 => ?_) (fun hg61 => ?_)
        · rw [iteT hg61] at hx63
          simp only [hg61, run_guard (g := 31), guard_off', run_pick, put1_some, xpick_t, run_ops_nil, run_nil, put_at, put_no, ev_t, ev_c, reduceIte, Nat.reduceEqDiff,
              List.map_cons, List.map_nil]
          have e65 := some_inj hx63
          exact hN60 _ _ ⟨(Sep.m2 (Sep.m2 (Sep.dc (Sep.m1 hS54)))), by rw [← e65]; simp only [put_at, put_no, ev_t, ev_c, reduceIte, Nat.reduceEqDiff, List.map_cons,
              List.map_nil], by simp only [f19, put_at, put_no, ev_t, ev_c, reduceIte, Nat.reduceEqDiff, List.map_cons, List.map_nil], by simp only [f20, put_at, put_no, ev_t,
              ev_c, reduceIte, Nat.reduceEqDiff, List.map_cons, List.map_nil], by simp only [f21, put_at, put_no, ev_t, ev_c, reduceIte, Nat.reduceEqDiff, List.map_cons,
              List.map_nil], by simp only [f22, put_at, put_no, ev_t, ev_c, reduceIte, Nat.reduceEqDiff, List.map_cons, List.map_nil], by simp only [put_at, put_no, ev_t, ev_c,
              reduceIte, Nat.reduceEqDiff, List.map_cons, List.map_nil], by simp only [f25, put_at, put_no, ev_t, ev_c, reduceIte, Nat.reduceEqDiff, List.map_cons, List.map_nil],
              by simp only [f24, put_at, put_no, ev_t, ev_c, reduceIte, Nat.reduceEqDiff, List.map_cons, List.map_nil]⟩
        · rw [iteF hg61] at hx63
          simp only [hg61, run_guard (g := 31), guard_false, f20, run_ld, put_at, put_no, ev_t, ev_c, reduceIte, Nat.reduceEqDiff, List.map_cons, List.map_nil]
          refine put1_eq (v := lst Call.cells cap_0) rfl ?_
          obtain ⟨v66, hx67, hF68⟩ := bind_some' hx63
          simp only [hg61, run_guard (g := 31), guard_false, run_mv, run_call, put_at, put_no, ev_t, ev_c, reduceIte, Nat.reduceEqDiff, List.map_cons, List.map_nil]
          refine call1 rfl (mapM1 snap_lst (mapM1 (SlF.snap hv53 hS54 rfl (fun _ => rfl) (fun _ => rfl)) mapM0)) (impl_isLegal_x
              (fun b hb => decide_eq_true hb) cap_0 l47 v66 hx67) ?_
          simp only [hg61, run_guard (g := 31), guard_false, run_un, put1_some, xnot, run_pick, xpick_f, run_ops_nil, run_nil, put_at, put_no, ev_t, ev_c, reduceIte,
              Nat.reduceEqDiff, List.map_cons, List.map_nil]
          have e69 := some_inj hF68
          exact hN60 _ _ ⟨(Sep.m2 (Sep.m2 (Sep.dc (Sep.m1 hS54)))), by rw [← e69]; simp only [put_at, put_no, ev_t, ev_c, reduceIte, Nat.reduceEqDiff, List.map_cons,
              List.map_nil], by simp only [f19, put_at, put_no, ev_t, ev_c, reduceIte, Nat.reduceEqDiff, List.map_cons, List.map_nil], by simp only [f20, put_at, put_no, ev_t,
              ev_c, reduceIte, Nat.reduceEqDiff, List.map_cons, List.map_nil], by simp only [f21, put_at, put_no, ev_t, ev_c, reduceIte, Nat.reduceEqDiff, List.map_cons,
              List.map_nil], by simp only [f22, put_at, put_no, ev_t, ev_c, reduceIte, Nat.reduceEqDiff, List.map_cons, List.map_nil], by simp only [put_at, put_no, ev_t, ev_c,
              reduceIte, Nat.reduceEqDiff, List.map_cons, List.map_nil], by simp only [f25, put_at, put_no, ev_t, ev_c, reduceIte, Nat.reduceEqDiff, List.map_cons, List.map_nil],
              by simp only [f24, put_at, put_no, ev_t, ev_c, reduceIte, Nat.reduceEqDiff, List.map_cons, List.map_nil]⟩
      · rintro fr70 h79 ⟨hS80, f71, f72, f73, f74, f75, f76, f77, f78⟩
        simp only [List.drop_succ_cons, List.drop_zero]
        simp only [f71, run_mv, put_at, put_no, ev_t, ev_c, reduceIte, Nat.reduceEqDiff, List.map_cons, List.map_nil]
        obtain ⟨v84, hx85, hF86⟩ := bind_some' hF64
        refine ops_j 5 (fun fr' h' => Sep h' lo (pc0 ++ ([Blk1 pbs [.fn 67 [.ref ((cL Call.cells) cap_0) 0, .ref [.fn gc1 capsc1] 0,
            .ptr pbs 0]] 79] ++ (c51 ++ (S0)))) ∧ fr' 42 = .bool v84 ∧ fr' 0 = pv0 ∧ fr' 1 = .ref
            ((cL Call.cells) cap_0) 0 ∧ fr' 2 = .ref [.fn gc1 capsc1] 0 ∧ fr' 3 = .ptr pbs 0 ∧ fr' 8 = v50 ∧ fr' 18 = .int .i64 (List.length cap_0 : Int) ∧ fr' 19 = .int .i64
            (i2 : Int)) (fun Q81 hN82 => ?_) ?_
        · simp only [List.take_succ_cons, List.take_zero]
          simp only [run_guard (g := 37), put_at, put_no, ev_t, ev_c, reduceIte, Nat.reduceEqDiff, List.map_cons, List.map_nil]
          refine guard_split (t := v62) (fun hg83 => ?_) (fun hg83 => ?_)
          · rw [iteT hg83] at hx85
            simp only [hg83, run_guard (g := 37), guard_off', run_pick, put1_some, xpick_t, run_ops_nil, run_nil, put_at, put_no, ev_t, ev_c, reduceIte, Nat.reduceEqDiff,
                List.map_cons, List.map_nil]
            have e87 := some_inj hx85
            exact hN82 _ _ ⟨(Sep.m2 (Sep.m2 (Sep.m2 hS80))), by rw [← e87]; simp only [put_at, put_no, ev_t, ev_c, reduceIte, Nat.reduceEqDiff, List.map_cons, List.map_nil],
                by simp only [f72, put_at, put_no, ev_t, ev_c, reduceIte, Nat.reduceEqDiff, List.map_cons, List.map_nil], by simp only [f73, put_at, put_no, ev_t, ev_c, reduceIte,
                Nat.reduceEqDiff, List.map_cons, List.map_nil], by simp only [f74, put_at, put_no, ev_t, ev_c, reduceIte, Nat.reduceEqDiff, List.map_cons, List.map_nil],
                by simp only [f75, put_at, put_no, ev_t, ev_c, reduceIte, Nat.reduceEqDiff, List.map_cons, List.map_nil], by simp only [f76, put_at, put_no, ev_t, ev_c, reduceIte,
                Nat.reduceEqDiff, List.map_cons, List.map_nil], by simp only [f77, put_at, put_no, ev_t, ev_c, reduceIte, Nat.reduceEqDiff, List.map_cons, List.map_nil],
                by simp only [f78, put_at, put_no, ev_t, ev_c, reduceIte, Nat.reduceEqDiff, List.map_cons, List.map_nil]⟩
          · rw [iteF hg83] at hx85
            simp only [hg83, run_guard (g := 37), guard_false, f76, run_mv, f74, run_ld, put_at, put_no, ev_t, ev_c, reduceIte, Nat.reduceEqDiff, List.map_cons, List.map_nil]
            refine put1_eq (v := .fn gc1 capsc1) rfl ?_
            obtain ⟨v88, hx89, hF90⟩ := bind_some' hx85
            simp only [hg83, run_guard (g := 37), guard_false, run_call, put_at, put_no, ev_t, ev_c, reduceIte, Nat.reduceEqDiff, List.map_cons, List.map_nil]
            refine call1 rfl (mapM1 (SlF.snap hv53 (Sep.m2 hS80) rfl (fun _ => rfl) (fun _ => rfl)) (mapM1 snap_fn mapM0)) (impl_inOrder_x (fun b hb => decide_eq_true hb) l47
                (g1 := gc1) (caps1 := capsc1) hmc1 cap_1 hfc1 v88 hx89) ?_
            simp only [hg83, run_guard (g := 37), guard_false, run_un, put1_some, xnot, run_pick, xpick_f, run_ops_nil, run_nil, put_at, put_no, ev_t, ev_c, reduceIte,
                Nat.reduceEqDiff, List.map_cons, List.map_nil]
            have e91 := some_inj hF90
            exact hN82 _ _ ⟨(Sep.m2 (Sep.m2 (Sep.m2 hS80))), by rw [← e91]; simp only [put_at, put_no, ev_t, ev_c, reduceIte, Nat.reduceEqDiff, List.map_cons, List.map_nil],
                by simp only [f72, put_at, put_no, ev_t, ev_c, reduceIte, Nat.reduceEqDiff, List.map_cons, List.map_nil], by simp only [f73, put_at, put_no, ev_t, ev_c, reduceIte,
                Nat.reduceEqDiff, List.map_cons, List.map_nil], by simp only [f74, put_at, put_no, ev_t, ev_c, reduceIte, Nat.reduceEqDiff, List.map_cons, List.map_nil],
                by simp only [f75, put_at, put_no, ev_t, ev_c, reduceIte, Nat.reduceEqDiff, List.map_cons, List.map_nil], by simp only [f76, put_at, put_no, ev_t, ev_c, reduceIte,
                Nat.reduceEqDiff, List.map_cons, List.map_nil], by simp only [f77, put_at, put_no, ev_t, ev_c, reduceIte, Nat.reduceEqDiff, List.map_cons, List.map_nil],
                by simp only [f78, put_at, put_no, ev_t, ev_c, reduceIte, Nat.reduceEqDiff, List.map_cons, List.map_nil]⟩
        · rintro fr92 h101 ⟨hS102, f93, f94, f95, f96, f97, f98, f99, f100⟩
          simp only [List.drop_succ_cons, List.drop_zero]
          simp only [run_ops_nil, f93, run_cond, put_at, put_no, ev_t, ev_c, reduceIte, Nat.reduceEqDiff, List.map_cons, List.map_nil]
          refine cond_split (t := v84) (fun hc103 => ?_) (fun hc103 => ?_)
          · rw [iteT hc103] at hF86
            simp only [run_exit, out_code, out_nil, put_at, put_no, ev_t, ev_c, reduceIte, Nat.reduceEqDiff, List.map_cons, List.map_nil]
            have e104 := some_inj hF86
            exact hB15 _ _ _ e104.symm ⟨by simp only [f94, put_at, put_no, ev_t, ev_c, reduceIte, Nat.reduceEqDiff, List.map_cons, List.map_nil], by simp only [f95, put_at,
                put_no, ev_t, ev_c, reduceIte, Nat.reduceEqDiff, List.map_cons, List.map_nil], by simp only [f96, put_at, put_no, ev_t, ev_c, reduceIte, Nat.reduceEqDiff,
                List.map_cons, List.map_nil], by simp only [f97, put_at, put_no, ev_t, ev_c, reduceIte, Nat.reduceEqDiff, List.map_cons, List.map_nil],
                (Sep.m1 (Sep.m1 (Sep.dc (Sep.m2 hS102))))⟩ (by simp only [f100, put_at, put_no, ev_t, ev_c, reduceIte, Nat.reduceEqDiff, List.map_cons,
                List.map_nil]) (by simp only [f99, put_at, put_no, ev_t, ev_c, reduceIte, Nat.reduceEqDiff, List.map_cons, List.map_nil])
          · rw [iteF hc103] at hF86
            simp only [run_skip, x67_4, run_seq, run_reg, f97, run_ld, put_at, put_no, ev_t, ev_c, reduceIte, Nat.reduceEqDiff, List.map_cons, List.map_nil]
            refine put1_eq (v := .fn 67 [.ref ((cL Call.cells) cap_0) 0, .ref [.fn gc1 capsc1] 0, .ptr pbs 0]) ((xld_b (Sep.bk _ _ _ (Sep.m1 hS102))).trans rfl) ?_
            obtain ⟨v105, hx106, hF107⟩ := bind_some' hF86
            simp only [f98, run_mv, run_call, put_at, put_no, ev_t, ev_c, reduceIte, Nat.reduceEqDiff, List.map_cons, List.map_nil]
            refine call0 rfl (hrec hW v50 c51 l47 hv53 cap_0 (gc1 := gc1) (capsc1 := capsc1) hmc1 cap_1 hfc1 pbs v105 hx106 (Sep.m2 (Sep.m1 hS102))) ?_
            rintro _ h112 ⟨v108, c109, rfl, hv110, hS113⟩
            simp only [run_mv, run_ext, put1_some, xext_0, xext_1, run_ops_nil, x67_3, run_seq, run_reg, x67_2, run_cond, put_at, put_no, ev_t, ev_c, reduceIte, Nat.reduceEqDiff,
                List.map_cons, List.map_nil]
            refine cond_split (t := v105.2) (fun hc114 => ?_) (fun hc114 => ?_)
            · rw [iteT hc114] at hF107
              simp only [run_seq, run_reg, run_mv, run_ops_nil, run_ret, put_at, put_no, ev_t, ev_c, reduceIte, Nat.reduceEqDiff, List.map_cons, List.map_nil]
              have e115 := some_inj hF107
              subst e115
              have ho116 := hr9 _ rfl
              have hk117 := hk7
              rw [ho116] at hk117
              dsimp only [jnO] at hk117
              apply hR13
              have he := some_inj hk117
              subst he
              simp only [end_ret2, put_at, put_no, ev_t, ev_c, reduceIte, Nat.reduceEqDiff, List.map_cons, List.map_nil]
              exact ⟨v108, c109, by first | trivial | rfl, hv110, (Sep.m1 (Sep.m1 (Sep.dc (Sep.m2 hS113))))⟩
            · rw [iteF hc114] at hF107
              simp only [run_skip, run_nil, put_at, put_no, ev_t, ev_c, reduceIte, Nat.reduceEqDiff, List.map_cons, List.map_nil]
              have e118 := some_inj hF107
              exact hN11 _ _ _ e118.symm ⟨by simp only [f94, put_at, put_no, ev_t, ev_c, reduceIte, Nat.reduceEqDiff, List.map_cons, List.map_nil], by simp only [f95, put_at,
                  put_no, ev_t, ev_c, reduceIte, Nat.reduceEqDiff, List.map_cons, List.map_nil], by simp only [f96, put_at, put_no, ev_t, ev_c, reduceIte, Nat.reduceEqDiff,
                  List.map_cons, List.map_nil], by simp only [f97, put_at, put_no, ev_t, ev_c, reduceIte, Nat.reduceEqDiff, List.map_cons, List.map_nil],
                  (Sep.m1 (Sep.dc (hS113)))⟩ (by simp only [f100, put_at, put_no, ev_t, ev_c, reduceIte, Nat.reduceEqDiff, List.map_cons, List.map_nil]) (by simp only [f99,
                  put_at, put_no, ev_t, ev_c, reduceIte, Nat.reduceEqDiff, List.map_cons, List.map_nil])
    · rintro _ fr120 h121 rfl ⟨f123, f124, f125, f126, hS122⟩
      dsimp only [jnO] at hk7
      unfold impl_orderFor_1_j1 at hk7
      simp only [run_seq, run_reg, run_mv, run_ops_nil, run_ret, put_at, put_no, ev_t, ev_c, reduceIte, Nat.reduceEqDiff, List.map_cons, List.map_nil]
      have he := some_inj hk7
      subst he
      simp only [end_ret2, put_at, put_no, ev_t, ev_c, reduceIte, Nat.reduceEqDiff, List.map_cons, List.map_nil]
      exact ⟨.nil, [], by first | trivial | rfl, SlF.nil, (Sep.dc (hS122))⟩
theorem impl_orderFor_1_all : ∀ k : Nat, ∀ {W : Nat → Bool} {h : Heap} {lo : Nat} {S0 : List Obj} (hW : ∀ b,
    lo ≤ b → W b = true) (pv0 : XV) (pc0 : List Obj) (order_0 : List Int) (ph0 : SlF cI 1 3 pv0 order_0 pc0) (cap_0 : List Call) {gc1 : Nat} {capsc1 : List XV}
    (hmc1 : E.mode gc1 = 1) (cap_1 : Int → Int → Option Bool) (hfc1 : ∀ (W : Nat → Bool) (h : Heap), (∀ b, h.length ≤ b → W b = true) → ∀ a0 a1 r,
    cap_1 a0 a1 = some r → Ret E W gc1 ([.int .i64 a0,
    .int .i64 a1] ++ capsc1) h (fun v h' => cut h.length h' E.sz false 9 v = some (.bool r))) (pbs : Nat) (r : (List Int) × Bool)
    (hF : impl_orderFor_1 k order_0 cap_0 cap_1 = some r) (hS : Sep h lo (pc0 ++ ([Blk1 pbs [.fn 67 [.ref ((cL Call.cells) cap_0) 0, .ref [.fn gc1 capsc1] 0,
    .ptr pbs 0]] 79] ++ (S0)))), Ret E W 67 [pv0, .ref ((cL Call.cells) cap_0) 0, .ref [.fn gc1 capsc1] 0, .ptr pbs 0] h (fun v h' => ∃ rv0 rc0, v = .tup [rv0,
    .bool r.2] ∧ SlF cI 1 3 rv0 r.1 rc0 ∧ Sep h' lo (rc0 ++ ([Blk1 pbs [.fn 67 [.ref ((cL Call.cells) cap_0) 0, .ref [.fn gc1 capsc1] 0, .ptr pbs 0]] 79] ++ (S0)))) := by
  intro k
  induction k with
  | zero => intros; rename_i hF _; cases hF
  | succ k ih => exact @impl_orderFor_1_rec_x (impl_orderFor_1 k) ih
theorem impl_orderFor_1_x {W : Nat → Bool} {h : Heap} {lo : Nat} {S0 : List Obj} (hW : ∀ b,
    lo ≤ b → W b = true) (k : Nat) (pv0 : XV) (pc0 : List Obj) (order_0 : List Int) (ph0 : SlF cI 1 3 pv0 order_0 pc0) (cap_0 : List Call) {gc1 : Nat} {capsc1 : List XV}
    (hmc1 : E.mode gc1 = 1) (cap_1 : Int → Int → Option Bool) (hfc1 : ∀ (W : Nat → Bool) (h : Heap), (∀ b, h.length ≤ b → W b = true) → ∀ a0 a1 r,
    cap_1 a0 a1 = some r → Ret E W gc1 ([.int .i64 a0,
    .int .i64 a1] ++ capsc1) h (fun v h' => cut h.length h' E.sz false 9 v = some (.bool r))) (pbs : Nat) (r : (List Int) × Bool)
    (hF : impl_orderFor_1 k order_0 cap_0 cap_1 = some r) (hS : Sep h lo (pc0 ++ ([Blk1 pbs [.fn 67 [.ref ((cL Call.cells) cap_0) 0, .ref [.fn gc1 capsc1] 0,
    .ptr pbs 0]] 79] ++ (S0)))) : Ret E W 67 [pv0, .ref ((cL Call.cells) cap_0) 0, .ref [.fn gc1 capsc1] 0, .ptr pbs 0] h (fun v h' => ∃ rv0 rc0, v = .tup [rv0,
    .bool r.2] ∧ SlF cI 1 3 rv0 r.1 rc0 ∧ Sep h' lo (rc0 ++ ([Blk1 pbs [.fn 67 [.ref ((cL Call.cells) cap_0) 0, .ref [.fn gc1 capsc1] 0,
    .ptr pbs 0]] 79] ++ (S0)))) := impl_orderFor_1_all k hW pv0 pc0 order_0 ph0 cap_0 hmc1 cap_1 hfc1 pbs r hF hS
theorem impl_orderFor_x {W : Nat → Bool} {h : Heap} (hW : ∀ b,
    h.length ≤ b → W b = true) (k : Nat) (l_0 : List Call) {g1 : Nat} {caps1 : List XV} (hm1 : E.mode g1 = 1) (may_1 : Int → Int → Option Bool) (hf1 : ∀ (W : Nat → Bool)
    (h : Heap), (∀ b, h.length ≤ b → W b = true) → ∀ a0 a1 r, may_1 a0 a1 = some r → Ret E W g1 ([.int .i64 a0,
    .int .i64 a1] ++ caps1) h (fun v h' => cut h.length h' E.sz false 9 v = some (.bool r))) (r : (List Int) × Bool)
    (hF : impl_orderFor k l_0 may_1 = some r) : Ret E W 49 [lst Call.cells l_0, .fn g1 caps1] h (fun v h' => ∃ rv0 rc0, v = .tup [rv0,
    .bool r.2] ∧ SlF cI 1 3 rv0 r.1 rc0 ∧ Sep h' h.length (rc0 ++ ([]))) := by
  refine Ret.of (fn := x49) rfl (Run.of ?_)
  unfold impl_orderFor at hF
  have zf0 : argFr [lst Call.cells l_0, .fn g1 caps1] 0 = lst Call.cells l_0 := rfl
  have zf1 : argFr [lst Call.cells l_0, .fn g1 caps1] 1 = .fn g1 caps1 := rfl
  generalize argFr [lst Call.cells l_0, .fn g1 caps1] = fr0 at zf0 zf1 ⊢
  have hS : Sep h h.length [] := Sep.nil h
  simp only [x49, run_seq, run_reg, run_box, zf0, put_at, put_no, ev_t, ev_c, reduceIte, Nat.reduceEqDiff, List.map_cons, List.map_nil]
  refine put2_boxC (cs := [lst Call.cells l_0]) hS rfl rfl rfl (fun b1 h2 hS3 => ?_)
  simp only [run_box, zf1, put_at, put_no, ev_t, ev_c, reduceIte, Nat.reduceEqDiff, List.map_cons, List.map_nil]
  refine put2_boxC (cs := [.fn g1 caps1]) hS3 rfl rfl rfl (fun b5 h6 hS7 => ?_)
  simp only [run_mv, run_ops_nil, put_at, put_no, ev_t, ev_c, reduceIte, Nat.reduceEqDiff, List.map_cons, List.map_nil]
  refine frz_stepC (Sep.m1 hS7) hW (by simp only [put_at, put_no, ev_t, ev_c, reduceIte, Nat.reduceEqDiff, List.map_cons, List.map_nil]) (fun h9 hS10 => ?_)
  refine frz_stepC hS10 hW (by simp only [put_at, put_no, ev_t, ev_c, reduceIte, Nat.reduceEqDiff, List.map_cons, List.map_nil]) (fun h11 hS12 => ?_)
  simp only [run_frz_nil, x49_3, run_seq, run_reg, run_new, put_at, put_no, ev_t, ev_c, reduceIte, Nat.reduceEqDiff, List.map_cons, List.map_nil]
  refine put2_newC hS12 (fun b13 h14 hS15 => ?_)
  simp only [run_ops_nil, x49_2, run_seq, run_reg, run_mkF, run_st, put_at, put_no, ev_t, ev_c, reduceIte, Nat.reduceEqDiff, List.map_cons, List.map_nil]
  refine put2_stC (cs' := [.fn 67 [.ref [lst Call.cells l_0] 0, .ref [.fn g1 caps1] 0, .ptr b13 0]]) hS15 hW rfl rfl (Nat.le_of_ble_eq_true rfl) rfl (fun h17 hS18 => ?_)
  simp only [put_no, run_ops_nil, x49_1, run_seq, run_reg, run_ld, put_at, ev_t, ev_c, reduceIte, Nat.reduceEqDiff, List.map_cons, List.map_nil]
  refine put1_eq (v := .fn 67 [.ref [lst Call.cells l_0] 0, .ref [.fn g1 caps1] 0, .ptr b13 0]) ((xld_b (Sep.bk _ _ _ hS18)).trans rfl) ?_
  simp only [run_buildS, evp, put_at, put_no, ev_t, ev_c, reduceIte, Nat.reduceEqDiff, List.map_cons, List.map_nil]
  refine put2_buildSF (n := 1) (f := cI) ([] : List Int) hS18 rfl rfl (fun v19 c20 h21 hv22 hS23 => ?_)
  obtain ⟨v25, hx26, hF27⟩ := bind_some' hF
  simp only [run_call, put_at, put_no, ev_t, ev_c, reduceIte, Nat.reduceEqDiff, List.map_cons, List.map_nil]
  refine call0 rfl (impl_orderFor_1_x hW k v19 c20 ([] : List Int) hv22 l_0 (gc1 := g1) (capsc1 := caps1) hm1 may_1 hf1 b13 v25 hx26 (Sep.m1 (Sep.m1 hS23))) ?_
  rintro _ h32 ⟨v28, c29, rfl, hv30, hS33⟩
  simp only [run_ext, put1_some, xext_0, xext_1, run_mv, run_ops_nil, run_ret, put_at, put_no, ev_t, ev_c, reduceIte, Nat.reduceEqDiff, List.map_cons, List.map_nil]
  have he := some_inj hF27
  subst he
  simp only [end_ret2, put_at, put_no, ev_t, ev_c, reduceIte, Nat.reduceEqDiff, List.map_cons, List.map_nil]
  exact ⟨v28, c29, by first | trivial | rfl, hv30, (Sep.dc (Sep.m1 hS33))⟩
theorem impl_byTime_1_x {W : Nat → Bool} {h : Heap} (hW : ∀ b,
    h.length ≤ b → W b = true) (a_0 : Int) (b_1 : Int) (cap_0 : List Call) (r : Bool) (hF : impl_byTime_1 a_0 b_1 cap_0 = some r) : Ret E W 69 [.int .i64 a_0, .int .i64 b_1,
    .ref ((cL Call.cells) cap_0) 0] h (fun v h' => cut h.length h' E.sz false 9 v = some (.bool r)) := by
  refine Ret.of (fn := x69) rfl (Run.of ?_)
  unfold impl_byTime_1 at hF
  have zf0 : argFr [.int .i64 a_0, .int .i64 b_1, .ref ((cL Call.cells) cap_0) 0] 0 = .int .i64 a_0 := rfl
  have zf1 : argFr [.int .i64 a_0, .int .i64 b_1, .ref ((cL Call.cells) cap_0) 0] 1 = .int .i64 b_1 := rfl
  have zf2 : argFr [.int .i64 a_0, .int .i64 b_1, .ref ((cL Call.cells) cap_0) 0] 2 = .ref ((cL Call.cells) cap_0) 0 := rfl
  generalize argFr [.int .i64 a_0, .int .i64 b_1, .ref ((cL Call.cells) cap_0) 0] = fr0 at zf0 zf1 zf2 ⊢
  have hS : Sep h h.length [] := Sep.nil h
  simp only [x69, run_seq, run_reg, run_mv, run_ops_nil, x69_1, run_draw, zf2, d4_ld, put_at, put_no, ev_t, ev_c, reduceIte, Nat.reduceEqDiff, List.map_cons, List.map_nil]
  refine put1d_eq (v := lst Call.cells cap_0) rfl ?_
  obtain ⟨x1, hx2, hF3⟩ := bind_some' hF
  simp only [zf1, d4_mv, put1d_some, d4_ia, put_at, put_no, ev_t, ev_c, reduceIte, Nat.reduceEqDiff, List.map_cons, List.map_nil]
  refine put1d_eq (v := .ref (Call.cells x1) 0) (xia_lst hx2 rfl) ?_
  simp only [d4_fa, put1d_some, Nat.reduceAdd, Nat.zero_add, Nat.add_zero, xfa_ref, d4_ld, put_at, put_no, ev_t, ev_c, reduceIte, Nat.reduceEqDiff, List.map_cons, List.map_nil]
  refine put1d_eq (v := .int .i64 x1.End) rfl ?_
  simp only [zf2, d4_ld, put_at, put_no, ev_t, ev_c, reduceIte, Nat.reduceEqDiff, List.map_cons, List.map_nil]
  refine put1d_eq (v := lst Call.cells cap_0) rfl ?_
  obtain ⟨x4, hx5, hF6⟩ := bind_some' hF3
  simp only [zf0, d4_mv, put1d_some, d4_ia, put_at, put_no, ev_t, ev_c, reduceIte, Nat.reduceEqDiff, List.map_cons, List.map_nil]
  refine put1d_eq (v := .ref (Call.cells x4) 0) (xia_lst hx5 rfl) ?_
  simp only [d4_fa, put1d_some, Nat.reduceAdd, Nat.zero_add, Nat.add_zero, xfa_ref, d4_ld, put_at, put_no, ev_t, ev_c, reduceIte, Nat.reduceEqDiff, List.map_cons, List.map_nil]
  refine put1d_eq (v := .int .i64 x4.Begin) rfl ?_
  simp only [d4_bin, put1d_some, xgtr, d4_mv, run_draw_nil, run_ret, put_at, put_no, ev_t, ev_c, reduceIte, Nat.reduceEqDiff, List.map_cons, List.map_nil]
  have he := some_inj hF6
  subst he
  simp only [end_ret1, put_at, put_no, ev_t, ev_c, reduceIte, Nat.reduceEqDiff, List.map_cons, List.map_nil]
  exact rfl
theorem impl_byTime_x {W : Nat → Bool} {h : Heap} (hW : ∀ b,
    h.length ≤ b → W b = true) (l_0 : List Call) : Ret E W 51 [lst Call.cells l_0] h (fun v h' => cut h.length h' E.sz true 9 v = some (.fn 69 [.ref [lst Call.cells l_0] 0])) := by
  refine Ret.of (fn := x51) rfl (Run.of ?_)
  have zf0 : argFr [lst Call.cells l_0] 0 = lst Call.cells l_0 := rfl
  generalize argFr [lst Call.cells l_0] = fr0 at zf0 ⊢
  have hS : Sep h h.length [] := Sep.nil h
  simp only [x51, run_seq, run_reg, run_box, zf0, put_at, put_no, ev_t, ev_c, reduceIte, Nat.reduceEqDiff, List.map_cons, List.map_nil]
  refine put2_boxC (cs := [lst Call.cells l_0]) hS rfl rfl rfl (fun b1 h2 hS3 => ?_)
  simp only [run_mv, run_ops_nil, put_at, put_no, ev_t, ev_c, reduceIte, Nat.reduceEqDiff, List.map_cons, List.map_nil]
  refine frz_stepC hS3 hW (by simp only [put_at, put_no, ev_t, ev_c, reduceIte, Nat.reduceEqDiff, List.map_cons, List.map_nil]) (fun h5 hS6 => ?_)
  simp only [run_frz_nil, run_seq, run_reg, run_mkF, run_mv, run_ops_nil, run_ret, put_at, put_no, ev_t, ev_c, reduceIte, Nat.reduceEqDiff, List.map_cons, List.map_nil]
  simp only [end_ret1, put_at, put_no, ev_t, ev_c, reduceIte, Nat.reduceEqDiff, List.map_cons, List.map_nil]
  exact (cut_fn (mapM1 (cut_refk (mapM1 (cut_lst (fun _ => rfl)) mapM0)) mapM0))
theorem impl_OrderFor_x {W : Nat → Bool} {h : Heap} (hW : ∀ b,
    h.length ≤ b → W b = true) (k : Nat) (l_0 : List Call) (r : (List Int) × Bool) (hF : impl_OrderFor k l_0 = some r) : Ret E W 23 [lst Call.cells l_0] h (fun v h' => ∃ rv0 rc0,
    v = .tup [rv0, .bool r.2] ∧ SlF cI 1 3 rv0 r.1 rc0 ∧ Sep h' h.length (rc0 ++ ([]))) := by
  refine Ret.of (fn := x23) rfl (Run.of ?_)
  unfold impl_OrderFor at hF
  have zf0 : argFr [lst Call.cells l_0] 0 = lst Call.cells l_0 := rfl
  generalize argFr [lst Call.cells l_0] = fr0 at zf0 ⊢
  have hS : Sep h h.length [] := Sep.nil h
  obtain ⟨v1, hx2, hF3⟩ := bind_some' hF
  simp only [x23, run_seq, run_reg, run_mv, run_ops_nil, x23_3, zf0, run_call, put_at, put_no, ev_t, ev_c, reduceIte, Nat.reduceEqDiff, List.map_cons, List.map_nil]
  refine call1 rfl (mapM1 snap_lst mapM0) (impl_areCalls_x (fun b hb => decide_eq_true hb) l_0 v1 hx2) ?_
  simp only [run_un, put1_some, xnot, run_ops_nil, x23_1, run_cond, put_at, put_no, ev_t, ev_c, reduceIte, Nat.reduceEqDiff, List.map_cons, List.map_nil]
  refine cond_split (t := (!v1)) (fun hc4 => ?_) (fun hc4 => ?_)
  · rw [iteT hc4] at hF3
    simp only [run_seq, run_reg, run_mv, run_ops_nil, run_ret, put_at, put_no, ev_t, ev_c, reduceIte, Nat.reduceEqDiff, List.map_cons, List.map_nil]
    have he := some_inj hF3
    subst he
    simp only [end_ret2, put_at, put_no, ev_t, ev_c, reduceIte, Nat.reduceEqDiff, List.map_cons, List.map_nil]
    exact ⟨.nil, [], by first | trivial | rfl, SlF.nil, hS⟩
  · rw [iteF hc4] at hF3
    simp only [run_skip, x23_2, run_seq, run_reg, zf0, run_mv, run_call, put_at, put_no, ev_t, ev_c, reduceIte, Nat.reduceEqDiff, List.map_cons, List.map_nil]
    refine call3 rfl (impl_byTime_x (w3 hS hW) l_0) ?_
    obtain ⟨v5, hx6, hF7⟩ := bind_some' hF3
    simp only [run_call, put_at, put_no, ev_t, ev_c, reduceIte, Nat.reduceEqDiff, List.map_cons, List.map_nil]
    refine call2 rfl hS (mapM1 snap_lst (mapM1 snap_fn mapM0)) (impl_orderFor_x (fun b hb => decide_eq_true hb) k l_0 (g1 := 69) (caps1 := [.ref [lst Call.cells l_0] 0]) rfl
        (fun a0 a1 => impl_byTime_1 a0 a1 l_0) (fun W h hW a0 a1 r hr => impl_byTime_1_x hW a0 a1 l_0 r hr) v5 hx6) ?_
    rintro _ h12 ⟨v8, c9, rfl, hv10, hS13⟩
    refine ⟨_, free_t (all_c (free2_1 (SlF.free1 hv10)) (all_c rfl all_n)), hS13, (pf_app (SlF.pf hv10 (fun _ => rfl)) pf_nil), fun h14 hS15 => ?_⟩
    have hS16 : Sep h14 h.length (c9 ++ ([])) := by simpa only [List.append_assoc, List.nil_append] using hS15
    simp only [run_ext, put1_some, xext_0, xext_1, run_mv, run_ops_nil, run_ret, put_at, put_no, ev_t, ev_c, reduceIte, Nat.reduceEqDiff, List.map_cons, List.map_nil]
    have he := some_inj hF7
    subst he
    simp only [end_ret2, put_at, put_no, ev_t, ev_c, reduceIte, Nat.reduceEqDiff, List.map_cons, List.map_nil]
    exact ⟨v8, c9, by first | trivial | rfl, hv10, hS16⟩
theorem laws_eqIntS_x {W : Nat → Bool} {h : Heap} (hW : ∀ b,
    h.length ≤ b → W b = true) (k : Nat) (a_0 : List Int) (b_1 : List Int) (r : Bool) (hF : laws_eqIntS k a_0 b_1 = some r) : Ret E W 24 [lst cI a_0,
    lst cI b_1] h (fun v h' => cut h.length h' E.sz false 9 v = some (.bool r)) := by
  refine Ret.of (fn := x24) rfl (Run.of ?_)
  unfold laws_eqIntS at hF
  have zf0 : argFr [lst cI a_0, lst cI b_1] 0 = lst cI a_0 := rfl
  have zf1 : argFr [lst cI a_0, lst cI b_1] 1 = lst cI b_1 := rfl
  generalize argFr [lst cI a_0, lst cI b_1] = fr0 at zf0 zf1 ⊢
  have hS : Sep h h.length [] := Sep.nil h
  simp only [x24, run_seq, run_reg, run_mv, run_ops_nil, x24_7, zf0, run_len, put1_some, xlen_lst, zf1, run_bin, xneq, run_cond, put_at, put_no, ev_t, ev_c, reduceIte,
      Nat.reduceEqDiff, List.map_cons, List.map_nil]
  refine cond_split (t := (decide ((List.length a_0 : Int) ≠ (List.length b_1 : Int)))) (fun hc1 => ?_) (fun hc1 => ?_)
  · rw [iteT hc1] at hF
    simp only [run_seq, run_reg, run_mv, run_ops_nil, run_ret, put_at, put_no, ev_t, ev_c, reduceIte, Nat.reduceEqDiff, List.map_cons, List.map_nil]
    have he := some_inj hF
    subst he
    simp only [end_ret1, put_at, put_no, ev_t, ev_c, reduceIte, Nat.reduceEqDiff, List.map_cons, List.map_nil]
    exact rfl
  · rw [iteF hc1] at hF
    simp only [run_skip, x24_6, run_seq, run_reg, run_mv, run_ops_nil, put_at, put_no, ev_t, ev_c, reduceIte, Nat.reduceEqDiff, List.map_cons, List.map_nil]
    obtain ⟨oc6, hX8, hk9⟩ := jn_some hF
    simp only [x24_5]
    refine loopF_j (σ := Int) (fun s38 => laws_eqIntS_b1 a_0 b_1 s38) (fun s fr' h' => fr' 0 = lst cI a_0 ∧ fr' 1 = lst cI b_1 ∧ fr' 5 = .int .i64 s ∧ Sep h' h.length
        ([])) hX8 ⟨by simp only [zf0, put_at, put_no, ev_t, ev_c, reduceIte, Nat.reduceEqDiff, List.map_cons, List.map_nil], by simp only [zf1, put_at, put_no, ev_t, ev_c,
        reduceIte, Nat.reduceEqDiff, List.map_cons, List.map_nil], by simp only [put_at, put_no, ev_t, ev_c, reduceIte, Nat.reduceEqDiff, List.map_cons, List.map_nil],
        hS⟩ (fun _ _ _ h => h) ?_ ?_
    · rintro s3 fr18 h19 ⟨f21, f22, f23, hS20⟩ oc7 hF10 hr11 Q12 hN13 hK14 hR15 hE16
      unfold laws_eqIntS_b1 at hF10
      simp only [x24_3, run_seq, run_reg, f23, run_mv, f21, run_len, put1_some, xlen_lst, run_bin, xlss, run_ops_nil, run_cond, put_at, put_no, ev_t, ev_c, reduceIte,
          Nat.reduceEqDiff, List.map_cons, List.map_nil]
      refine cond_split (t := (decide (s3 < (List.length a_0 : Int)))) (fun hc25 => ?_) (fun hc25 => ?_)
      · rw [iteT hc25] at hF10
        obtain ⟨x26, hx27, hF28⟩ := bind_some' hF10
        simp only [run_skip, x24_2, run_seq, run_block, x24_1, run_draw, f21, d4_mv, put1d_some, f23, d4_ia, put_at, put_no, ev_t, ev_c, reduceIte, Nat.reduceEqDiff,
            List.map_cons, List.map_nil]
        refine put1d_eq (v := .ref (cI x26) 0) (xia_lst hx27 rfl) ?_
        simp only [d4_ld, put_at, put_no, ev_t, ev_c, reduceIte, Nat.reduceEqDiff, List.map_cons, List.map_nil]
        refine put1d_eq (v := .int .i64 x26) rfl ?_
        obtain ⟨x29, hx30, hF31⟩ := bind_some' hF28
        simp only [f22, d4_mv, put1d_some, f23, d4_ia, put_at, put_no, ev_t, ev_c, reduceIte, Nat.reduceEqDiff, List.map_cons, List.map_nil]
        refine put1d_eq (v := .ref (cI x29) 0) (xia_lst hx30 rfl) ?_
        simp only [d4_ld, put_at, put_no, ev_t, ev_c, reduceIte, Nat.reduceEqDiff, List.map_cons, List.map_nil]
        refine put1d_eq (v := .int .i64 x29) rfl ?_
        simp only [d4_bin, put1d_some, xneq, run_draw_nil, run_cond, put_at, put_no, ev_t, ev_c, reduceIte, Nat.reduceEqDiff, List.map_cons, List.map_nil]
        refine cond_split (t := (decide (x26 ≠ x29))) (fun hc32 => ?_) (fun hc32 => ?_)
        · rw [iteT hc32] at hF31
          simp only [run_seq, run_reg, run_mv, run_ops_nil, run_ret, put_at, put_no, ev_t, ev_c, reduceIte, Nat.reduceEqDiff, List.map_cons, List.map_nil]
          have e33 := some_inj hF31
          subst e33
          have ho34 := hr11 _ rfl
          have hk35 := hk9
          rw [ho34] at hk35
          dsimp only [jnO] at hk35
          apply hR15
          have he := some_inj hk35
          subst he
          simp only [end_ret1, put_at, put_no, ev_t, ev_c, reduceIte, Nat.reduceEqDiff, List.map_cons, List.map_nil]
          exact rfl
        · rw [iteF hc32] at hF31
          simp only [run_skip, run_blk, run_reg, f23, run_mv, run_bin, put1_some, xadd, run_ops_nil, run_nil, put_at, put_no, ev_t, ev_c, reduceIte, Nat.reduceEqDiff,
              List.map_cons, List.map_nil]
          have e36 := some_inj hF31
          exact hN13 _ _ _ e36.symm ⟨by simp only [f21, put_at, put_no, ev_t, ev_c, reduceIte, Nat.reduceEqDiff, List.map_cons, List.map_nil], by simp only [f22, put_at, put_no,
              ev_t, ev_c, reduceIte, Nat.reduceEqDiff, List.map_cons, List.map_nil], by simp only [put_at, put_no, ev_t, ev_c, reduceIte, Nat.reduceEqDiff, List.map_cons,
              List.map_nil], hS20⟩
      · rw [iteF hc25] at hF10
        simp only [run_exit, out_code, out_nil, put_at, put_no, ev_t, ev_c, reduceIte, Nat.reduceEqDiff, List.map_cons, List.map_nil]
        have e37 := some_inj hF10
        exact hK14 _ _ _ e37.symm ⟨by simp only [f21, put_at, put_no, ev_t, ev_c, reduceIte, Nat.reduceEqDiff, List.map_cons, List.map_nil], by simp only [f22, put_at, put_no,
            ev_t, ev_c, reduceIte, Nat.reduceEqDiff, List.map_cons, List.map_nil], by simp only [f23, put_at, put_no, ev_t, ev_c, reduceIte, Nat.reduceEqDiff, List.map_cons,
            List.map_nil], hS20⟩
    · rintro s39 fr40 h41 rfl ⟨f43, f44, f45, hS42⟩
      dsimp only [jnO] at hk9
      unfold laws_eqIntS_j1 at hk9
      simp only [run_seq, run_reg, run_mv, run_ops_nil, run_ret, put_at, put_no, ev_t, ev_c, reduceIte, Nat.reduceEqDiff, List.map_cons, List.map_nil]
      have he := some_inj hk9
      subst he
      simp only [end_ret1, put_at, put_no, ev_t, ev_c, reduceIte, Nat.reduceEqDiff, List.map_cons, List.map_nil]
      exact rfl
theorem laws_markIntS_x {W : Nat → Bool} {h : Heap} {lo : Nat} {S0 : List Obj} (hW : ∀ b,
    lo ≤ b → W b = true) (k : Nat) (pv0 : XV) (pc0 : List Obj) (a_0 : List Int) (ph0 : SlF cI 1 3 pv0 a_0 pc0) (k_1 : Int) (r : Int × (List Int))
    (hF : laws_markIntS k a_0 k_1 = some r) (hS : Sep h lo (pc0 ++ (S0))) : Ret E W 25 [pv0, .int .i64 k_1] h (fun v h' => ∃ ic0,
    v = .int .i64 r.1 ∧ SlF cI 1 3 pv0 r.2 ic0 ∧ Sep h' lo (ic0 ++ (S0))) := by
  refine Ret.of (fn := x25) rfl (Run.of ?_)
  unfold laws_markIntS at hF
  have zf0 : argFr [pv0, .int .i64 k_1] 0 = pv0 := rfl
  have zf1 : argFr [pv0, .int .i64 k_1] 1 = .int .i64 k_1 := rfl
  generalize argFr [pv0, .int .i64 k_1] = fr0 at zf0 zf1 ⊢
  simp only [x25, run_seq, run_reg, run_mv, run_ops_nil, x25_6, put_at, put_no, ev_t, ev_c, reduceIte, Nat.reduceEqDiff, List.map_cons, List.map_nil]
  obtain ⟨oc13, hX15, hk16⟩ := jn_some hF
  simp only [x25_5]
  refine loopF_j (σ := Int × Int × (List Int)) (fun s45 => laws_markIntS_b1 s45.1 s45.2.1 s45.2.2) (fun s fr' h' => ∃ c9,
      fr' 0 = pv0 ∧ fr' 1 = .int .i64 s.1 ∧ fr' 5 = .int .i64 s.2.1 ∧ SlF cI 1 3 pv0 s.2.2 c9 ∧ Sep h' lo (c9 ++ (S0))) hX15 ⟨pc0, by simp only [zf0, put_at, put_no, ev_t, ev_c,
      reduceIte, Nat.reduceEqDiff, List.map_cons, List.map_nil], by simp only [zf1, put_at, put_no, ev_t, ev_c, reduceIte, Nat.reduceEqDiff, List.map_cons, List.map_nil],
      by simp only [put_at, put_no, ev_t, ev_c, reduceIte, Nat.reduceEqDiff, List.map_cons, List.map_nil], ph0, hS⟩ (fun _ _ _ h => h) ?_ ?_
  · rintro ⟨s6, s7, s8⟩ fr25 h26 ⟨c9, f28, f29, f30, hv10, hS27⟩ oc14 hF17 hr18 Q19 hN20 hK21 hR22 hE23
    dsimp only at *
    unfold laws_markIntS_b1 at hF17
    simp only [x25_3, run_seq, run_reg, f30, run_mv, f28, run_len, put1_some, SlF.plen hv10, run_bin, xlss, run_ops_nil, run_cond, put_at, put_no, ev_t, ev_c, reduceIte,
        Nat.reduceEqDiff, List.map_cons, List.map_nil]
    refine cond_split (t := (decide (s7 < (List.length s8 : Int)))) (fun hc32 => ?_) (fun hc32 => ?_)
    · rw [iteT hc32] at hF17
      obtain ⟨x33, hx34, hF35⟩ := bind_some' hF17
      simp only [run_skip, x25_2, run_seq, run_block, x25_1, run_reg, f28, run_mv, f30, f29, run_ia, put_at, put_no, ev_t, ev_c, reduceIte, Nat.reduceEqDiff, List.map_cons,
          List.map_nil]
      obtain ⟨b36, hb37⟩ := SlF.isrow hv10 (geti_ne hx34)
      refine put1_eq (SlF.ia hv10 hb37 hx34) ?_
      simp only [run_st, put_at, put_no, ev_t, ev_c, reduceIte, Nat.reduceEqDiff, List.map_cons, List.map_nil]
      refine put2_stF (f := cI) (x' := s6) (o := 0) hv10 hS27 hW hb37 hx34 (fun _ => rfl) rfl rfl (Nat.le_of_ble_eq_true rfl) rfl (fun c40 h38 hv41 hS39 => ?_)
      have hx42 := geti_set (x' := s6) hx34
      simp only [put_no, run_ops_nil, run_reg, f29, run_mv, run_bin, put1_some, xadd, run_blk, f30, run_nil, put_at, ev_t, ev_c, reduceIte, Nat.reduceEqDiff, List.map_cons,
          List.map_nil]
      have e43 := some_inj hF35
      exact hN20 _ _ _ e43.symm ⟨c40, by simp only [f28, put_at, put_no, ev_t, ev_c, reduceIte, Nat.reduceEqDiff, List.map_cons, List.map_nil], by simp only [put_at, put_no, ev_t,
          ev_c, reduceIte, Nat.reduceEqDiff, List.map_cons, List.map_nil], by simp only [put_at, put_no, ev_t, ev_c, reduceIte, Nat.reduceEqDiff, List.map_cons, List.map_nil],
          hv41, hS39⟩
    · rw [iteF hc32] at hF17
      simp only [run_exit, out_code, out_nil, put_at, put_no, ev_t, ev_c, reduceIte, Nat.reduceEqDiff, List.map_cons, List.map_nil]
      have e44 := some_inj hF17
      exact hK21 _ _ _ e44.symm ⟨c9, by simp only [f28, put_at, put_no, ev_t, ev_c, reduceIte, Nat.reduceEqDiff, List.map_cons, List.map_nil], by simp only [f29, put_at, put_no,
          ev_t, ev_c, reduceIte, Nat.reduceEqDiff, List.map_cons, List.map_nil], by simp only [f30, put_at, put_no, ev_t, ev_c, reduceIte, Nat.reduceEqDiff, List.map_cons,
          List.map_nil], hv10, hS27⟩
  · rintro ⟨s46, s47, s48⟩ fr51 h52 rfl ⟨c49, f54, f55, f56, hv50, hS53⟩
    dsimp only [jnO] at hk16
    dsimp only at *
    unfold laws_markIntS_j1 at hk16
    simp only [run_seq, run_reg, f55, run_mv, run_ops_nil, run_ret, put_at, put_no, ev_t, ev_c, reduceIte, Nat.reduceEqDiff, List.map_cons, List.map_nil]
    have he := some_inj hk16
    subst he
    simp only [end_ret1, put_at, put_no, ev_t, ev_c, reduceIte, Nat.reduceEqDiff, List.map_cons, List.map_nil]
    exact ⟨c49, by first | trivial | rfl, hv50, hS53⟩
end Go.Proofs.Ytddkoiapboeemaa.X
namespace Go.Proofs.Ytddkoiapboeemaa.X
open Go
theorem laws_heldIntS_x {W : Nat → Bool} {h : Heap} (hW : ∀ b,
    h.length ≤ b → W b = true) (k : Nat) (a_0 : List Int) (k_1 : Int) (r : Int) (hF : laws_heldIntS k a_0 k_1 = some r) : Ret E W 26 [lst cI a_0,
    .int .i64 k_1] h (fun v h' => cut h.length h' E.sz false 9 v = some (.int .i64 r)) := by
  refine Ret.of (fn := x26) rfl (Run.of ?_)
  unfold laws_heldIntS at hF
  have zf0 : argFr [lst cI a_0, .int .i64 k_1] 0 = lst cI a_0 := rfl
  have zf1 : argFr [lst cI a_0, .int .i64 k_1] 1 = .int .i64 k_1 := rfl
  generalize argFr [lst cI a_0, .int .i64 k_1] = fr0 at zf0 zf1 ⊢
  have hS : Sep h h.length [] := Sep.nil h
  simp only [x26, run_seq, run_reg, run_mv, run_ops_nil, x26_6, put_at, put_no, ev_t, ev_c, reduceIte, Nat.reduceEqDiff, List.map_cons, List.map_nil]
  obtain ⟨oc7, hX9, hk10⟩ := jn_some hF
  simp only [x26_5]
  refine loopF_j (σ := Int × Int) (fun s36 => laws_heldIntS_b1 a_0 s36.1 s36.2)
      (fun s fr' h' => fr' 0 = lst cI a_0 ∧ fr' 1 = .int .i64 s.1 ∧ fr' 5 = .int .i64 s.2 ∧ Sep h' h.length ([])) hX9 ⟨by simp only [zf0, put_at, put_no, ev_t, ev_c, reduceIte,
      Nat.reduceEqDiff, List.map_cons, List.map_nil], by simp only [zf1, put_at, put_no, ev_t, ev_c, reduceIte, Nat.reduceEqDiff, List.map_cons, List.map_nil],
      by simp only [put_at, put_no, ev_t, ev_c, reduceIte, Nat.reduceEqDiff, List.map_cons, List.map_nil], hS⟩ (fun _ _ _ h => h) ?_ ?_
  · rintro ⟨s3, s4⟩ fr19 h20 ⟨f22, f23, f24, hS21⟩ oc8 hF11 hr12 Q13 hN14 hK15 hR16 hE17
    dsimp only at *
    unfold laws_heldIntS_b1 at hF11
    simp only [x26_3, run_seq, run_reg, f24, run_mv, f22, run_len, put1_some, xlen_lst, run_bin, xlss, run_ops_nil, run_cond, put_at, put_no, ev_t, ev_c, reduceIte,
        Nat.reduceEqDiff, List.map_cons, List.map_nil]
    refine cond_split (t := (decide (s4 < (List.length a_0 : Int)))) (fun hc26 => ?_) (fun hc26 => ?_)
    · rw [iteT hc26] at hF11
      obtain ⟨x27, hx28, hF29⟩ := bind_some' hF11
      simp only [run_skip, x26_2, run_seq, run_block, x26_1, run_reg, f22, run_mv, f24, run_ia, put_at, put_no, ev_t, ev_c, reduceIte, Nat.reduceEqDiff, List.map_cons,
          List.map_nil]
      refine put1_eq (v := .ref (cI x27) 0) (xia_lst hx28 rfl) ?_
      simp only [run_ld, put_at, put_no, ev_t, ev_c, reduceIte, Nat.reduceEqDiff, List.map_cons, List.map_nil]
      refine put1_eq (v := .int .i64 x27) rfl ?_
      simp only [f23, run_mv, run_bin, put1_some, xneq, run_ops_nil, run_cond, put_at, put_no, ev_t, ev_c, reduceIte, Nat.reduceEqDiff, List.map_cons, List.map_nil]
      refine cond_split (t := (decide (x27 ≠ s3))) (fun hc30 => ?_) (fun hc30 => ?_)
      · rw [iteT hc30] at hF29
        simp only [run_seq, run_reg, run_mv, run_ops_nil, run_ret, put_at, put_no, ev_t, ev_c, reduceIte, Nat.reduceEqDiff, List.map_cons, List.map_nil]
        have e31 := some_inj hF29
        subst e31
        have ho32 := hr12 _ rfl
        have hk33 := hk10
        rw [ho32] at hk33
        dsimp only [jnO] at hk33
        apply hR16
        have he := some_inj hk33
        subst he
        simp only [end_ret1, put_at, put_no, ev_t, ev_c, reduceIte, Nat.reduceEqDiff, List.map_cons, List.map_nil]
        exact rfl
      · rw [iteF hc30] at hF29
        simp only [run_skip, run_reg, f23, run_mv, run_bin, put1_some, xadd, run_ops_nil, run_blk, f24, run_nil, put_at, put_no, ev_t, ev_c, reduceIte, Nat.reduceEqDiff,
            List.map_cons, List.map_nil]
        have e34 := some_inj hF29
        exact hN14 _ _ _ e34.symm ⟨by simp only [f22, put_at, put_no, ev_t, ev_c, reduceIte, Nat.reduceEqDiff, List.map_cons, List.map_nil], by simp only [put_at, put_no, ev_t,
            ev_c, reduceIte, Nat.reduceEqDiff, List.map_cons, List.map_nil], by simp only [put_at, put_no, ev_t, ev_c, reduceIte, Nat.reduceEqDiff, List.map_cons, List.map_nil],
            hS21⟩
    · rw [iteF hc26] at hF11
      simp only [run_exit, out_code, out_nil, put_at, put_no, ev_t, ev_c, reduceIte, Nat.reduceEqDiff, List.map_cons, List.map_nil]
      have e35 := some_inj hF11
      exact hK15 _ _ _ e35.symm ⟨by simp only [f22, put_at, put_no, ev_t, ev_c, reduceIte, Nat.reduceEqDiff, List.map_cons, List.map_nil], by simp only [f23, put_at, put_no, ev_t,
          ev_c, reduceIte, Nat.reduceEqDiff, List.map_cons, List.map_nil], by simp only [f24, put_at, put_no, ev_t, ev_c, reduceIte, Nat.reduceEqDiff, List.map_cons,
          List.map_nil], hS21⟩
  · rintro ⟨s37, s38⟩ fr39 h40 rfl ⟨f42, f43, f44, hS41⟩
    dsimp only [jnO] at hk10
    dsimp only at *
    unfold laws_heldIntS_j1 at hk10
    simp only [run_seq, run_reg, f43, run_mv, run_ops_nil, run_ret, put_at, put_no, ev_t, ev_c, reduceIte, Nat.reduceEqDiff, List.map_cons, List.map_nil]
    have he := some_inj hk10
    subst he
    simp only [end_ret1, put_at, put_no, ev_t, ev_c, reduceIte, Nat.reduceEqDiff, List.map_cons, List.map_nil]
    exact rfl
theorem laws_FnExactOrderFor_x {W : Nat → Bool} {h : Heap} (hW : ∀ b,
    h.length ≤ b → W b = true) (k : Nat) (v_0 : List Call) (r : Bool) (hF : laws_FnExactOrderFor k v_0 = some r) : Ret E W 6 [lst Call.cells v_0] h
    (fun v h' => cut h.length h' E.sz false 9 v = some (.bool r)) := by
  refine Ret.of (fn := x6) rfl (Run.of ?_)
  unfold laws_FnExactOrderFor at hF
  have zf0 : argFr [lst Call.cells v_0] 0 = lst Call.cells v_0 := rfl
  generalize argFr [lst Call.cells v_0] = fr0 at zf0 ⊢
  have hS : Sep h h.length [] := Sep.nil h
  obtain ⟨v1, hx2, hF3⟩ := bind_some' hF
  simp only [x6, run_seq, run_reg, run_mv, run_ops_nil, x6_23, x6_22, zf0, run_call, put_at, put_no, ev_t, ev_c, reduceIte, Nat.reduceEqDiff, List.map_cons, List.map_nil]
  refine call1 rfl (mapM1 snap_lst (mapM1 snap_int mapM0)) (laws_szCallS_x (fun b hb => decide_eq_true hb) v_0 1048576 v1 hx2) ?_
  simp only [run_mv, run_ops_nil, x6_21, run_seq, run_reg, run_bin, put1_some, xlss, run_cond, put_at, put_no, ev_t, ev_c, reduceIte, Nat.reduceEqDiff, List.map_cons, List.map_nil]
  refine cond_split (t := (decide (v1 < 0))) (fun hc4 => ?_) (fun hc4 => ?_)
  · rw [iteT hc4] at hF3
    simp only [run_seq, run_reg, run_mv, run_ops_nil, run_ret, put_at, put_no, ev_t, ev_c, reduceIte, Nat.reduceEqDiff, List.map_cons, List.map_nil]
    have he := some_inj hF3
    subst he
    simp only [end_ret1, put_at, put_no, ev_t, ev_c, reduceIte, Nat.reduceEqDiff, List.map_cons, List.map_nil]
    exact rfl
  · rw [iteF hc4] at hF3
    obtain ⟨v5, hx6, hF7⟩ := bind_some' hF3
    simp only [run_skip, x6_20, run_seq, run_reg, zf0, run_mv, run_call, put_at, put_no, ev_t, ev_c, reduceIte, Nat.reduceEqDiff, List.map_cons, List.map_nil]
    refine call2 rfl hS (mapM1 snap_lst mapM0) (laws_toCallS_x (fun b hb => decide_eq_true hb) k v_0 v5 hx6) ?_
    rintro v8 h12 ⟨_, c9, rfl, hv10, hS13⟩
    refine ⟨_, free_1 (SlF.free1 hv10), hS13, (pf_app (SlF.pf hv10 (fun _ => rfl)) pf_nil), fun h14 hS15 => ?_⟩
    have hS16 : Sep h14 h.length (c9 ++ ([])) := by simpa only [List.append_assoc, List.nil_append] using hS15
    obtain ⟨v17, hx18, hF19⟩ := bind_some' hF7
    simp only [run_call, put_at, put_no, ev_t, ev_c, reduceIte, Nat.reduceEqDiff, List.map_cons, List.map_nil]
    refine call1 rfl (mapM1 (SlF.snap hv10 hS16 rfl (fun _ => rfl) (fun _ => rfl)) mapM0) (spec_OrderFor_x (fun b hb => decide_eq_true hb) k v5 v17 hx18) ?_
    obtain ⟨v20, hx21, hF22⟩ := bind_some' hF19
    simp only [run_mv, run_ext, put1_some, xext_0, xext_1, run_ops_nil, x6_19, run_seq, run_reg, zf0, run_call, put_at, put_no, ev_t, ev_c, reduceIte, Nat.reduceEqDiff,
        List.map_cons, List.map_nil]
    refine call2 rfl hS16 (mapM1 snap_lst mapM0) (laws_toCallS_x (fun b hb => decide_eq_true hb) k v_0 v20 hx21) ?_
    rintro v23 h27 ⟨_, c24, rfl, hv25, hS28⟩
    refine ⟨_, free_1 (SlF.free1 hv25), hS28, (pf_app (SlF.pf hv25 (fun _ => rfl)) pf_nil), fun h29 hS30 => ?_⟩
    have hS31 : Sep h29 h.length (c24 ++ (c9 ++ ([]))) := by simpa only [List.append_assoc, List.nil_append] using hS30
    obtain ⟨v32, hx33, hF34⟩ := bind_some' hF22
    simp only [run_mv, run_ops_nil, x6_18, run_seq, run_reg, run_call, put_at, put_no, ev_t, ev_c, reduceIte, Nat.reduceEqDiff, List.map_cons, List.map_nil]
    refine call2 rfl hS31 (mapM1 (SlF.snap hv25 hS31 rfl (fun _ => rfl) (fun _ => rfl)) mapM0) (impl_OrderFor_x (fun b hb => decide_eq_true hb) k v20 v32 hx33) ?_
    rintro _ h39 ⟨v35, c36, rfl, hv37, hS40⟩
    refine ⟨_, free_t (all_c (free2_1 (SlF.free1 hv37)) (all_c rfl all_n)), hS40, (pf_app (SlF.pf hv37 (fun _ => rfl)) pf_nil), fun h41 hS42 => ?_⟩
    have hS43 : Sep h41 h.length (c36 ++ (c24 ++ (c9 ++ ([])))) := by simpa only [List.append_assoc, List.nil_append] using hS42
    obtain ⟨v44, hx45, hF46⟩ := bind_some' hF34
    simp only [run_mv, run_ext, put1_some, xext_0, xext_1, run_ops_nil, x6_17, run_seq, run_reg, run_call, put_at, put_no, ev_t, ev_c, reduceIte, Nat.reduceEqDiff, List.map_cons,
        List.map_nil]
    refine call1 rfl (mapM1 (SlF.snap hv37 hS43 rfl (fun _ => rfl) (fun _ => rfl)) (mapM1 snap_lst mapM0)) (laws_eqIntS_x (fun b hb => decide_eq_true hb) k v32.1 v17.1 v44 hx45) ?_
    simp only [run_un, put1_some, xnot, run_mv, put_at, put_no, ev_t, ev_c, reduceIte, Nat.reduceEqDiff, List.map_cons, List.map_nil]
    refine ops_j 4 (fun fr' h' => Sep h' h.length (c24 ++ (c36 ++ ([]))) ∧ fr' 40 = .bool ((!v44) ||
        (!(v32.2 == v17.2))) ∧ fr' 0 = lst Call.cells v_0 ∧ fr' 4 = lst cI v17.1 ∧ fr' 5 = .bool v17.2 ∧ fr' 6 = v23 ∧ fr' 7 = v35 ∧ fr' 8 = .bool v32.2) (fun Q47 hN48 => ?_) ?_
    · simp only [List.take_succ_cons, List.take_zero]
      simp only [run_guard (g := 36), put_at, put_no, ev_t, ev_c, reduceIte, Nat.reduceEqDiff, List.map_cons, List.map_nil]
      refine guard_split (t := (!v44)) (fun hg49 => ?_) (fun hg49 => ?_)
      · simp only [hg49, run_guard (g := 36), guard_off', run_pick, put1_some, xpick_t, run_ops_nil, run_nil, put_at, put_no, ev_t, ev_c, reduceIte, Nat.reduceEqDiff,
          List.map_cons, List.map_nil]
        exact hN48 _ _ ⟨(Sep.m1 (Sep.dc (Sep.m2 hS43))), by rw [orT hg49]; simp only [put_at, put_no, ev_t, ev_c, reduceIte, Nat.reduceEqDiff, List.map_cons, List.map_nil],
            by simp only [zf0, put_at, put_no, ev_t, ev_c, reduceIte, Nat.reduceEqDiff, List.map_cons, List.map_nil], by simp only [put_at, put_no, ev_t, ev_c, reduceIte,
            Nat.reduceEqDiff, List.map_cons, List.map_nil], by simp only [put_at, put_no, ev_t, ev_c, reduceIte, Nat.reduceEqDiff, List.map_cons, List.map_nil],
            by simp only [put_at, put_no, ev_t, ev_c, reduceIte, Nat.reduceEqDiff, List.map_cons, List.map_nil], by simp only [put_at, put_no, ev_t, ev_c, reduceIte,
            Nat.reduceEqDiff, List.map_cons, List.map_nil], by simp only [put_at, put_no, ev_t, ev_c, reduceIte, Nat.reduceEqDiff, List.map_cons, List.map_nil]⟩
      · simp only [hg49, run_guard (g := 36), guard_false, run_mv, run_eqb, put1_some, xeqb_t, run_pick, xpick_f, run_ops_nil, run_nil, put_at, put_no, ev_t, ev_c, reduceIte,
          Nat.reduceEqDiff, List.map_cons, List.map_nil]
        exact hN48 _ _ ⟨(Sep.m1 (Sep.dc (Sep.m2 hS43))), by rw [orF hg49]; simp only [put_at, put_no, ev_t, ev_c, reduceIte, Nat.reduceEqDiff, List.map_cons, List.map_nil],
            by simp only [zf0, put_at, put_no, ev_t, ev_c, reduceIte, Nat.reduceEqDiff, List.map_cons, List.map_nil], by simp only [put_at, put_no, ev_t, ev_c, reduceIte,
            Nat.reduceEqDiff, List.map_cons, List.map_nil], by simp only [put_at, put_no, ev_t, ev_c, reduceIte, Nat.reduceEqDiff, List.map_cons, List.map_nil],
            by simp only [put_at, put_no, ev_t, ev_c, reduceIte, Nat.reduceEqDiff, List.map_cons, List.map_nil], by simp only [put_at, put_no, ev_t, ev_c, reduceIte,
            Nat.reduceEqDiff, List.map_cons, List.map_nil], by simp only [put_at, put_no, ev_t, ev_c, reduceIte, Nat.reduceEqDiff, List.map_cons, List.map_nil]⟩
    · rintro fr50 h58 ⟨hS59, f51, f52, f53, f54, f55, f56, f57⟩
      simp only [List.drop_succ_cons, List.drop_zero]
      simp only [run_ops_nil, f51, run_cond, put_at, put_no, ev_t, ev_c, reduceIte, Nat.reduceEqDiff, List.map_cons, List.map_nil]
      refine cond_split (t := ((!v44) || (!(v32.2 == v17.2)))) (fun hc60 => ?_) (fun hc60 => ?_)
      · rw [iteT hc60] at hF46
        simp only [run_seq, run_reg, run_mv, run_ops_nil, run_ret, put_at, put_no, ev_t, ev_c, reduceIte, Nat.reduceEqDiff, List.map_cons, List.map_nil]
        have he := some_inj hF46
        subst he
        simp only [end_ret1, put_at, put_no, ev_t, ev_c, reduceIte, Nat.reduceEqDiff, List.map_cons, List.map_nil]
        exact rfl
      · rw [iteF hc60] at hF46
        obtain ⟨v61, hx62, hF63⟩ := bind_some' hF46
        simp only [run_skip, x6_16, run_seq, run_reg, f55, run_mv, f52, run_call, put_at, put_no, ev_t, ev_c, reduceIte, Nat.reduceEqDiff, List.map_cons, List.map_nil]
        refine call2 rfl hS59 (mapM1 snap_lst mapM0) (laws_toCallS_x (fun b hb => decide_eq_true hb) k v_0 v61 hx62) ?_
        rintro v64 h68 ⟨_, c65, rfl, hv66, hS69⟩
        refine ⟨_, free_1 (SlF.free1 hv66), hS69, (pf_app (SlF.pf hv66 (fun _ => rfl)) pf_nil), fun h70 hS71 => ?_⟩
        have hS72 : Sep h70 h.length (c65 ++ (c24 ++ (c36 ++ ([])))) := by simpa only [List.append_assoc, List.nil_append] using hS71
        obtain ⟨v73, hx74, hF75⟩ := bind_some' hF63
        simp only [run_call, put_at, put_no, ev_t, ev_c, reduceIte, Nat.reduceEqDiff, List.map_cons, List.map_nil]
        refine call1 rfl (mapM1 (SlF.snap hv25 (Sep.m1 hS72) rfl (fun _ => rfl) (fun _ => rfl)) (mapM1 (SlF.snap hv66 hS72 rfl (fun _ => rfl) (fun _ => rfl)) mapM0))
            (laws_eqCallS_x (fun b hb => decide_eq_true hb) k v20 v61 v73 hx74) ?_
        simp only [run_un, put1_some, xnot, run_ops_nil, run_cond, put_at, put_no, ev_t, ev_c, reduceIte, Nat.reduceEqDiff, List.map_cons, List.map_nil]
        refine cond_split (t := (!v73)) (fun hc76 => ?_) (fun hc76 => ?_)
        · rw [iteT hc76] at hF75
          simp only [run_seq, run_reg, run_mv, run_ops_nil, run_ret, put_at, put_no, ev_t, ev_c, reduceIte, Nat.reduceEqDiff, List.map_cons, List.map_nil]
          have he := some_inj hF75
          subst he
          simp only [end_ret1, put_at, put_no, ev_t, ev_c, reduceIte, Nat.reduceEqDiff, List.map_cons, List.map_nil]
          exact rfl
        · rw [iteF hc76] at hF75
          obtain ⟨v77, hx78, hF79⟩ := bind_some' hF75
          simp only [run_skip, x6_15, run_seq, run_reg, run_mv, run_ops_nil, x6_14, f55, run_call, put_at, put_no, ev_t, ev_c, reduceIte, Nat.reduceEqDiff, List.map_cons,
              List.map_nil]
          refine call0 rfl (laws_markCallS_x hW k v23 c24 v20 hv25 1 v77 hx78 (Sep.m1 hS72)) ?_
          rintro _ h82 ⟨c80, rfl, hv81, hS83⟩
          simp only [run_mv, run_ops_nil, x6_13, run_seq, run_reg, run_bin, put1_some, xlss, put_at, put_no, ev_t, ev_c, reduceIte, Nat.reduceEqDiff, List.map_cons, List.map_nil]
          obtain ⟨v87, hx88, hF89⟩ := bind_some' hF79
          refine ops_j 5 (fun fr' h' => Sep h' h.length (c36 ++
              ([])) ∧ fr' 56 = .bool v87 ∧ fr' 0 = lst Call.cells v_0 ∧ fr' 4 = lst cI v17.1 ∧ fr' 5 = .bool v17.2 ∧ fr' 7 = v35 ∧ fr' 8 = .bool v32.2) (fun Q84 hN85 => ?_) ?_
          · simp only [List.take_succ_cons, List.take_zero]
            simp only [run_guard (g := 51), put_at, put_no, ev_t, ev_c, reduceIte, Nat.reduceEqDiff, List.map_cons, List.map_nil]
            refine guard_split (t := (decide (v77.1 < 0))) (fun hg86 => ?_) (fun hg86 => ?_)
            · rw [iteT hg86] at hx88
              simp only [hg86, run_guard (g := 51), guard_off', run_pick, put1_some, xpick_t, run_ops_nil, run_nil, put_at, put_no, ev_t, ev_c, reduceIte, Nat.reduceEqDiff,
                  List.map_cons, List.map_nil]
              have e90 := some_inj hx88
              exact hN85 _ _ ⟨(Sep.dc ((Sep.dc (hS83)))), by rw [← e90]; simp only [put_at, put_no, ev_t, ev_c, reduceIte, Nat.reduceEqDiff, List.map_cons, List.map_nil],
                  by simp only [f52, put_at, put_no, ev_t, ev_c, reduceIte, Nat.reduceEqDiff, List.map_cons, List.map_nil], by simp only [f53, put_at, put_no, ev_t, ev_c,
                  reduceIte, Nat.reduceEqDiff, List.map_cons, List.map_nil], by simp only [f54, put_at, put_no, ev_t, ev_c, reduceIte, Nat.reduceEqDiff, List.map_cons,
                  List.map_nil], by simp only [f56, put_at, put_no, ev_t, ev_c, reduceIte, Nat.reduceEqDiff, List.map_cons, List.map_nil], by simp only [f57, put_at, put_no, ev_t,
                  ev_c, reduceIte, Nat.reduceEqDiff, List.map_cons, List.map_nil]⟩
            · rw [iteF hg86] at hx88
              obtain ⟨v91, hx92, hF93⟩ := bind_some' hx88
              simp only [hg86, run_guard (g := 51), guard_false, f56, run_mv, f53, run_call, put_at, put_no, ev_t, ev_c, reduceIte, Nat.reduceEqDiff, List.map_cons, List.map_nil]
              refine call1 rfl (mapM1 (SlF.snap hv37 (Sep.m2 hS83) rfl (fun _ => rfl) (fun _ => rfl)) (mapM1 snap_lst mapM0)) (laws_eqIntS_x
                  (fun b hb => decide_eq_true hb) k v32.1 v17.1 v91 hx92) ?_
              simp only [hg86, run_guard (g := 51), guard_false, run_un, put1_some, xnot, run_pick, xpick_f, run_ops_nil, run_nil, put_at, put_no, ev_t, ev_c, reduceIte,
                  Nat.reduceEqDiff, List.map_cons, List.map_nil]
              have e94 := some_inj hF93
              exact hN85 _ _ ⟨(Sep.dc ((Sep.dc (hS83)))), by rw [← e94]; simp only [put_at, put_no, ev_t, ev_c, reduceIte, Nat.reduceEqDiff, List.map_cons, List.map_nil],
                  by simp only [f52, put_at, put_no, ev_t, ev_c, reduceIte, Nat.reduceEqDiff, List.map_cons, List.map_nil], by simp only [f53, put_at, put_no, ev_t, ev_c,
                  reduceIte, Nat.reduceEqDiff, List.map_cons, List.map_nil], by simp only [f54, put_at, put_no, ev_t, ev_c, reduceIte, Nat.reduceEqDiff, List.map_cons,
                  List.map_nil], by simp only [f56, put_at, put_no, ev_t, ev_c, reduceIte, Nat.reduceEqDiff, List.map_cons, List.map_nil], by simp only [f57, put_at, put_no, ev_t,
                  ev_c, reduceIte, Nat.reduceEqDiff, List.map_cons, List.map_nil]⟩
          · rintro fr95 h102 ⟨hS103, f96, f97, f98, f99, f100, f101⟩
            simp only [List.drop_succ_cons, List.drop_zero]
            simp only [f96, run_mv, put_at, put_no, ev_t, ev_c, reduceIte, Nat.reduceEqDiff, List.map_cons, List.map_nil]
            refine ops_j 4 (fun fr' h' => Sep h' h.length (c36 ++ ([])) ∧ fr' 61 = .bool (v87 ||
                (!(v32.2 == v17.2))) ∧ fr' 0 = lst Call.cells v_0 ∧ fr' 4 = lst cI v17.1 ∧ fr' 5 = .bool v17.2 ∧ fr' 7 = v35) (fun Q104 hN105 => ?_) ?_
            · simp only [List.take_succ_cons, List.take_zero]
              simp only [run_guard (g := 57), put_at, put_no, ev_t, ev_c, reduceIte, Nat.reduceEqDiff, List.map_cons, List.map_nil]
              refine guard_split (t := v87) (fun hg106 => ?_) (fun hg106 => ?_)
              · simp only [hg106, run_guard (g := 57), guard_off', run_pick, put1_some, xpick_t, run_ops_nil, run_nil, put_at, put_no, ev_t, ev_c, reduceIte, Nat.reduceEqDiff,
                  List.map_cons, List.map_nil]
                exact hN105 _ _ ⟨hS103, by rw [orT hg106]; simp only [put_at, put_no, ev_t, ev_c, reduceIte, Nat.reduceEqDiff, List.map_cons, List.map_nil], by simp only [f97,
                    put_at, put_no, ev_t, ev_c, reduceIte, Nat.reduceEqDiff, List.map_cons, List.map_nil], by simp only [f98, put_at, put_no, ev_t, ev_c, reduceIte,
                    Nat.reduceEqDiff, List.map_cons, List.map_nil], by simp only [f99, put_at, put_no, ev_t, ev_c, reduceIte, Nat.reduceEqDiff, List.map_cons, List.map_nil],
                    by simp only [f100, put_at, put_no, ev_t, ev_c, reduceIte, Nat.reduceEqDiff, List.map_cons, List.map_nil]⟩
              · simp only [hg106, run_guard (g := 57), guard_false, f101, run_mv, f99, run_eqb, put1_some, xeqb_t, run_pick, xpick_f, run_ops_nil, run_nil, put_at, put_no, ev_t,
                  ev_c, reduceIte, Nat.reduceEqDiff, List.map_cons, List.map_nil]
                exact hN105 _ _ ⟨hS103, by rw [orF hg106]; simp only [put_at, put_no, ev_t, ev_c, reduceIte, Nat.reduceEqDiff, List.map_cons, List.map_nil], by simp only [f97,
                    put_at, put_no, ev_t, ev_c, reduceIte, Nat.reduceEqDiff, List.map_cons, List.map_nil], by simp only [f98, put_at, put_no, ev_t, ev_c, reduceIte,
                    Nat.reduceEqDiff, List.map_cons, List.map_nil], by simp only [f99, put_at, put_no, ev_t, ev_c, reduceIte, Nat.reduceEqDiff, List.map_cons, List.map_nil],
                    by simp only [f100, put_at, put_no, ev_t, ev_c, reduceIte, Nat.reduceEqDiff, List.map_cons, List.map_nil]⟩
            · rintro fr107 h113 ⟨hS114, f108, f109, f110, f111, f112⟩
              simp only [List.drop_succ_cons, List.drop_zero]
              simp only [run_ops_nil, f108, run_cond, put_at, put_no, ev_t, ev_c, reduceIte, Nat.reduceEqDiff, List.map_cons, List.map_nil]
              refine cond_split (t := (v87 || (!(v32.2 == v17.2)))) (fun hc115 => ?_) (fun hc115 => ?_)
              · rw [iteT hc115] at hF89
                simp only [run_seq, run_reg, run_mv, run_ops_nil, run_ret, put_at, put_no, ev_t, ev_c, reduceIte, Nat.reduceEqDiff, List.map_cons, List.map_nil]
                have he := some_inj hF89
                subst he
                simp only [end_ret1, put_at, put_no, ev_t, ev_c, reduceIte, Nat.reduceEqDiff, List.map_cons, List.map_nil]
                exact rfl
              · rw [iteF hc115] at hF89
                obtain ⟨v116, hx117, hF118⟩ := bind_some' hF89
                simp only [run_skip, x6_12, run_seq, run_reg, run_mv, run_ops_nil, x6_11, f112, run_call, put_at, put_no, ev_t, ev_c, reduceIte, Nat.reduceEqDiff, List.map_cons,
                    List.map_nil]
                refine call0 rfl (laws_markIntS_x hW k v35 c36 v32.1 hv37 1 v116 hx117 hS114) ?_
                rintro _ h121 ⟨c119, rfl, hv120, hS122⟩
                obtain ⟨v123, hx124, hF125⟩ := bind_some' hF118
                simp only [run_mv, run_ops_nil, x6_10, run_seq, run_reg, x6_9, f112, run_call, put_at, put_no, ev_t, ev_c, reduceIte, Nat.reduceEqDiff, List.map_cons, List.map_nil]
                refine call1 rfl (mapM1 (SlF.snap hv120 hS122 rfl (fun _ => rfl) (fun _ => rfl)) (mapM1 snap_int mapM0)) (laws_heldIntS_x
                    (fun b hb => decide_eq_true hb) k v116.2 1 v123 hx124) ?_
                simp only [run_mv, run_ops_nil, x6_8, run_seq, run_reg, run_bin, put1_some, xlss, run_cond, put_at, put_no, ev_t, ev_c, reduceIte, Nat.reduceEqDiff, List.map_cons,
                    List.map_nil]
                refine cond_split (t := (decide (v123 < 0))) (fun hc126 => ?_) (fun hc126 => ?_)
                · rw [iteT hc126] at hF125
                  simp only [run_seq, run_reg, run_mv, run_ops_nil, run_ret, put_at, put_no, ev_t, ev_c, reduceIte, Nat.reduceEqDiff, List.map_cons, List.map_nil]
                  have he := some_inj hF125
                  subst he
                  simp only [end_ret1, put_at, put_no, ev_t, ev_c, reduceIte, Nat.reduceEqDiff, List.map_cons, List.map_nil]
                  exact rfl
                · rw [iteF hc126] at hF125
                  simp only [run_skip, x6_7, run_seq, run_reg, run_mv, run_bin, put1_some, xneq, run_ops_nil, run_cond, put_at, put_no, ev_t, ev_c, reduceIte, Nat.reduceEqDiff,
                      List.map_cons, List.map_nil]
                  refine cond_split (t := (decide (v123 ≠ v116.1))) (fun hc127 => ?_) (fun hc127 => ?_)
                  · rw [iteT hc127] at hF125
                    simp only [run_seq, run_reg, run_mv, run_ops_nil, run_ret, put_at, put_no, ev_t, ev_c, reduceIte, Nat.reduceEqDiff, List.map_cons, List.map_nil]
                    have he := some_inj hF125
                    subst he
                    simp only [end_ret1, put_at, put_no, ev_t, ev_c, reduceIte, Nat.reduceEqDiff, List.map_cons, List.map_nil]
                    exact rfl
                  · rw [iteF hc127] at hF125
                    obtain ⟨v128, hx129, hF130⟩ := bind_some' hF125
                    simp only [run_skip, x6_6, run_seq, run_reg, f109, run_mv, run_call, put_at, put_no, ev_t, ev_c, reduceIte, Nat.reduceEqDiff, List.map_cons, List.map_nil]
                    refine call2 rfl hS122 (mapM1 snap_lst mapM0) (laws_toCallS_x (fun b hb => decide_eq_true hb) k v_0 v128 hx129) ?_
                    rintro v131 h135 ⟨_, c132, rfl, hv133, hS136⟩
                    refine ⟨_, free_1 (SlF.free1 hv133), hS136, (pf_app (SlF.pf hv133 (fun _ => rfl)) pf_nil), fun h137 hS138 => ?_⟩
                    have hS139 : Sep h137 h.length (c132 ++ (c119 ++ ([]))) := by simpa only [List.append_assoc, List.nil_append] using hS138
                    obtain ⟨v140, hx141, hF142⟩ := bind_some' hF130
                    simp only [run_call, put_at, put_no, ev_t, ev_c, reduceIte, Nat.reduceEqDiff, List.map_cons, List.map_nil]
                    refine call2 rfl hS139 (mapM1 (SlF.snap hv133 hS139 rfl (fun _ => rfl) (fun _ => rfl)) mapM0) (impl_OrderFor_x
                        (fun b hb => decide_eq_true hb) k v128 v140 hx141) ?_
                    rintro _ h147 ⟨v143, c144, rfl, hv145, hS148⟩
                    refine ⟨_, free_t (all_c (free2_1 (SlF.free1 hv145)) (all_c rfl all_n)), hS148, (pf_app (SlF.pf hv145 (fun _ => rfl)) pf_nil), fun h149 hS150 => ?_⟩
                    have hS151 : Sep h149 h.length (c144 ++ (c132 ++ (c119 ++ ([])))) := by simpa only [List.append_assoc, List.nil_append] using hS150
                    obtain ⟨v152, hx153, hF154⟩ := bind_some' hF142
                    simp only [run_mv, run_ext, put1_some, xext_0, xext_1, run_ops_nil, x6_5, run_seq, run_reg, f110, run_call, put_at, put_no, ev_t, ev_c, reduceIte,
                        Nat.reduceEqDiff, List.map_cons, List.map_nil]
                    refine call1 rfl (mapM1 (SlF.snap hv145 hS151 rfl (fun _ => rfl) (fun _ => rfl)) (mapM1 snap_lst mapM0)) (laws_eqIntS_x
                        (fun b hb => decide_eq_true hb) k v140.1 v17.1 v152 hx153) ?_
                    simp only [run_un, put1_some, xnot, run_mv, put_at, put_no, ev_t, ev_c, reduceIte, Nat.reduceEqDiff, List.map_cons, List.map_nil]
                    refine ops_j 4 (fun fr' h' => Sep h' h.length (c119 ++ ([])) ∧ fr' 87 = .bool ((!v152) || (!(v140.2 == v17.2))) ∧ fr' 7 = v35 ∧ fr' 10 = .int .i64 v116.1)
                        (fun Q155 hN156 => ?_) ?_
                    · simp only [List.take_succ_cons, List.take_zero]
                      simp only [run_guard (g := 83), put_at, put_no, ev_t, ev_c, reduceIte, Nat.reduceEqDiff, List.map_cons, List.map_nil]
                      refine guard_split (t := (!v152)) (fun hg157 => ?_) (fun hg157 => ?_)
                      · simp only [hg157, run_guard (g := 83), guard_off', run_pick, put1_some, xpick_t, run_ops_nil, run_nil, put_at, put_no, ev_t, ev_c, reduceIte,
                          Nat.reduceEqDiff, List.map_cons, List.map_nil]
                        exact hN156 _ _ ⟨(Sep.dc ((Sep.dc (hS151)))), by rw [orT hg157]; simp only [put_at, put_no, ev_t, ev_c, reduceIte, Nat.reduceEqDiff, List.map_cons,
                            List.map_nil], by simp only [f112, put_at, put_no, ev_t, ev_c, reduceIte, Nat.reduceEqDiff, List.map_cons, List.map_nil], by simp only [put_at, put_no,
                            ev_t, ev_c, reduceIte, Nat.reduceEqDiff, List.map_cons, List.map_nil]⟩
                      · simp only [hg157, run_guard (g := 83), guard_false, run_mv, f111, run_eqb, put1_some, xeqb_t, run_pick, xpick_f, run_ops_nil, run_nil, put_at, put_no,
                          ev_t, ev_c, reduceIte, Nat.reduceEqDiff, List.map_cons, List.map_nil]
                        exact hN156 _ _ ⟨(Sep.dc ((Sep.dc (hS151)))), by rw [orF hg157]; simp only [put_at, put_no, ev_t, ev_c, reduceIte, Nat.reduceEqDiff, List.map_cons,
                            List.map_nil], by simp only [f112, put_at, put_no, ev_t, ev_c, reduceIte, Nat.reduceEqDiff, List.map_cons, List.map_nil], by simp only [put_at, put_no,
                            ev_t, ev_c, reduceIte, Nat.reduceEqDiff, List.map_cons, List.map_nil]⟩
                    · rintro fr158 h162 ⟨hS163, f159, f160, f161⟩
                      simp only [List.drop_succ_cons, List.drop_zero]
                      simp only [run_ops_nil, f159, run_cond, put_at, put_no, ev_t, ev_c, reduceIte, Nat.reduceEqDiff, List.map_cons, List.map_nil]
                      refine cond_split (t := ((!v152) || (!(v140.2 == v17.2)))) (fun hc164 => ?_) (fun hc164 => ?_)
                      · rw [iteT hc164] at hF154
                        simp only [run_seq, run_reg, run_mv, run_ops_nil, run_ret, put_at, put_no, ev_t, ev_c, reduceIte, Nat.reduceEqDiff, List.map_cons, List.map_nil]
                        have he := some_inj hF154
                        subst he
                        simp only [end_ret1, put_at, put_no, ev_t, ev_c, reduceIte, Nat.reduceEqDiff, List.map_cons, List.map_nil]
                        exact rfl
                      · rw [iteF hc164] at hF154
                        obtain ⟨v165, hx166, hF167⟩ := bind_some' hF154
                        simp only [run_skip, x6_4, run_seq, run_reg, run_mv, run_ops_nil, x6_3, f160, run_call, put_at, put_no, ev_t, ev_c, reduceIte, Nat.reduceEqDiff,
                            List.map_cons, List.map_nil]
                        refine call1 rfl (mapM1 (SlF.snap hv120 hS163 rfl (fun _ => rfl) (fun _ => rfl)) (mapM1 snap_int mapM0)) (laws_heldIntS_x
                            (fun b hb => decide_eq_true hb) k v116.2 1 v165 hx166) ?_
                        simp only [run_mv, run_ops_nil, x6_2, run_seq, run_reg, run_bin, put1_some, xlss, run_cond, put_at, put_no, ev_t, ev_c, reduceIte, Nat.reduceEqDiff,
                            List.map_cons, List.map_nil]
                        refine cond_split (t := (decide (v165 < 0))) (fun hc168 => ?_) (fun hc168 => ?_)
                        · rw [iteT hc168] at hF167
                          simp only [run_seq, run_reg, run_mv, run_ops_nil, run_ret, put_at, put_no, ev_t, ev_c, reduceIte, Nat.reduceEqDiff, List.map_cons, List.map_nil]
                          have he := some_inj hF167
                          subst he
                          simp only [end_ret1, put_at, put_no, ev_t, ev_c, reduceIte, Nat.reduceEqDiff, List.map_cons, List.map_nil]
                          exact rfl
                        · rw [iteF hc168] at hF167
                          simp only [run_skip, x6_1, run_seq, run_reg, run_mv, f161, run_bin, put1_some, xneq, run_ops_nil, run_cond, put_at, put_no, ev_t, ev_c, reduceIte,
                              Nat.reduceEqDiff, List.map_cons, List.map_nil]
                          refine cond_split (t := (decide (v165 ≠ v116.1))) (fun hc169 => ?_) (fun hc169 => ?_)
                          · rw [iteT hc169] at hF167
                            simp only [run_seq, run_reg, run_mv, run_ops_nil, run_ret, put_at, put_no, ev_t, ev_c, reduceIte, Nat.reduceEqDiff, List.map_cons, List.map_nil]
                            have he := some_inj hF167
                            subst he
                            simp only [end_ret1, put_at, put_no, ev_t, ev_c, reduceIte, Nat.reduceEqDiff, List.map_cons, List.map_nil]
                            exact rfl
                          · rw [iteF hc169] at hF167
                            simp only [run_skip, run_seq, run_reg, run_mv, run_ops_nil, run_ret, put_at, put_no, ev_t, ev_c, reduceIte, Nat.reduceEqDiff, List.map_cons,
                                List.map_nil]
                            have he := some_inj hF167
                            subst he
                            simp only [end_ret1, put_at, put_no, ev_t, ev_c, reduceIte, Nat.reduceEqDiff, List.map_cons, List.map_nil]
                            exact rfl
end Go.Proofs.Ytddkoiapboeemaa.X
