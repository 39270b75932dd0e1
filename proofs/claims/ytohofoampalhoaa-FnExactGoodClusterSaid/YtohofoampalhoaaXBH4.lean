/- The functions' code comes to what the plain functions say (4). -/
import Derived.Test.YtohofoampalhoaaXBH3
set_option linter.unusedVariables false
set_option linter.unusedSimpArgs false
set_option maxRecDepth 100000
namespace Go.Proofs.Ytohofoampalhoaa.X
open Go
theorem slices_Equal_Row_x {W : Nat → Bool} {h : Heap} (hW : ∀ b,
    h.length ≤ b → W b = true) (s1_0 : List Row) (s2_1 : List Row) (r : Bool) (hF : slices_Equal_Row s1_0 s2_1 = some r) : Ret E W 81 [lst Row.cells s1_0,
    lst Row.cells s2_1] h (fun v h' => cut h.length h' E.sz false 9 v = some (.bool r)) := by
  refine Ret.of (fn := x81) rfl (Run.of ?_)
  unfold slices_Equal_Row at hF
  have zf0 : argFr [lst Row.cells s1_0, lst Row.cells s2_1] 0 = lst Row.cells s1_0 := rfl
  have zf1 : argFr [lst Row.cells s1_0, lst Row.cells s2_1] 1 = lst Row.cells s2_1 := rfl
  generalize argFr [lst Row.cells s1_0, lst Row.cells s2_1] = fr0 at zf0 zf1 ⊢
  have hS : Sep h h.length [] := Sep.nil h
  simp only [x81, run_seq, run_reg, run_mv, run_ops_nil, x81_6, zf0, run_len, put1_some, xlen_lst, zf1, run_bin, xneq, run_cond, put_at, put_no, ev_t, ev_c, reduceIte,
      Nat.reduceEqDiff, List.map_cons, List.map_nil]
  refine cond_split (t := (decide ((List.length s1_0 : Int) ≠ (List.length s2_1 : Int)))) (fun hc1 => ?_) (fun hc1 => ?_)
  · rw [iteT hc1] at hF
    simp only [run_seq, run_reg, run_mv, run_ops_nil, run_ret, put_at, put_no, ev_t, ev_c, reduceIte, Nat.reduceEqDiff, List.map_cons, List.map_nil]
    have he := some_inj hF
    subst he
    simp only [end_ret1, put_at, put_no, ev_t, ev_c, reduceIte, Nat.reduceEqDiff, List.map_cons, List.map_nil]
    exact rfl
  · rw [iteF hc1] at hF
    simp only [run_skip, x81_5, run_seq, run_reg, zf0, run_mv, run_len, put1_some, xlen_lst, run_ops_nil, put_at, put_no, ev_t, ev_c, reduceIte, Nat.reduceEqDiff, List.map_cons,
        List.map_nil]
    obtain ⟨oc4, hX6, hk7⟩ := jn_some hF
    simp only [x81_4]
    refine rangeL_j (σ := Unit) s1_0 (fun i2 x3 _ => slices_Equal_Row_b1 s2_1 i2 x3 ) (fun s fr' h' => fr' 0 = lst Row.cells s1_0 ∧ fr' 1 = lst Row.cells s2_1 ∧ Sep h' h.length
        ([])) hX6 ⟨by simp only [zf0, put_at, put_no, ev_t, ev_c, reduceIte, Nat.reduceEqDiff, List.map_cons, List.map_nil], by simp only [zf1, put_at, put_no, ev_t, ev_c,
        reduceIte, Nat.reduceEqDiff, List.map_cons, List.map_nil], hS⟩ (by simp only [put_at, put_no, ev_t, ev_c, reduceIte, Nat.reduceEqDiff, List.map_cons,
        List.map_nil]) (by simp only [put_at, put_no, ev_t, ev_c, reduceIte, Nat.reduceEqDiff, List.map_cons,
        List.map_nil]) (fun _ _ _ h => h) rfl rfl (fun _ _ _ _ h => h) (fun _ _ _ _ h => h) (fun _ _ _ _ h => h) (by decide) ?_ ?_
    · rintro i2 x3 _ fr16 h17 hx21 ⟨f19, f20, hS18⟩ f22 f23 oc5 hF8 hr9 Q10 hN11 hB15 hK12 hR13 hE14
      unfold slices_Equal_Row_b1 at hF8
      simp only [x81_2, run_seq, run_reg, f22, run_mv, run_ops_nil, x81_1, run_draw, f19, d4_mv, put1d_some, d4_ia, put_at, put_no, ev_t, ev_c, reduceIte, Nat.reduceEqDiff,
          List.map_cons, List.map_nil]
      refine put1d_eq (v := .ref (Row.cells x3) 0) (xia_lstN hx21 rfl) ?_
      simp only [d4_ld, put_at, put_no, ev_t, ev_c, reduceIte, Nat.reduceEqDiff, List.map_cons, List.map_nil]
      refine put1d_eq (v := .agg [.int .i64 x3.Epoch, .int .i64 x3.Value]) rfl ?_
      obtain ⟨x24, hx25, hF26⟩ := bind_some' hF8
      simp only [f20, d4_mv, put1d_some, d4_ia, put_at, put_no, ev_t, ev_c, reduceIte, Nat.reduceEqDiff, List.map_cons, List.map_nil]
      refine put1d_eq (v := .ref (Row.cells x24) 0) (xia_lst hx25 rfl) ?_
      simp only [d4_ld, put_at, put_no, ev_t, ev_c, reduceIte, Nat.reduceEqDiff, List.map_cons, List.map_nil]
      refine put1d_eq (v := .agg [.int .i64 x24.Epoch, .int .i64 x24.Value]) rfl ?_
      simp only [d4_eqs, put_at, put_no, ev_t, ev_c, reduceIte, Nat.reduceEqDiff, List.map_cons, List.map_nil]
      refine put1d_eq (v := .bool (!((x3.Epoch == x24.Epoch) && ((x3.Value == x24.Value) && true)))) rfl ?_
      simp only [run_draw_nil, run_cond, put_at, put_no, ev_t, ev_c, reduceIte, Nat.reduceEqDiff, List.map_cons, List.map_nil]
      refine cond_split (t := (!((x3.Epoch == x24.Epoch) && ((x3.Value == x24.Value) && true)))) (fun hc27 => ?_) (fun hc27 => ?_)
      · rw [iteT hc27] at hF26
        simp only [run_seq, run_reg, run_mv, run_ops_nil, run_ret, put_at, put_no, ev_t, ev_c, reduceIte, Nat.reduceEqDiff, List.map_cons, List.map_nil]
        have e28 := some_inj hF26
        subst e28
        have ho29 := hr9 _ rfl
        have hk30 := hk7
        rw [ho29] at hk30
        dsimp only [jnO] at hk30
        apply hR13
        have he := some_inj hk30
        subst he
        simp only [end_ret1, put_at, put_no, ev_t, ev_c, reduceIte, Nat.reduceEqDiff, List.map_cons, List.map_nil]
        exact rfl
      · rw [iteF hc27] at hF26
        simp only [run_skip, run_nil, put_at, put_no, ev_t, ev_c, reduceIte, Nat.reduceEqDiff, List.map_cons, List.map_nil]
        have e31 := some_inj hF26
        exact hN11 _ _ _ e31.symm ⟨by simp only [f19, put_at, put_no, ev_t, ev_c, reduceIte, Nat.reduceEqDiff, List.map_cons, List.map_nil], by simp only [f20, put_at, put_no,
            ev_t, ev_c, reduceIte, Nat.reduceEqDiff, List.map_cons, List.map_nil], hS18⟩ (by simp only [f22, put_at, put_no, ev_t, ev_c, reduceIte, Nat.reduceEqDiff,
            List.map_cons, List.map_nil]) (by simp only [f23, put_at, put_no, ev_t, ev_c, reduceIte, Nat.reduceEqDiff, List.map_cons, List.map_nil])
    · rintro _ fr33 h34 rfl ⟨f36, f37, hS35⟩
      dsimp only [jnO] at hk7
      unfold slices_Equal_Row_j1 at hk7
      simp only [run_seq, run_reg, run_mv, run_ops_nil, run_ret, put_at, put_no, ev_t, ev_c, reduceIte, Nat.reduceEqDiff, List.map_cons, List.map_nil]
      have he := some_inj hk7
      subst he
      simp only [end_ret1, put_at, put_no, ev_t, ev_c, reduceIte, Nat.reduceEqDiff, List.map_cons, List.map_nil]
      exact rfl
theorem impl_isCluster_x {W : Nat → Bool} {h : Heap} (hW : ∀ b,
    h.length ≤ b → W b = true) (v_0 : Cluster) (r : Bool) (hF : impl_isCluster v_0 = some r) : Ret E W 59 [.agg [.int .i64 v_0.Truth.Epoch, .int .i64 v_0.Truth.Leader,
    lst cI v_0.Truth.InStep, lst Node.cells v_0.Nodes, lst Row.cells v_0.Acked]] h (fun v h' => cut h.length h' E.sz false 9 v = some (.bool r)) := by
  refine Ret.of (fn := x59) rfl (Run.of ?_)
  unfold impl_isCluster at hF
  have zf0 : argFr [.agg [.int .i64 v_0.Truth.Epoch, .int .i64 v_0.Truth.Leader, lst cI v_0.Truth.InStep, lst Node.cells v_0.Nodes,
      lst Row.cells v_0.Acked]] 0 = .agg [.int .i64 v_0.Truth.Epoch, .int .i64 v_0.Truth.Leader, lst cI v_0.Truth.InStep, lst Node.cells v_0.Nodes, lst Row.cells v_0.Acked] := rfl
  generalize argFr [.agg [.int .i64 v_0.Truth.Epoch, .int .i64 v_0.Truth.Leader, lst cI v_0.Truth.InStep, lst Node.cells v_0.Nodes, lst Row.cells v_0.Acked]] = fr0 at zf0 ⊢
  have hS : Sep h h.length [] := Sep.nil h
  simp only [x59, run_seq, run_reg, run_box, zf0, put_at, put_no, ev_t, ev_c, reduceIte, Nat.reduceEqDiff, List.map_cons, List.map_nil]
  refine put2_boxC (cs := [.int .i64 v_0.Truth.Epoch, .int .i64 v_0.Truth.Leader, lst cI v_0.Truth.InStep, lst Node.cells v_0.Nodes,
      lst Row.cells v_0.Acked]) hS rfl rfl rfl (fun b1 h2 hS3 => ?_)
  simp only [run_mv, run_ops_nil, put_at, put_no, ev_t, ev_c, reduceIte, Nat.reduceEqDiff, List.map_cons, List.map_nil]
  refine frz_stepC hS3 hW (by simp only [put_at, put_no, ev_t, ev_c, reduceIte, Nat.reduceEqDiff, List.map_cons, List.map_nil]) (fun h5 hS6 => ?_)
  simp only [run_frz_nil, x59_7, run_seq, run_reg, run_fa, put1_some, Nat.reduceAdd, Nat.zero_add, Nat.add_zero, xfa_ref, run_ld, put_at, put_no, ev_t, ev_c, reduceIte,
      Nat.reduceEqDiff, List.map_cons, List.map_nil]
  refine put1_eq (v := lst Node.cells v_0.Nodes) rfl ?_
  simp only [run_len, put1_some, xlen_lst, run_call, put_at, put_no, ev_t, ev_c, reduceIte, Nat.reduceEqDiff, List.map_cons, List.map_nil]
  refine call1 rfl (mapM1 snap_int (mapM1 snap_int (mapM1 snap_int mapM0))) (impl_in_x (fun b hb => decide_eq_true hb) (List.length v_0.Nodes : Int) 2 4 _ rfl) ?_
  simp only [run_un, put1_some, xnot, run_mv, put_at, put_no, ev_t, ev_c, reduceIte, Nat.reduceEqDiff, List.map_cons, List.map_nil]
  obtain ⟨v10, hx11, hF12⟩ := bind_some' hF
  refine ops_j 8 (fun fr' h' => Sep h' h.length ([]) ∧ fr' 18 = .bool v10 ∧ fr' 1 = .ref [.int .i64 v_0.Truth.Epoch, .int .i64 v_0.Truth.Leader, lst cI v_0.Truth.InStep,
      lst Node.cells v_0.Nodes, lst Row.cells v_0.Acked] 0) (fun Q7 hN8 => ?_) ?_
  · simp only [List.take_succ_cons, List.take_zero]
    simp only [run_guard (g := 10), put_at, put_no, ev_t, ev_c, reduceIte, Nat.reduceEqDiff, List.map_cons, List.map_nil]
    refine guard_split (t := (!(impl_in (List.length v_0.Nodes : Int) 2 4))) (fun hg9 => ?_) (fun hg9 => ?_)
    · rw [iteT hg9] at hx11
      simp only [hg9, run_guard (g := 10), guard_off', run_pick, put1_some, xpick_t, run_ops_nil, run_nil, put_at, put_no, ev_t, ev_c, reduceIte, Nat.reduceEqDiff, List.map_cons,
          List.map_nil]
      have e13 := some_inj hx11
      exact hN8 _ _ ⟨hS6, by rw [← e13]; simp only [put_at, put_no, ev_t, ev_c, reduceIte, Nat.reduceEqDiff, List.map_cons, List.map_nil], by simp only [put_at, put_no, ev_t,
          ev_c, reduceIte, Nat.reduceEqDiff, List.map_cons, List.map_nil]⟩
    · rw [iteF hg9] at hx11
      simp only [hg9, run_guard (g := 10), guard_false, run_fa, put1_some, Nat.reduceAdd, Nat.zero_add, Nat.add_zero, xfa_ref, run_ld, put_at, put_no, ev_t, ev_c, reduceIte,
          Nat.reduceEqDiff, List.map_cons, List.map_nil]
      refine put1_eq (v := .agg [.int .i64 v_0.Truth.Epoch, .int .i64 v_0.Truth.Leader, lst cI v_0.Truth.InStep]) rfl ?_
      simp only [hg9, run_guard (g := 10), guard_false, run_fa, put1_some, Nat.reduceAdd, Nat.zero_add, Nat.add_zero, xfa_ref, run_ld, put_at, put_no, ev_t, ev_c, reduceIte,
          Nat.reduceEqDiff, List.map_cons, List.map_nil]
      refine put1_eq (v := lst Node.cells v_0.Nodes) rfl ?_
      obtain ⟨v14, hx15, hF16⟩ := bind_some' hx11
      simp only [hg9, run_guard (g := 10), guard_false, run_len, put1_some, xlen_lst, run_call, put_at, put_no, ev_t, ev_c, reduceIte, Nat.reduceEqDiff, List.map_cons,
          List.map_nil]
      refine call1 rfl (mapM1 (snap_agg (mapM1 snap_int (mapM1 snap_int (mapM1 snap_lst mapM0)))) (mapM1 snap_int mapM0)) (impl_isView_x (fun b hb => decide_eq_true hb) v_0.Truth
          (List.length v_0.Nodes : Int) v14 hx15) ?_
      simp only [hg9, run_guard (g := 10), guard_false, run_un, put1_some, xnot, run_pick, xpick_f, run_ops_nil, run_nil, put_at, put_no, ev_t, ev_c, reduceIte, Nat.reduceEqDiff,
          List.map_cons, List.map_nil]
      have e17 := some_inj hF16
      exact hN8 _ _ ⟨hS6, by rw [← e17]; simp only [put_at, put_no, ev_t, ev_c, reduceIte, Nat.reduceEqDiff, List.map_cons, List.map_nil], by simp only [put_at, put_no, ev_t,
          ev_c, reduceIte, Nat.reduceEqDiff, List.map_cons, List.map_nil]⟩
  · rintro fr18 h21 ⟨hS22, f19, f20⟩
    simp only [List.drop_succ_cons, List.drop_zero]
    simp only [f19, run_mv, put_at, put_no, ev_t, ev_c, reduceIte, Nat.reduceEqDiff, List.map_cons, List.map_nil]
    refine ops_j 5 (fun fr' h' => Sep h' h.length ([]) ∧ fr' 24 = .bool (v10 || (decide ((30 : Int) < (List.length v_0.Acked : Int)))) ∧ fr' 1 = .ref [.int .i64 v_0.Truth.Epoch,
        .int .i64 v_0.Truth.Leader, lst cI v_0.Truth.InStep, lst Node.cells v_0.Nodes, lst Row.cells v_0.Acked] 0) (fun Q23 hN24 => ?_) ?_
    · simp only [List.take_succ_cons, List.take_zero]
      simp only [run_guard (g := 19), put_at, put_no, ev_t, ev_c, reduceIte, Nat.reduceEqDiff, List.map_cons, List.map_nil]
      refine guard_split (t := v10) (fun hg25 => ?_) (fun hg25 => ?_)
      · simp only [hg25, run_guard (g := 19), guard_off', run_pick, put1_some, xpick_t, run_ops_nil, run_nil, put_at, put_no, ev_t, ev_c, reduceIte, Nat.reduceEqDiff,
          List.map_cons, List.map_nil]
        exact hN24 _ _ ⟨hS22, by rw [orT hg25]; simp only [put_at, put_no, ev_t, ev_c, reduceIte, Nat.reduceEqDiff, List.map_cons, List.map_nil], by simp only [f20, put_at,
            put_no, ev_t, ev_c, reduceIte, Nat.reduceEqDiff, List.map_cons, List.map_nil]⟩
      · simp only [hg25, run_guard (g := 19), guard_false, f20, run_fa, put1_some, Nat.reduceAdd, Nat.zero_add, Nat.add_zero, xfa_ref, run_ld, put_at, put_no, ev_t, ev_c,
          reduceIte, Nat.reduceEqDiff, List.map_cons, List.map_nil]
        refine put1_eq (v := lst Row.cells v_0.Acked) rfl ?_
        simp only [hg25, run_guard (g := 19), guard_false, run_len, put1_some, xlen_lst, run_bin, xgtr, run_pick, xpick_f, run_ops_nil, run_nil, put_at, put_no, ev_t, ev_c,
            reduceIte, Nat.reduceEqDiff, List.map_cons, List.map_nil]
        exact hN24 _ _ ⟨hS22, by rw [orF hg25]; simp only [put_at, put_no, ev_t, ev_c, reduceIte, Nat.reduceEqDiff, List.map_cons, List.map_nil], by simp only [f20, put_at,
            put_no, ev_t, ev_c, reduceIte, Nat.reduceEqDiff, List.map_cons, List.map_nil]⟩
    · rintro fr26 h29 ⟨hS30, f27, f28⟩
      simp only [List.drop_succ_cons, List.drop_zero]
      simp only [run_ops_nil, f27, run_cond, put_at, put_no, ev_t, ev_c, reduceIte, Nat.reduceEqDiff, List.map_cons, List.map_nil]
      refine cond_split (t := (v10 || (decide ((30 : Int) < (List.length v_0.Acked : Int))))) (fun hc31 => ?_) (fun hc31 => ?_)
      · rw [iteT hc31] at hF12
        simp only [run_seq, run_reg, run_mv, run_ops_nil, run_ret, put_at, put_no, ev_t, ev_c, reduceIte, Nat.reduceEqDiff, List.map_cons, List.map_nil]
        have he := some_inj hF12
        subst he
        simp only [end_ret1, put_at, put_no, ev_t, ev_c, reduceIte, Nat.reduceEqDiff, List.map_cons, List.map_nil]
        exact rfl
      · rw [iteF hc31] at hF12
        simp only [run_skip, x59_6, run_seq, run_reg, f28, run_fa, put1_some, Nat.reduceAdd, Nat.zero_add, Nat.add_zero, xfa_ref, run_ld, put_at, put_no, ev_t, ev_c, reduceIte,
            Nat.reduceEqDiff, List.map_cons, List.map_nil]
        refine put1_eq (v := lst Node.cells v_0.Nodes) rfl ?_
        simp only [run_len, put1_some, xlen_lst, run_mv, run_ops_nil, put_at, put_no, ev_t, ev_c, reduceIte, Nat.reduceEqDiff, List.map_cons, List.map_nil]
        obtain ⟨oc34, hX36, hk37⟩ := jn_some hF12
        simp only [x59_5]
        refine rangeL_j (σ := Unit) v_0.Nodes (fun i32 x33 _ => impl_isCluster_b1 v_0 i32 x33 ) (fun s fr' h' => fr' 1 = .ref [.int .i64 v_0.Truth.Epoch,
            .int .i64 v_0.Truth.Leader, lst cI v_0.Truth.InStep, lst Node.cells v_0.Nodes,
            lst Row.cells v_0.Acked] 0 ∧ fr' 26 = lst Node.cells v_0.Nodes ∧ Sep h' h.length ([])) hX36 ⟨by simp only [f28, put_at, put_no, ev_t, ev_c, reduceIte,
            Nat.reduceEqDiff, List.map_cons, List.map_nil], by simp only [put_at, put_no, ev_t, ev_c, reduceIte, Nat.reduceEqDiff, List.map_cons, List.map_nil],
            hS30⟩ (by simp only [put_at, put_no, ev_t, ev_c, reduceIte, Nat.reduceEqDiff, List.map_cons, List.map_nil]) (by simp only [put_at, put_no, ev_t, ev_c, reduceIte,
            Nat.reduceEqDiff, List.map_cons, List.map_nil]) (fun _ _ _ h => h) rfl rfl (fun _ _ _ _ h => h) (fun _ _ _ _ h => h) (fun _ _ _ _ h => h) (by decide) ?_ ?_
        · rintro i32 x33 _ fr46 h47 hx51 ⟨f49, f50, hS48⟩ f52 f53 oc35 hF38 hr39 Q40 hN41 hB45 hK42 hR43 hE44
          unfold impl_isCluster_b1 at hF38
          simp only [x59_3, run_seq, run_reg, f52, run_mv, f50, run_ia, put_at, put_no, ev_t, ev_c, reduceIte, Nat.reduceEqDiff, List.map_cons, List.map_nil]
          refine put1_eq (v := .ref (Node.cells x33) 0) (xia_lstN hx51 rfl) ?_
          simp only [run_ld, put_at, put_no, ev_t, ev_c, reduceIte, Nat.reduceEqDiff, List.map_cons, List.map_nil]
          refine put1_eq (v := .agg [.int .i64 x33.View.Epoch, .int .i64 x33.View.Leader, lst cI x33.View.InStep, lst Row.cells x33.Log, lst cI x33.Known,
              .int .i64 x33.Told]) rfl ?_
          simp only [run_new, put_at, put_no, ev_t, ev_c, reduceIte, Nat.reduceEqDiff, List.map_cons, List.map_nil]
          refine put2_newC hS48 (fun b54 h55 hS56 => ?_)
          simp only [run_mv, run_st, put_at, put_no, ev_t, ev_c, reduceIte, Nat.reduceEqDiff, List.map_cons, List.map_nil]
          refine put2_stCx (us := [.int .i64 x33.View.Epoch, .int .i64 x33.View.Leader, lst cI x33.View.InStep, lst Row.cells x33.Log, lst cI x33.Known,
              .int .i64 x33.Told]) rfl (cs' := [.int .i64 x33.View.Epoch, .int .i64 x33.View.Leader, lst cI x33.View.InStep, lst Row.cells x33.Log, lst cI x33.Known,
              .int .i64 x33.Told]) hS56 hW rfl rfl (Nat.le_of_ble_eq_true rfl) rfl (fun h58 hS59 => ?_)
          simp only [put_no, run_ops_nil, put_at, ev_t, ev_c, reduceIte, Nat.reduceEqDiff, List.map_cons, List.map_nil]
          refine frz_stepC hS59 hW (by simp only [put_at, put_no, ev_t, ev_c, reduceIte, Nat.reduceEqDiff, List.map_cons, List.map_nil]) (fun h60 hS61 => ?_)
          simp only [run_frz_nil, x59_2, run_seq, run_reg, run_ld, put_at, put_no, ev_t, ev_c, reduceIte, Nat.reduceEqDiff, List.map_cons, List.map_nil]
          refine put1_eq (v := .agg [.int .i64 x33.View.Epoch, .int .i64 x33.View.Leader, lst cI x33.View.InStep, lst Row.cells x33.Log, lst cI x33.Known,
              .int .i64 x33.Told]) rfl ?_
          simp only [run_mv, f49, run_fa, put1_some, Nat.reduceAdd, Nat.zero_add, Nat.add_zero, xfa_ref, run_ld, put_at, put_no, ev_t, ev_c, reduceIte, Nat.reduceEqDiff,
              List.map_cons, List.map_nil]
          refine put1_eq (v := lst Node.cells v_0.Nodes) rfl ?_
          obtain ⟨v62, hx63, hF64⟩ := bind_some' hF38
          simp only [run_len, put1_some, xlen_lst, run_call, put_at, put_no, ev_t, ev_c, reduceIte, Nat.reduceEqDiff, List.map_cons, List.map_nil]
          refine call1 rfl (mapM1 (snap_agg (mapM1 snap_int (mapM1 snap_int (mapM1 snap_lst (mapM1 snap_lst (mapM1 snap_lst (mapM1 snap_int mapM0))))))) (mapM1 snap_int
              (mapM1 snap_int mapM0))) (impl_isClusterNode_x (fun b hb => decide_eq_true hb) x33 (i32 : Int) (List.length v_0.Nodes : Int) v62 hx63) ?_
          simp only [run_un, put1_some, xnot, run_mv, put_at, put_no, ev_t, ev_c, reduceIte, Nat.reduceEqDiff, List.map_cons, List.map_nil]
          refine ops_j 8 (fun fr' h' => Sep h' h.length ([]) ∧ fr' 48 = .bool ((!v62) || (decide (v_0.Truth.Epoch < x33.View.Epoch))) ∧ fr' 1 = .ref [.int .i64 v_0.Truth.Epoch,
              .int .i64 v_0.Truth.Leader, lst cI v_0.Truth.InStep, lst Node.cells v_0.Nodes,
              lst Row.cells v_0.Acked] 0 ∧ fr' 3 = .int .i64 (i32 : Int) ∧ fr' 4 = .ref [.int .i64 x33.View.Epoch, .int .i64 x33.View.Leader, lst cI x33.View.InStep,
              lst Row.cells x33.Log, lst cI x33.Known,
              .int .i64 x33.Told] 0 ∧ fr' 26 = lst Node.cells v_0.Nodes ∧ fr' 27 = .int .i64 (List.length v_0.Nodes : Int) ∧ fr' 28 = .int .i64 (i32 : Int)) (fun Q65 hN66 => ?_) ?_
          · simp only [List.take_succ_cons, List.take_zero]
            simp only [run_guard (g := 40), put_at, put_no, ev_t, ev_c, reduceIte, Nat.reduceEqDiff, List.map_cons, List.map_nil]
            refine guard_split (t := (!v62)) (fun hg67 => ?_) (fun hg67 => ?_)
            · simp only [hg67, run_guard (g := 40), guard_off', run_pick, put1_some, xpick_t, run_ops_nil, run_nil, put_at, put_no, ev_t, ev_c, reduceIte, Nat.reduceEqDiff,
                List.map_cons, List.map_nil]
              exact hN66 _ _ ⟨hS61, by rw [orT hg67]; simp only [put_at, put_no, ev_t, ev_c, reduceIte, Nat.reduceEqDiff, List.map_cons, List.map_nil], by simp only [f49, put_at,
                  put_no, ev_t, ev_c, reduceIte, Nat.reduceEqDiff, List.map_cons, List.map_nil], by simp only [put_at, put_no, ev_t, ev_c, reduceIte, Nat.reduceEqDiff,
                  List.map_cons, List.map_nil], by simp only [put_at, put_no, ev_t, ev_c, reduceIte, Nat.reduceEqDiff, List.map_cons, List.map_nil], by simp only [f50, put_at,
                  put_no, ev_t, ev_c, reduceIte, Nat.reduceEqDiff, List.map_cons, List.map_nil], by simp only [f53, put_at, put_no, ev_t, ev_c, reduceIte, Nat.reduceEqDiff,
                  List.map_cons, List.map_nil], by simp only [f52, put_at, put_no, ev_t, ev_c, reduceIte, Nat.reduceEqDiff, List.map_cons, List.map_nil]⟩
            · simp only [hg67, run_guard (g := 40), guard_false, run_fa, put1_some, Nat.reduceAdd, Nat.zero_add, Nat.add_zero, xfa_ref, run_ld, put_at, put_no, ev_t, ev_c,
                reduceIte, Nat.reduceEqDiff, List.map_cons, List.map_nil]
              refine put1_eq (v := .int .i64 x33.View.Epoch) rfl ?_
              simp only [hg67, run_guard (g := 40), guard_false, f49, run_fa, put1_some, Nat.reduceAdd, Nat.zero_add, Nat.add_zero, xfa_ref, run_ld, put_at, put_no, ev_t, ev_c,
                  reduceIte, Nat.reduceEqDiff, List.map_cons, List.map_nil]
              refine put1_eq (v := .int .i64 v_0.Truth.Epoch) rfl ?_
              simp only [hg67, run_guard (g := 40), guard_false, run_bin, put1_some, xgtr, run_pick, xpick_f, run_ops_nil, run_nil, put_at, put_no, ev_t, ev_c, reduceIte,
                  Nat.reduceEqDiff, List.map_cons, List.map_nil]
              exact hN66 _ _ ⟨hS61, by rw [orF hg67]; simp only [put_at, put_no, ev_t, ev_c, reduceIte, Nat.reduceEqDiff, List.map_cons, List.map_nil], by simp only [f49, put_at,
                  put_no, ev_t, ev_c, reduceIte, Nat.reduceEqDiff, List.map_cons, List.map_nil], by simp only [put_at, put_no, ev_t, ev_c, reduceIte, Nat.reduceEqDiff,
                  List.map_cons, List.map_nil], by simp only [put_at, put_no, ev_t, ev_c, reduceIte, Nat.reduceEqDiff, List.map_cons, List.map_nil], by simp only [f50, put_at,
                  put_no, ev_t, ev_c, reduceIte, Nat.reduceEqDiff, List.map_cons, List.map_nil], by simp only [f53, put_at, put_no, ev_t, ev_c, reduceIte, Nat.reduceEqDiff,
                  List.map_cons, List.map_nil], by simp only [f52, put_at, put_no, ev_t, ev_c, reduceIte, Nat.reduceEqDiff, List.map_cons, List.map_nil]⟩
          · rintro fr68 h76 ⟨hS77, f69, f70, f71, f72, f73, f74, f75⟩
            simp only [List.drop_succ_cons, List.drop_zero]
            simp only [f69, run_mv, put_at, put_no, ev_t, ev_c, reduceIte, Nat.reduceEqDiff, List.map_cons, List.map_nil]
            refine ops_j 17 (fun fr' h' => Sep h' h.length ([]) ∧ fr' 66 = .bool (((!v62) || (decide (v_0.Truth.Epoch < x33.View.Epoch))) || ((decide
                (x33.View.Epoch = v_0.Truth.Epoch)) && (decide (x33.View.Leader ≠ v_0.Truth.Leader)))) ∧ fr' 1 = .ref [.int .i64 v_0.Truth.Epoch, .int .i64 v_0.Truth.Leader,
                lst cI v_0.Truth.InStep, lst Node.cells v_0.Nodes, lst Row.cells v_0.Acked] 0 ∧ fr' 3 = .int .i64 (i32 : Int) ∧ fr' 4 = .ref [.int .i64 x33.View.Epoch,
                .int .i64 x33.View.Leader, lst cI x33.View.InStep, lst Row.cells x33.Log, lst cI x33.Known,
                .int .i64 x33.Told] 0 ∧ fr' 26 = lst Node.cells v_0.Nodes ∧ fr' 27 = .int .i64 (List.length v_0.Nodes : Int) ∧ fr' 28 = .int .i64 (i32 : Int))
                (fun Q78 hN79 => ?_) ?_
            · simp only [List.take_succ_cons, List.take_zero]
              simp only [run_guard (g := 49), put_at, put_no, ev_t, ev_c, reduceIte, Nat.reduceEqDiff, List.map_cons, List.map_nil]
              refine guard_split (t := ((!v62) || (decide (v_0.Truth.Epoch < x33.View.Epoch)))) (fun hg80 => ?_) (fun hg80 => ?_)
              · simp only [hg80, run_guard (g := 49), guard_off', run_guard (g := 57), guard_tup, run_pick, put1_some, xpick_t, run_ops_nil, run_nil, put_at, put_no, ev_t, ev_c,
                  reduceIte, Nat.reduceEqDiff, List.map_cons, List.map_nil]
                exact hN79 _ _ ⟨hS77, by rw [orT hg80]; simp only [put_at, put_no, ev_t, ev_c, reduceIte, Nat.reduceEqDiff, List.map_cons, List.map_nil], by simp only [f70,
                    put_at, put_no, ev_t, ev_c, reduceIte, Nat.reduceEqDiff, List.map_cons, List.map_nil], by simp only [f71, put_at, put_no, ev_t, ev_c, reduceIte,
                    Nat.reduceEqDiff, List.map_cons, List.map_nil], by simp only [f72, put_at, put_no, ev_t, ev_c, reduceIte, Nat.reduceEqDiff, List.map_cons, List.map_nil],
                    by simp only [f73, put_at, put_no, ev_t, ev_c, reduceIte, Nat.reduceEqDiff, List.map_cons, List.map_nil], by simp only [f74, put_at, put_no, ev_t, ev_c,
                    reduceIte, Nat.reduceEqDiff, List.map_cons, List.map_nil], by simp only [f75, put_at, put_no, ev_t, ev_c, reduceIte, Nat.reduceEqDiff, List.map_cons,
                    List.map_nil]⟩
              · simp only [hg80, run_guard (g := 49), guard_false, f72, run_fa, put1_some, Nat.reduceAdd, Nat.zero_add, Nat.add_zero, xfa_ref, run_ld, put_at, put_no, ev_t, ev_c,
                  reduceIte, Nat.reduceEqDiff, List.map_cons, List.map_nil]
                refine put1_eq (v := .int .i64 x33.View.Epoch) rfl ?_
                simp only [hg80, run_guard (g := 49), guard_false, f70, run_fa, put1_some, Nat.reduceAdd, Nat.zero_add, Nat.add_zero, xfa_ref, run_ld, put_at, put_no, ev_t, ev_c,
                    reduceIte, Nat.reduceEqDiff, List.map_cons, List.map_nil]
                refine put1_eq (v := .int .i64 v_0.Truth.Epoch) rfl ?_
                simp only [hg80, run_guard (g := 49), guard_false, run_bin, put1_some, xeql, run_mv, put_at, put_no, ev_t, ev_c, reduceIte, Nat.reduceEqDiff, List.map_cons,
                    List.map_nil]
                refine ops_j 8 (fun fr' h' => Sep h' h.length ([]) ∧ fr' 65 = .bool ((decide (x33.View.Epoch = v_0.Truth.Epoch)) && (decide
                    (x33.View.Leader ≠ v_0.Truth.Leader))) ∧ fr' 1 = .ref [.int .i64 v_0.Truth.Epoch, .int .i64 v_0.Truth.Leader, lst cI v_0.Truth.InStep,
                    lst Node.cells v_0.Nodes, lst Row.cells v_0.Acked] 0 ∧ fr' 3 = .int .i64 (i32 : Int) ∧ fr' 4 = .ref [.int .i64 x33.View.Epoch, .int .i64 x33.View.Leader,
                    lst cI x33.View.InStep, lst Row.cells x33.Log, lst cI x33.Known,
                    .int .i64 x33.Told] 0 ∧ fr' 26 = lst Node.cells v_0.Nodes ∧ fr' 27 = .int .i64 (List.length v_0.Nodes : Int) ∧ fr' 28 = .int .i64 (i32 : Int) ∧ fr' 49 = .bool
                    ((!v62) || (decide (v_0.Truth.Epoch < x33.View.Epoch)))) (fun Q81 hN82 => ?_) ?_
                · simp only [List.take_succ_cons, List.take_zero]
                  simp only [run_guard (g := 57), put_at, put_no, ev_t, ev_c, reduceIte, Nat.reduceEqDiff, List.map_cons, List.map_nil]
                  refine guard_split (t := (decide (x33.View.Epoch = v_0.Truth.Epoch))) (fun hg83 => ?_) (fun hg83 => ?_)
                  · simp only [hg83, run_guard (g := 57), guard_true, f72, run_fa, put1_some, Nat.reduceAdd, Nat.zero_add, Nat.add_zero, xfa_ref, run_ld, put_at, put_no, ev_t,
                      ev_c, reduceIte, Nat.reduceEqDiff, List.map_cons, List.map_nil]
                    refine put1_eq (v := .int .i64 x33.View.Leader) rfl ?_
                    simp only [hg83, run_guard (g := 57), guard_true, f70, run_fa, put1_some, Nat.reduceAdd, Nat.zero_add, Nat.add_zero, xfa_ref, run_ld, put_at, put_no, ev_t,
                        ev_c, reduceIte, Nat.reduceEqDiff, List.map_cons, List.map_nil]
                    refine put1_eq (v := .int .i64 v_0.Truth.Leader) rfl ?_
                    simp only [hg83, run_guard (g := 57), guard_true, run_bin, put1_some, xneq, hg80, run_guard (g := 49), guard_false, run_pick, xpick_t, run_ops_nil, run_nil,
                        put_at, put_no, ev_t, ev_c, reduceIte, Nat.reduceEqDiff, List.map_cons, List.map_nil]
                    exact hN82 _ _ ⟨hS77, by rw [andT hg83]; simp only [put_at, put_no, ev_t, ev_c, reduceIte, Nat.reduceEqDiff, List.map_cons, List.map_nil], by simp only [f70,
                        put_at, put_no, ev_t, ev_c, reduceIte, Nat.reduceEqDiff, List.map_cons, List.map_nil], by simp only [f71, put_at, put_no, ev_t, ev_c, reduceIte,
                        Nat.reduceEqDiff, List.map_cons, List.map_nil], by simp only [f72, put_at, put_no, ev_t, ev_c, reduceIte, Nat.reduceEqDiff, List.map_cons, List.map_nil],
                        by simp only [f73, put_at, put_no, ev_t, ev_c, reduceIte, Nat.reduceEqDiff, List.map_cons, List.map_nil], by simp only [f74, put_at, put_no, ev_t, ev_c,
                        reduceIte, Nat.reduceEqDiff, List.map_cons, List.map_nil], by simp only [f75, put_at, put_no, ev_t, ev_c, reduceIte, Nat.reduceEqDiff, List.map_cons,
                        List.map_nil], by simp only [hg80, put_at, put_no, ev_t, ev_c, reduceIte, Nat.reduceEqDiff, List.map_cons, List.map_nil]⟩
                  · simp only [hg83, run_guard (g := 57), guard_off, hg80, run_guard (g := 49), guard_false, run_pick, put1_some, xpick_f, run_ops_nil, run_nil, put_at, put_no,
                      ev_t, ev_c, reduceIte, Nat.reduceEqDiff, List.map_cons, List.map_nil]
                    exact hN82 _ _ ⟨hS77, by rw [andF hg83]; simp only [put_at, put_no, ev_t, ev_c, reduceIte, Nat.reduceEqDiff, List.map_cons, List.map_nil], by simp only [f70,
                        put_at, put_no, ev_t, ev_c, reduceIte, Nat.reduceEqDiff, List.map_cons, List.map_nil], by simp only [f71, put_at, put_no, ev_t, ev_c, reduceIte,
                        Nat.reduceEqDiff, List.map_cons, List.map_nil], by simp only [f72, put_at, put_no, ev_t, ev_c, reduceIte, Nat.reduceEqDiff, List.map_cons, List.map_nil],
                        by simp only [f73, put_at, put_no, ev_t, ev_c, reduceIte, Nat.reduceEqDiff, List.map_cons, List.map_nil], by simp only [f74, put_at, put_no, ev_t, ev_c,
                        reduceIte, Nat.reduceEqDiff, List.map_cons, List.map_nil], by simp only [f75, put_at, put_no, ev_t, ev_c, reduceIte, Nat.reduceEqDiff, List.map_cons,
                        List.map_nil], by simp only [hg80, put_at, put_no, ev_t, ev_c, reduceIte, Nat.reduceEqDiff, List.map_cons, List.map_nil]⟩
                · rintro fr84 h93 ⟨hS94, f85, f86, f87, f88, f89, f90, f91, f92⟩
                  simp only [List.drop_succ_cons, List.drop_zero]
                  simp only [f92, hg80, run_pick, put1_some, xpick_f, f85, run_ops_nil, run_nil, put_at, put_no, ev_t, ev_c, reduceIte, Nat.reduceEqDiff, List.map_cons,
                      List.map_nil]
                  exact hN79 _ _ ⟨hS94, by rw [orF hg80]; simp only [put_at, put_no, ev_t, ev_c, reduceIte, Nat.reduceEqDiff, List.map_cons, List.map_nil], by simp only [f86,
                      put_at, put_no, ev_t, ev_c, reduceIte, Nat.reduceEqDiff, List.map_cons, List.map_nil], by simp only [f87, put_at, put_no, ev_t, ev_c, reduceIte,
                      Nat.reduceEqDiff, List.map_cons, List.map_nil], by simp only [f88, put_at, put_no, ev_t, ev_c, reduceIte, Nat.reduceEqDiff, List.map_cons, List.map_nil],
                      by simp only [f89, put_at, put_no, ev_t, ev_c, reduceIte, Nat.reduceEqDiff, List.map_cons, List.map_nil], by simp only [f90, put_at, put_no, ev_t, ev_c,
                      reduceIte, Nat.reduceEqDiff, List.map_cons, List.map_nil], by simp only [f91, put_at, put_no, ev_t, ev_c, reduceIte, Nat.reduceEqDiff, List.map_cons,
                      List.map_nil]⟩
            · rintro fr95 h103 ⟨hS104, f96, f97, f98, f99, f100, f101, f102⟩
              simp only [List.drop_succ_cons, List.drop_zero]
              simp only [run_ops_nil, f96, run_cond, put_at, put_no, ev_t, ev_c, reduceIte, Nat.reduceEqDiff, List.map_cons, List.map_nil]
              refine cond_split (t := (((!v62) || (decide (v_0.Truth.Epoch < x33.View.Epoch))) || ((decide (x33.View.Epoch = v_0.Truth.Epoch)) && (decide
                  (x33.View.Leader ≠ v_0.Truth.Leader))))) (fun hc105 => ?_) (fun hc105 => ?_)
              · rw [iteT hc105] at hF64
                simp only [run_seq, run_reg, run_mv, run_ops_nil, run_ret, put_at, put_no, ev_t, ev_c, reduceIte, Nat.reduceEqDiff, List.map_cons, List.map_nil]
                have e106 := some_inj hF64
                subst e106
                have ho107 := hr39 _ rfl
                have hk108 := hk37
                rw [ho107] at hk108
                dsimp only [jnO] at hk108
                apply hR43
                have he := some_inj hk108
                subst he
                simp only [end_ret1, put_at, put_no, ev_t, ev_c, reduceIte, Nat.reduceEqDiff, List.map_cons, List.map_nil]
                exact rfl
              · rw [iteF hc105] at hF64
                simp only [run_skip, x59_1, run_seq, run_draw, f97, d4_fa, put1d_some, Nat.reduceAdd, Nat.zero_add, Nat.add_zero, xfa_ref, d4_ld, put_at, put_no, ev_t, ev_c,
                    reduceIte, Nat.reduceEqDiff, List.map_cons, List.map_nil]
                refine put1d_eq (v := lst cI v_0.Truth.InStep) rfl ?_
                obtain ⟨v109, hx110, hF111⟩ := bind_some' hF64
                simp only [f98, d4_mv, put1d_some, run_d3_call, put_at, put_no, ev_t, ev_c, reduceIte, Nat.reduceEqDiff, List.map_cons, List.map_nil]
                refine call1d rfl (mapM1 snap_lst (mapM1 snap_int mapM0)) (slices_Contains_int_x (fun b hb => decide_eq_true hb) v_0.Truth.InStep (i32 : Int) v109 hx110) ?_
                simp only [d4_mv, put1d_some, put_at, put_no, ev_t, ev_c, reduceIte, Nat.reduceEqDiff, List.map_cons, List.map_nil]
                simp only [run_guardd (g := 72), put_at, put_no, ev_t, ev_c, reduceIte, Nat.reduceEqDiff, List.map_cons, List.map_nil]
                refine guardd_split (t := v109) (fun hg112 => ?_) (fun hg112 => ?_)
                · rw [iteT hg112] at hF111
                  simp only [hg112, run_guardd (g := 72), guardd_true, f99, d4_fa, put1d_some, Nat.reduceAdd, Nat.zero_add, Nat.add_zero, xfa_ref, d4_ld, put_at, put_no, ev_t,
                      ev_c, reduceIte, Nat.reduceEqDiff, List.map_cons, List.map_nil]
                  refine put1d_eq (v := lst Row.cells x33.Log) rfl ?_
                  simp only [hg112, run_guardd (g := 72), guardd_true, d4_len, put1d_some, xlen_lst, f97, d4_fa, Nat.reduceAdd, Nat.zero_add, Nat.add_zero, xfa_ref, d4_ld, put_at,
                      put_no, ev_t, ev_c, reduceIte, Nat.reduceEqDiff, List.map_cons, List.map_nil]
                  refine put1d_eq (v := lst Row.cells v_0.Acked) rfl ?_
                  simp only [hg112, run_guardd (g := 72), guardd_true, d4_len, put1d_some, xlen_lst, d4_bin, xlss, d4_mv, put_at, put_no, ev_t, ev_c, reduceIte, Nat.reduceEqDiff,
                      List.map_cons, List.map_nil]
                  simp only [run_guardd (g := 80), put_at, put_no, ev_t, ev_c, reduceIte, Nat.reduceEqDiff, List.map_cons, List.map_nil]
                  refine guardd_split (t := (decide ((List.length x33.Log : Int) < (List.length v_0.Acked : Int)))) (fun hg113 => ?_) (fun hg113 => ?_)
                  · rw [iteT hg113] at hF111
                    simp only [hg113, run_guardd (g := 80), guardd_off', hg112, run_guardd (g := 72), guardd_true, d4_pick, put1d_some, xpick_t, run_draw_nil, run_cond, cond_true,
                        run_seq, run_reg, run_mv, run_ops_nil, run_ret, put_at, put_no, ev_t, ev_c, reduceIte, Nat.reduceEqDiff, List.map_cons, List.map_nil]
                    have e114 := some_inj hF111
                    subst e114
                    have ho115 := hr39 _ rfl
                    have hk116 := hk37
                    rw [ho115] at hk116
                    dsimp only [jnO] at hk116
                    apply hR43
                    have he := some_inj hk116
                    subst he
                    simp only [end_ret1, put_at, put_no, ev_t, ev_c, reduceIte, Nat.reduceEqDiff, List.map_cons, List.map_nil]
                    exact rfl
                  · rw [iteF hg113] at hF111
                    simp only [hg113, run_guardd (g := 80), guardd_false, f99, d4_fa, put1d_some, Nat.reduceAdd, Nat.zero_add, Nat.add_zero, xfa_ref, d4_ld, put_at, put_no, ev_t,
                        ev_c, reduceIte, Nat.reduceEqDiff, List.map_cons, List.map_nil]
                    refine put1d_eq (v := lst Row.cells x33.Log) rfl ?_
                    simp only [hg113, run_guardd (g := 80), guardd_false, f97, d4_fa, put1d_some, Nat.reduceAdd, Nat.zero_add, Nat.add_zero, xfa_ref, d4_ld, put_at, put_no, ev_t,
                        ev_c, reduceIte, Nat.reduceEqDiff, List.map_cons, List.map_nil]
                    refine put1d_eq (v := lst Row.cells v_0.Acked) rfl ?_
                    obtain ⟨l117, hx118, hF119⟩ := bind_some' hF111
                    simp only [hg113, run_guardd (g := 80), guardd_false, d4_len, put1d_some, xlen_lst, d4_slc, Option.map_some, Option.map_none, put_at, put_no, ev_t, ev_c,
                        reduceIte, Nat.reduceEqDiff, List.map_cons, List.map_nil]
                    refine put1d_eq (pslc_lst_hi hx118 (fun _ => rfl)) ?_
                    simp only [hg113, run_guardd (g := 80), guardd_false, f97, d4_fa, put1d_some, Nat.reduceAdd, Nat.zero_add, Nat.add_zero, xfa_ref, d4_ld, put_at, put_no, ev_t,
                        ev_c, reduceIte, Nat.reduceEqDiff, List.map_cons, List.map_nil]
                    refine put1d_eq (v := lst Row.cells v_0.Acked) rfl ?_
                    obtain ⟨v120, hx121, hF122⟩ := bind_some' hF119
                    simp only [hg113, run_guardd (g := 80), guardd_false, run_d3_call, put_at, put_no, ev_t, ev_c, reduceIte, Nat.reduceEqDiff, List.map_cons, List.map_nil]
                    refine call1d rfl (mapM1 snap_lst (mapM1 snap_lst mapM0)) (slices_Equal_Row_x (fun b hb => decide_eq_true hb) l117 v_0.Acked v120 hx121) ?_
                    simp only [hg113, run_guardd (g := 80), guardd_false, d4_un, put1d_some, xnot, hg112, run_guardd (g := 72), guardd_true, d4_pick, xpick_f, xpick_t,
                        run_draw_nil, run_cond, put_at, put_no, ev_t, ev_c, reduceIte, Nat.reduceEqDiff, List.map_cons, List.map_nil]
                    refine cond_split (t := (!v120)) (fun hc123 => ?_) (fun hc123 => ?_)
                    · rw [iteT hc123] at hF122
                      simp only [run_seq, run_reg, run_mv, run_ops_nil, run_ret, put_at, put_no, ev_t, ev_c, reduceIte, Nat.reduceEqDiff, List.map_cons, List.map_nil]
                      have e124 := some_inj hF122
                      subst e124
                      have ho125 := hr39 _ rfl
                      have hk126 := hk37
                      rw [ho125] at hk126
                      dsimp only [jnO] at hk126
                      apply hR43
                      have he := some_inj hk126
                      subst he
                      simp only [end_ret1, put_at, put_no, ev_t, ev_c, reduceIte, Nat.reduceEqDiff, List.map_cons, List.map_nil]
                      exact rfl
                    · rw [iteF hc123] at hF122
                      simp only [run_skip, run_nil, put_at, put_no, ev_t, ev_c, reduceIte, Nat.reduceEqDiff, List.map_cons, List.map_nil]
                      have e127 := some_inj hF122
                      exact hN41 _ _ _ e127.symm ⟨by simp only [f97, put_at, put_no, ev_t, ev_c, reduceIte, Nat.reduceEqDiff, List.map_cons, List.map_nil], by simp only [f100,
                          put_at, put_no, ev_t, ev_c, reduceIte, Nat.reduceEqDiff, List.map_cons, List.map_nil], hS104⟩ (by simp only [f102, put_at, put_no, ev_t, ev_c, reduceIte,
                          Nat.reduceEqDiff, List.map_cons, List.map_nil]) (by simp only [f101, put_at, put_no, ev_t, ev_c, reduceIte, Nat.reduceEqDiff, List.map_cons,
                          List.map_nil])
                · rw [iteF hg112] at hF111
                  simp only [hg112, run_guardd (g := 72), guardd_off, run_guardd (g := 80), guardd_tup, d4_pick, put1d_some, xpick_f, run_draw_nil, run_cond, cond_false, run_skip,
                      run_nil, put_at, put_no, ev_t, ev_c, reduceIte, Nat.reduceEqDiff, List.map_cons, List.map_nil]
                  have e128 := some_inj hF111
                  exact hN41 _ _ _ e128.symm ⟨by simp only [f97, put_at, put_no, ev_t, ev_c, reduceIte, Nat.reduceEqDiff, List.map_cons, List.map_nil], by simp only [f100, put_at,
                      put_no, ev_t, ev_c, reduceIte, Nat.reduceEqDiff, List.map_cons, List.map_nil], hS104⟩ (by simp only [f102, put_at, put_no, ev_t, ev_c, reduceIte,
                      Nat.reduceEqDiff, List.map_cons, List.map_nil]) (by simp only [f101, put_at, put_no, ev_t, ev_c, reduceIte, Nat.reduceEqDiff, List.map_cons, List.map_nil])
        · rintro _ fr130 h131 rfl ⟨f133, f134, hS132⟩
          dsimp only [jnO] at hk37
          unfold impl_isCluster_j1 at hk37
          simp only [run_seq, run_reg, run_mv, run_ops_nil, run_ret, put_at, put_no, ev_t, ev_c, reduceIte, Nat.reduceEqDiff, List.map_cons, List.map_nil]
          have he := some_inj hk37
          subst he
          simp only [end_ret1, put_at, put_no, ev_t, ev_c, reduceIte, Nat.reduceEqDiff, List.map_cons, List.map_nil]
          exact rfl
theorem impl_GoodCluster_x {W : Nat → Bool} {h : Heap} (hW : ∀ b,
    h.length ≤ b → W b = true) (c_0 : Cluster) (r : Bool) (hF : impl_GoodCluster c_0 = some r) : Ret E W 17 [.agg [.int .i64 c_0.Truth.Epoch, .int .i64 c_0.Truth.Leader,
    lst cI c_0.Truth.InStep, lst Node.cells c_0.Nodes, lst Row.cells c_0.Acked]] h (fun v h' => cut h.length h' E.sz false 9 v = some (.bool r)) := by
  refine Ret.of (fn := x17) rfl (Run.of ?_)
  unfold impl_GoodCluster at hF
  have zf0 : argFr [.agg [.int .i64 c_0.Truth.Epoch, .int .i64 c_0.Truth.Leader, lst cI c_0.Truth.InStep, lst Node.cells c_0.Nodes,
      lst Row.cells c_0.Acked]] 0 = .agg [.int .i64 c_0.Truth.Epoch, .int .i64 c_0.Truth.Leader, lst cI c_0.Truth.InStep, lst Node.cells c_0.Nodes, lst Row.cells c_0.Acked] := rfl
  generalize argFr [.agg [.int .i64 c_0.Truth.Epoch, .int .i64 c_0.Truth.Leader, lst cI c_0.Truth.InStep, lst Node.cells c_0.Nodes, lst Row.cells c_0.Acked]] = fr0 at zf0 ⊢
  have hS : Sep h h.length [] := Sep.nil h
  simp only [x17, run_seq, run_reg, run_box, zf0, put_at, put_no, ev_t, ev_c, reduceIte, Nat.reduceEqDiff, List.map_cons, List.map_nil]
  refine put2_boxC (cs := [.int .i64 c_0.Truth.Epoch, .int .i64 c_0.Truth.Leader, lst cI c_0.Truth.InStep, lst Node.cells c_0.Nodes,
      lst Row.cells c_0.Acked]) hS rfl rfl rfl (fun b1 h2 hS3 => ?_)
  simp only [run_mv, run_ops_nil, put_at, put_no, ev_t, ev_c, reduceIte, Nat.reduceEqDiff, List.map_cons, List.map_nil]
  refine frz_stepC hS3 hW (by simp only [put_at, put_no, ev_t, ev_c, reduceIte, Nat.reduceEqDiff, List.map_cons, List.map_nil]) (fun h5 hS6 => ?_)
  simp only [run_frz_nil, run_seq, run_reg, run_ld, put_at, put_no, ev_t, ev_c, reduceIte, Nat.reduceEqDiff, List.map_cons, List.map_nil]
  refine put1_eq (v := .agg [.int .i64 c_0.Truth.Epoch, .int .i64 c_0.Truth.Leader, lst cI c_0.Truth.InStep, lst Node.cells c_0.Nodes, lst Row.cells c_0.Acked]) rfl ?_
  obtain ⟨v7, hx8, hF9⟩ := bind_some' hF
  simp only [run_call, put_at, put_no, ev_t, ev_c, reduceIte, Nat.reduceEqDiff, List.map_cons, List.map_nil]
  refine call1 rfl (mapM1 (snap_agg (mapM1 snap_int (mapM1 snap_int (mapM1 snap_lst (mapM1 snap_lst (mapM1 snap_lst mapM0)))))) mapM0) (impl_isCluster_x
      (fun b hb => decide_eq_true hb) c_0 v7 hx8) ?_
  simp only [run_mv, run_ops_nil, run_ret, put_at, put_no, ev_t, ev_c, reduceIte, Nat.reduceEqDiff, List.map_cons, List.map_nil]
  have he := some_inj hF9
  subst he
  simp only [end_ret1, put_at, put_no, ev_t, ev_c, reduceIte, Nat.reduceEqDiff, List.map_cons, List.map_nil]
  exact rfl
theorem laws_FnExactGoodCluster_x {W : Nat → Bool} {h : Heap} (hW : ∀ b,
    h.length ≤ b → W b = true) (k : Nat) (aC_0 : Cluster) (r : Bool) (hF : laws_FnExactGoodCluster k aC_0 = some r) : Ret E W 4 [.agg [.int .i64 aC_0.Truth.Epoch,
    .int .i64 aC_0.Truth.Leader, lst cI aC_0.Truth.InStep, lst Node.cells aC_0.Nodes,
    lst Row.cells aC_0.Acked]] h (fun v h' => cut h.length h' E.sz false 9 v = some (.bool r)) := by
  refine Ret.of (fn := x4) rfl (Run.of ?_)
  unfold laws_FnExactGoodCluster at hF
  have zf0 : argFr [.agg [.int .i64 aC_0.Truth.Epoch, .int .i64 aC_0.Truth.Leader, lst cI aC_0.Truth.InStep, lst Node.cells aC_0.Nodes,
      lst Row.cells aC_0.Acked]] 0 = .agg [.int .i64 aC_0.Truth.Epoch, .int .i64 aC_0.Truth.Leader, lst cI aC_0.Truth.InStep, lst Node.cells aC_0.Nodes,
      lst Row.cells aC_0.Acked] := rfl
  generalize argFr [.agg [.int .i64 aC_0.Truth.Epoch, .int .i64 aC_0.Truth.Leader, lst cI aC_0.Truth.InStep, lst Node.cells aC_0.Nodes, lst Row.cells aC_0.Acked]] = fr0 at zf0 ⊢
  have hS : Sep h h.length [] := Sep.nil h
  simp only [x4, run_seq, run_reg, run_box, zf0, put_at, put_no, ev_t, ev_c, reduceIte, Nat.reduceEqDiff, List.map_cons, List.map_nil]
  refine put2_boxC (cs := [.int .i64 aC_0.Truth.Epoch, .int .i64 aC_0.Truth.Leader, lst cI aC_0.Truth.InStep, lst Node.cells aC_0.Nodes,
      lst Row.cells aC_0.Acked]) hS rfl rfl rfl (fun b1 h2 hS3 => ?_)
  simp only [run_mv, run_ops_nil, put_at, put_no, ev_t, ev_c, reduceIte, Nat.reduceEqDiff, List.map_cons, List.map_nil]
  refine frz_stepC hS3 hW (by simp only [put_at, put_no, ev_t, ev_c, reduceIte, Nat.reduceEqDiff, List.map_cons, List.map_nil]) (fun h5 hS6 => ?_)
  simp only [run_frz_nil, x4_8, run_seq, run_reg, run_mv, run_ops_nil, x4_7, run_ld, put_at, put_no, ev_t, ev_c, reduceIte, Nat.reduceEqDiff, List.map_cons, List.map_nil]
  refine put1_eq (v := .agg [.int .i64 aC_0.Truth.Epoch, .int .i64 aC_0.Truth.Leader, lst cI aC_0.Truth.InStep, lst Node.cells aC_0.Nodes, lst Row.cells aC_0.Acked]) rfl ?_
  obtain ⟨v7, hx8, hF9⟩ := bind_some' hF
  simp only [run_mv, run_call, put_at, put_no, ev_t, ev_c, reduceIte, Nat.reduceEqDiff, List.map_cons, List.map_nil]
  refine call1 rfl (mapM1 (snap_agg (mapM1 snap_int (mapM1 snap_int (mapM1 snap_lst (mapM1 snap_lst (mapM1 snap_lst mapM0)))))) (mapM1 snap_int mapM0)) (laws_szCluster_x
      (fun b hb => decide_eq_true hb) k aC_0 1048576 v7 hx8) ?_
  simp only [run_mv, run_ops_nil, x4_6, run_seq, run_reg, run_bin, put1_some, xlss, run_cond, put_at, put_no, ev_t, ev_c, reduceIte, Nat.reduceEqDiff, List.map_cons, List.map_nil]
  refine cond_split (t := (decide (v7 < 0))) (fun hc10 => ?_) (fun hc10 => ?_)
  · rw [iteT hc10] at hF9
    simp only [run_seq, run_reg, run_mv, run_ops_nil, run_ret, put_at, put_no, ev_t, ev_c, reduceIte, Nat.reduceEqDiff, List.map_cons, List.map_nil]
    have he := some_inj hF9
    subst he
    simp only [end_ret1, put_at, put_no, ev_t, ev_c, reduceIte, Nat.reduceEqDiff, List.map_cons, List.map_nil]
    exact rfl
  · rw [iteF hc10] at hF9
    simp only [run_skip, x4_5, run_seq, run_reg, run_ld, put_at, put_no, ev_t, ev_c, reduceIte, Nat.reduceEqDiff, List.map_cons, List.map_nil]
    refine put1_eq (v := .agg [.int .i64 aC_0.Truth.Epoch, .int .i64 aC_0.Truth.Leader, lst cI aC_0.Truth.InStep, lst Node.cells aC_0.Nodes, lst Row.cells aC_0.Acked]) rfl ?_
    obtain ⟨v11, hx12, hF13⟩ := bind_some' hF9
    simp only [run_call, put_at, put_no, ev_t, ev_c, reduceIte, Nat.reduceEqDiff, List.map_cons, List.map_nil]
    refine call2 rfl hS6 (mapM1 (snap_agg (mapM1 snap_int (mapM1 snap_int (mapM1 snap_lst (mapM1 snap_lst (mapM1 snap_lst mapM0)))))) mapM0) (laws_toCluster_x
        (fun b hb => decide_eq_true hb) k aC_0 v11 hx12) ?_
    rintro _ h26 ⟨v14, c15, v18, c19, v22, c23, rfl, hv16, hv20, hv24, hS27⟩
    refine ⟨_, free_a (all_c rfl (all_c rfl (all_c (SlF.free1 hv16) (all_c (SlN.free1 hv20) (all_c (SlF.free1 hv24) all_n))))), hS27,
        (pf_app (SlF.pf hv16 (fun _ => rfl)) (pf_app (SlN.pf hv20 Node.RO) (pf_app (SlF.pf hv24 (fun _ => rfl)) pf_nil))), fun h28 hS29 => ?_⟩
    have hS30 : Sep h28 h.length (c15 ++ (c19 ++ (c23 ++ ([])))) := by simpa only [List.append_assoc, List.nil_append] using hS29
    obtain ⟨v31, hx32, hF33⟩ := bind_some' hF13
    simp only [run_call, put_at, put_no, ev_t, ev_c, reduceIte, Nat.reduceEqDiff, List.map_cons, List.map_nil]
    refine call1 rfl (mapM1 (snap_agg (mapM1 snap_int (mapM1 snap_int (mapM1 (SlF.snap hv16 hS30 rfl (fun _ => rfl) (fun _ => rfl)) (mapM1 (SlN.snap hv20 _
        (Sep.m1 hS30) rfl Node.RO) (mapM1 (SlF.snap hv24 (Sep.m2 hS30) rfl (fun _ => rfl) (fun _ => rfl)) mapM0)))))) mapM0) (spec_GoodCluster_x
        (fun b hb => decide_eq_true hb) k v11 v31 hx32) ?_
    simp only [run_mv, run_ops_nil, x4_4, run_seq, run_reg, run_ld, put_at, put_no, ev_t, ev_c, reduceIte, Nat.reduceEqDiff, List.map_cons, List.map_nil]
    refine put1_eq (v := .agg [.int .i64 aC_0.Truth.Epoch, .int .i64 aC_0.Truth.Leader, lst cI aC_0.Truth.InStep, lst Node.cells aC_0.Nodes, lst Row.cells aC_0.Acked]) rfl ?_
    obtain ⟨v34, hx35, hF36⟩ := bind_some' hF33
    simp only [run_call, put_at, put_no, ev_t, ev_c, reduceIte, Nat.reduceEqDiff, List.map_cons, List.map_nil]
    refine call2 rfl hS30 (mapM1 (snap_agg (mapM1 snap_int (mapM1 snap_int (mapM1 snap_lst (mapM1 snap_lst (mapM1 snap_lst mapM0)))))) mapM0) (laws_toCluster_x
        (fun b hb => decide_eq_true hb) k aC_0 v34 hx35) ?_
    rintro _ h49 ⟨v37, c38, v41, c42, v45, c46, rfl, hv39, hv43, hv47, hS50⟩
    refine ⟨_, free_a (all_c rfl (all_c rfl (all_c (SlF.free1 hv39) (all_c (SlN.free1 hv43) (all_c (SlF.free1 hv47) all_n))))), hS50,
        (pf_app (SlF.pf hv39 (fun _ => rfl)) (pf_app (SlN.pf hv43 Node.RO) (pf_app (SlF.pf hv47 (fun _ => rfl)) pf_nil))), fun h51 hS52 => ?_⟩
    have hS53 : Sep h51 h.length (c38 ++ (c42 ++ (c46 ++ (c15 ++ (c19 ++ (c23 ++ ([]))))))) := by simpa only [List.append_assoc, List.nil_append] using hS52
    simp only [run_new, put_at, put_no, ev_t, ev_c, reduceIte, Nat.reduceEqDiff, List.map_cons, List.map_nil]
    refine put2_newC hS53 (fun b54 h55 hS56 => ?_)
    simp only [run_st, put_at, put_no, ev_t, ev_c, reduceIte, Nat.reduceEqDiff, List.map_cons, List.map_nil]
    refine put2_stCx (us := [.int .i64 v34.Truth.Epoch, .int .i64 v34.Truth.Leader, v37, v41, v45]) rfl (cs' := [.int .i64 v34.Truth.Epoch, .int .i64 v34.Truth.Leader, v37, v41,
        v45]) hS56 hW rfl (all_c rfl (all_c rfl (all_c (SlF.one hv39) (all_c (SlN.one hv43) (all_c (SlF.one hv47) all_n))))) (Nat.le_of_ble_eq_true rfl) rfl (fun h58 hS59 => ?_)
    simp only [put_no, run_ops_nil, put_at, ev_t, ev_c, reduceIte, Nat.reduceEqDiff, List.map_cons, List.map_nil]
    refine frz_stepC hS59 hW (by simp only [put_at, put_no, ev_t, ev_c, reduceIte, Nat.reduceEqDiff, List.map_cons, List.map_nil]) (fun h60 hS61 => ?_)
    simp only [run_frz_nil, x4_3, run_seq, run_reg, run_ld, put_at, put_no, ev_t, ev_c, reduceIte, Nat.reduceEqDiff, List.map_cons, List.map_nil]
    refine put1_eq (v := .agg [.int .i64 v34.Truth.Epoch, .int .i64 v34.Truth.Leader, v37, v41, v45]) rfl ?_
    obtain ⟨v62, hx63, hF64⟩ := bind_some' hF36
    simp only [run_call, put_at, put_no, ev_t, ev_c, reduceIte, Nat.reduceEqDiff, List.map_cons, List.map_nil]
    refine call1 rfl (mapM1 (snap_agg (mapM1 snap_int (mapM1 snap_int (mapM1 (SlF.snap hv39 hS61 rfl (fun _ => rfl) (fun _ => rfl)) (mapM1 (SlN.snap hv43 _
        (Sep.m1 hS61) rfl Node.RO) (mapM1 (SlF.snap hv47 (Sep.m2 hS61) rfl (fun _ => rfl) (fun _ => rfl)) mapM0)))))) mapM0) (impl_GoodCluster_x
        (fun b hb => decide_eq_true hb) v34 v62 hx63) ?_
    simp only [run_mv, run_ops_nil, x4_2, run_seq, run_reg, run_eqb, put1_some, xeqb_t, run_cond, put_at, put_no, ev_t, ev_c, reduceIte, Nat.reduceEqDiff, List.map_cons,
        List.map_nil]
    refine cond_split (t := (!(v62 == v31))) (fun hc65 => ?_) (fun hc65 => ?_)
    · rw [iteT hc65] at hF64
      simp only [run_seq, run_reg, run_mv, run_ops_nil, run_ret, put_at, put_no, ev_t, ev_c, reduceIte, Nat.reduceEqDiff, List.map_cons, List.map_nil]
      have he := some_inj hF64
      subst he
      simp only [end_ret1, put_at, put_no, ev_t, ev_c, reduceIte, Nat.reduceEqDiff, List.map_cons, List.map_nil]
      exact rfl
    · rw [iteF hc65] at hF64
      simp only [run_skip, x4_1, run_seq, run_draw, d1_ld, ldd_ref, put_at, put_no, ev_t, ev_c, reduceIte, Nat.reduceEqDiff, List.map_cons, List.map_nil]
      refine put1d_eq (v := .agg [.int .i64 v34.Truth.Epoch, .int .i64 v34.Truth.Leader, v37, v41, v45]) rfl ?_
      simp only [d4_ld, put_at, put_no, ev_t, ev_c, reduceIte, Nat.reduceEqDiff, List.map_cons, List.map_nil]
      refine put1d_eq (v := .agg [.int .i64 aC_0.Truth.Epoch, .int .i64 aC_0.Truth.Leader, lst cI aC_0.Truth.InStep, lst Node.cells aC_0.Nodes, lst Row.cells aC_0.Acked]) rfl ?_
      obtain ⟨v66, hx67, hF68⟩ := bind_some' hF64
      simp only [run_d2_call, put_at, put_no, ev_t, ev_c, reduceIte, Nat.reduceEqDiff, List.map_cons, List.map_nil]
      refine call2q rfl hS61 (mapM1 (snap_agg (mapM1 snap_int (mapM1 snap_int (mapM1 snap_lst (mapM1 snap_lst (mapM1 snap_lst mapM0)))))) mapM0) (laws_toCluster_x
          (fun b hb => decide_eq_true hb) k aC_0 v66 hx67) ?_
      rintro _ h81 ⟨v69, c70, v73, c74, v77, c78, rfl, hv71, hv75, hv79, hS82⟩
      refine ⟨_, free_a (all_c rfl (all_c rfl (all_c (SlF.free1 hv71) (all_c (SlN.free1 hv75) (all_c (SlF.free1 hv79) all_n))))), hS82,
          (pf_app (SlF.pf hv71 (fun _ => rfl)) (pf_app (SlN.pf hv75 Node.RO) (pf_app (SlF.pf hv79 (fun _ => rfl)) pf_nil))), fun h83 hS84 => ?_⟩
      have hS85 : Sep h83 h.length (c70 ++ (c74 ++ (c78 ++ (c38 ++ (c42 ++ (c46 ++ (c15 ++ (c19 ++ (c23 ++ ([])))))))))) := by simpa only [List.append_assoc,
          List.nil_append] using hS84
      obtain ⟨v86, hx87, hF88⟩ := bind_some' hF68
      simp only [run_d3_call, put_at, put_no, ev_t, ev_c, reduceIte, Nat.reduceEqDiff, List.map_cons, List.map_nil]
      refine call1d rfl (mapM1 (snap_agg (mapM1 snap_int (mapM1 snap_int (mapM1 (SlF.snap hv39 (Sep.m3 hS85) rfl (fun _ => rfl) (fun _ => rfl)) (mapM1 (SlN.snap hv43 _
          (Sep.m4 hS85) rfl Node.RO) (mapM1 (SlF.snap hv47 (Sep.m5 hS85) rfl (fun _ => rfl) (fun _ => rfl)) mapM0)))))) (mapM1 (snap_agg (mapM1 snap_int (mapM1 snap_int (mapM1
          (SlF.snap hv71 hS85 rfl (fun _ => rfl) (fun _ => rfl)) (mapM1 (SlN.snap hv75 _ (Sep.m1 hS85) rfl Node.RO) (mapM1 (SlF.snap hv79 (Sep.m2 hS85) rfl (fun _ => rfl)
          (fun _ => rfl)) mapM0)))))) mapM0)) (laws_eqCluster_x (fun b hb => decide_eq_true hb) k v34 v66 v86 hx87) ?_
      simp only [d4_un, put1d_some, xnot, run_draw_nil, run_cond, put_at, put_no, ev_t, ev_c, reduceIte, Nat.reduceEqDiff, List.map_cons, List.map_nil]
      refine cond_split (t := (!v86)) (fun hc89 => ?_) (fun hc89 => ?_)
      · rw [iteT hc89] at hF88
        simp only [run_seq, run_reg, run_mv, run_ops_nil, run_ret, put_at, put_no, ev_t, ev_c, reduceIte, Nat.reduceEqDiff, List.map_cons, List.map_nil]
        have he := some_inj hF88
        subst he
        simp only [end_ret1, put_at, put_no, ev_t, ev_c, reduceIte, Nat.reduceEqDiff, List.map_cons, List.map_nil]
        exact rfl
      · rw [iteF hc89] at hF88
        simp only [run_skip, run_seq, run_reg, run_mv, run_ops_nil, run_ret, put_at, put_no, ev_t, ev_c, reduceIte, Nat.reduceEqDiff, List.map_cons, List.map_nil]
        have he := some_inj hF88
        subst he
        simp only [end_ret1, put_at, put_no, ev_t, ev_c, reduceIte, Nat.reduceEqDiff, List.map_cons, List.map_nil]
        exact rfl
end Go.Proofs.Ytohofoampalhoaa.X
