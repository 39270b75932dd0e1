/- The functions' code comes to what the plain functions say (5). -/
import Derived.Test.YtohofoampalhoaaXEH4
set_option linter.unusedVariables false
set_option linter.unusedSimpArgs false
set_option maxRecDepth 100000
namespace Go.Proofs.Ytohofoampalhoaa.X
open Go
theorem impl_isCluster_x {W : Nat → Bool} {h : Heap} (hW : ∀ b,
    h.length ≤ b → W b = true) (v_0 : Cluster) (r : Bool) (hF : impl_isCluster v_0 = some r) : Ret E W 59 [.agg [.int .i64 v_0.Truth.Epoch, .int .i64 v_0.Truth.Leader,
    lst cI v_0.Truth.InStep, lst Node.cells v_0.Nodes, lst Row.cells v_0.Acked]] h (fun v h' => cut h.length h' E.sz false 9 v = some (.bool r)) := by
  refine Ret.of (fn := x59) rfl (Run.of ?_)
  unfold impl_isCluster at hF
  have zf0 : argFr [.agg [.int .i64 v_0.Truth.Epoch, .int .i64 v_0.Truth.Leader, lst cI v_0.Truth.InStep, lst Node.cells v_0.Nodes,
      lst Row.cells v_0.Acked]] 0 = .agg [.int .i64 v_0.Truth.Epoch, .int .i64 v_0.Truth.Leader, lst cI v_0.Truth.InStep, lst Node.cells v_0.Nodes, lst Row.cells v_0.Acked] := rfl
  generalize argFr [.agg [.int .i64 v_0.Truth.Epoch, .int .i64 v_0.Truth.Leader, lst cI v_0.Truth.InStep, lst Node.cells v_0.Nodes, lst Row.cells v_0.Acked]] = fr0 at zf0 ⊢
  have hS : Sep h h.length [] := Sep.nil h
  simp only [x59, run_seq, run_reg, run_box, zf0, put_at, put_no, ev_t, ev_c, reduceIte, Nat.reduceEqDiff, List.map_cons, List.map_nil]
  refine put2_boxC (cs := [.int .i64 v_0.Truth.Epoch, .int .i64 v_0.Truth.Leader, lst cI v_0.Truth.InStep, lst Node.cells v_0.Nodes,
      lst Row.cells v_0.Acked]) hS rfl rfl rfl (fun b1 h2 hS3 => ?_)
  simp only [run_mv, run_ops_nil, put_at, put_no, ev_t, ev_c, reduceIte, Nat.reduceEqDiff, List.map_cons, List.map_nil]
  refine frz_stepC hS3 hW (by simp only [put_at, put_no, ev_t, ev_c, reduceIte, Nat.reduceEqDiff, List.map_cons, List.map_nil]) (fun h5 hS6 => ?_)
  simp only [run_frz_nil, x59_7, run_seq, run_reg, run_fa, put1_some, Nat.reduceAdd, Nat.zero_add, Nat.add_zero, xfa_ref, run_ld, put_at, put_no, ev_t, ev_c, reduceIte,
      Nat.reduceEqDiff, List.map_cons, List.map_nil]
  refine put1_eq (v := lst Node.cells v_0.Nodes) rfl ?_
  simp only [run_len, put1_some, xlen_lst, run_call, put_at, put_no, ev_t, ev_c, reduceIte, Nat.reduceEqDiff, List.map_cons, List.map_nil]
  refine call1 rfl (mapM1 snap_int (mapM1 snap_int (mapM1 snap_int mapM0))) (impl_in_x (fun b hb => decide_eq_true hb) (List.length v_0.Nodes : Int) 2 4 _ rfl) ?_
  simp only [run_un, put1_some, xnot, run_mv, put_at, put_no, ev_t, ev_c, reduceIte, Nat.reduceEqDiff, List.map_cons, List.map_nil]
  obtain ⟨v10, hx11, hF12⟩ := bind_some' hF
  refine ops_j 8 (fun fr' h' => Sep h' h.length ([]) ∧ fr' 18 = .bool v10 ∧ fr' 1 = .ref [.int .i64 v_0.Truth.Epoch, .int .i64 v_0.Truth.Leader, lst cI v_0.Truth.InStep,
      lst Node.cells v_0.Nodes, lst Row.cells v_0.Acked] 0) (fun Q7 hN8 => ?_) ?_
  · simp only [List.take_succ_cons, List.take_zero]
    simp only [run_guard (g := 10), put_at, put_no, ev_t, ev_c, reduceIte, Nat.reduceEqDiff, List.map_cons, List.map_nil]
    refine guard_split (t := (!(impl_in (List.length v_0.Nodes : Int) 2 4))) (fun hg9 => ?_) (fun hg9 => ?_)
    · rw [iteT hg9] at hx11
      simp only [hg9, run_guard (g := 10), guard_off', run_pick, put1_some, xpick_t, run_ops_nil, run_nil, put_at, put_no, ev_t, ev_c, reduceIte, Nat.reduceEqDiff, List.map_cons,
          List.map_nil]
      have e13 := some_inj hx11
      exact hN8 _ _ ⟨hS6, by rw [← e13]; simp only [put_at, put_no, ev_t, ev_c, reduceIte, Nat.reduceEqDiff, List.map_cons, List.map_nil], by simp only [put_at, put_no, ev_t,
          ev_c, reduceIte, Nat.reduceEqDiff, List.map_cons, List.map_nil]⟩
    · rw [iteF hg9] at hx11
      simp only [hg9, run_guard (g := 10), guard_false, run_fa, put1_some, Nat.reduceAdd, Nat.zero_add, Nat.add_zero, xfa_ref, run_ld, put_at, put_no, ev_t, ev_c, reduceIte,
          Nat.reduceEqDiff, List.map_cons, List.map_nil]
      refine put1_eq (v := .agg [.int .i64 v_0.Truth.Epoch, .int .i64 v_0.Truth.Leader, lst cI v_0.Truth.InStep]) rfl ?_
      simp only [hg9, run_guard (g := 10), guard_false, run_fa, put1_some, Nat.reduceAdd, Nat.zero_add, Nat.add_zero, xfa_ref, run_ld, put_at, put_no, ev_t, ev_c, reduceIte,
          Nat.reduceEqDiff, List.map_cons, List.map_nil]
      refine put1_eq (v := lst Node.cells v_0.Nodes) rfl ?_
      obtain ⟨v14, hx15, hF16⟩ := bind_some' hx11
      simp only [hg9, run_guard (g := 10), guard_false, run_len, put1_some, xlen_lst, run_call, put_at, put_no, ev_t, ev_c, reduceIte, Nat.reduceEqDiff, List.map_cons,
          List.map_nil]
      refine call1 rfl (mapM1 (snap_agg (mapM1 snap_int (mapM1 snap_int (mapM1 snap_lst mapM0)))) (mapM1 snap_int mapM0)) (impl_isView_x (fun b hb => decide_eq_true hb) v_0.Truth
          (List.length v_0.Nodes : Int) v14 hx15) ?_
      simp only [hg9, run_guard (g := 10), guard_false, run_un, put1_some, xnot, run_pick, xpick_f, run_ops_nil, run_nil, put_at, put_no, ev_t, ev_c, reduceIte, Nat.reduceEqDiff,
          List.map_cons, List.map_nil]
      have e17 := some_inj hF16
      exact hN8 _ _ ⟨hS6, by rw [← e17]; simp only [put_at, put_no, ev_t, ev_c, reduceIte, Nat.reduceEqDiff, List.map_cons, List.map_nil], by simp only [put_at, put_no, ev_t,
          ev_c, reduceIte, Nat.reduceEqDiff, List.map_cons, List.map_nil]⟩
  · rintro fr18 h21 ⟨hS22, f19, f20⟩
    simp only [List.drop_succ_cons, List.drop_zero]
    simp only [f19, run_mv, put_at, put_no, ev_t, ev_c, reduceIte, Nat.reduceEqDiff, List.map_cons, List.map_nil]
    refine ops_j 5 (fun fr' h' => Sep h' h.length ([]) ∧ fr' 24 = .bool (v10 || (decide ((30 : Int) < (List.length v_0.Acked : Int)))) ∧ fr' 1 = .ref [.int .i64 v_0.Truth.Epoch,
        .int .i64 v_0.Truth.Leader, lst cI v_0.Truth.InStep, lst Node.cells v_0.Nodes, lst Row.cells v_0.Acked] 0) (fun Q23 hN24 => ?_) ?_
    · simp only [List.take_succ_cons, List.take_zero]
      simp only [run_guard (g := 19), put_at, put_no, ev_t, ev_c, reduceIte, Nat.reduceEqDiff, List.map_cons, List.map_nil]
      refine guard_split (t := v10) (fun hg25 => ?_) (fun hg25 => ?_)
      · simp only [hg25, run_guard (g := 19), guard_off', run_pick, put1_some, xpick_t, run_ops_nil, run_nil, put_at, put_no, ev_t, ev_c, reduceIte, Nat.reduceEqDiff,
          List.map_cons, List.map_nil]
        exact hN24 _ _ ⟨hS22, by rw [orT hg25]; simp only [put_at, put_no, ev_t, ev_c, reduceIte, Nat.reduceEqDiff, List.map_cons, List.map_nil], by simp only [f20, put_at,
            put_no, ev_t, ev_c, reduceIte, Nat.reduceEqDiff, List.map_cons, List.map_nil]⟩
      · simp only [hg25, run_guard (g := 19), guard_false, f20, run_fa, put1_some, Nat.reduceAdd, Nat.zero_add, Nat.add_zero, xfa_ref, run_ld, put_at, put_no, ev_t, ev_c,
          reduceIte, Nat.reduceEqDiff, List.map_cons, List.map_nil]
        refine put1_eq (v := lst Row.cells v_0.Acked) rfl ?_
        simp only [hg25, run_guard (g := 19), guard_false, run_len, put1_some, xlen_lst, run_bin, xgtr, run_pick, xpick_f, run_ops_nil, run_nil, put_at, put_no, ev_t, ev_c,
            reduceIte, Nat.reduceEqDiff, List.map_cons, List.map_nil]
        exact hN24 _ _ ⟨hS22, by rw [orF hg25]; simp only [put_at, put_no, ev_t, ev_c, reduceIte, Nat.reduceEqDiff, List.map_cons, List.map_nil], by simp only [f20, put_at,
            put_no, ev_t, ev_c, reduceIte, Nat.reduceEqDiff, List.map_cons, List.map_nil]⟩
    · rintro fr26 h29 ⟨hS30, f27, f28⟩
      simp only [List.drop_succ_cons, List.drop_zero]
      simp only [run_ops_nil, f27, run_cond, put_at, put_no, ev_t, ev_c, reduceIte, Nat.reduceEqDiff, List.map_cons, List.map_nil]
      refine cond_split (t := (v10 || (decide ((30 : Int) < (List.length v_0.Acked : Int))))) (fun hc31 => ?_) (fun hc31 => ?_)
      · rw [iteT hc31] at hF12
        simp only [run_seq, run_reg, run_mv, run_ops_nil, run_ret, put_at, put_no, ev_t, ev_c, reduceIte, Nat.reduceEqDiff, List.map_cons, List.map_nil]
        have he := some_inj hF12
        subst he
        simp only [end_ret1, put_at, put_no, ev_t, ev_c, reduceIte, Nat.reduceEqDiff, List.map_cons, List.map_nil]
        exact rfl
      · rw [iteF hc31] at hF12
        simp only [run_skip, x59_6, run_seq, run_reg, f28, run_fa, put1_some, Nat.reduceAdd, Nat.zero_add, Nat.add_zero, xfa_ref, run_ld, put_at, put_no, ev_t, ev_c, reduceIte,
            Nat.reduceEqDiff, List.map_cons, List.map_nil]
        refine put1_eq (v := lst Node.cells v_0.Nodes) rfl ?_
        simp only [run_len, put1_some, xlen_lst, run_mv, run_ops_nil, put_at, put_no, ev_t, ev_c, reduceIte, Nat.reduceEqDiff, List.map_cons, List.map_nil]
        obtain ⟨oc34, hX36, hk37⟩ := jn_some hF12
        simp only [x59_5]
        refine rangeL_j (σ := Unit) v_0.Nodes (fun i32 x33 _ => impl_isCluster_b1 v_0 i32 x33 ) (fun s fr' h' => fr' 1 = .ref [.int .i64 v_0.Truth.Epoch,
            .int .i64 v_0.Truth.Leader, lst cI v_0.Truth.InStep, lst Node.cells v_0.Nodes,
            lst Row.cells v_0.Acked] 0 ∧ fr' 26 = lst Node.cells v_0.Nodes ∧ Sep h' h.length ([])) hX36 ⟨by simp only [f28, put_at, put_no, ev_t, ev_c, reduceIte,
            Nat.reduceEqDiff, List.map_cons, List.map_nil], by simp only [put_at, put_no, ev_t, ev_c, reduceIte, Nat.reduceEqDiff, List.map_cons, List.map_nil],
            hS30⟩ (by simp only [put_at, put_no, ev_t, ev_c, reduceIte, Nat.reduceEqDiff, List.map_cons, List.map_nil]) (by simp only [put_at, put_no, ev_t, ev_c, reduceIte,
            Nat.reduceEqDiff, List.map_cons, List.map_nil]) (fun _ _ _ h => h) rfl rfl (fun _ _ _ _ h => h) (fun _ _ _ _ h => h) (fun _ _ _ _ h => h) (by decide) ?_ ?_
        · rintro i32 x33 _ fr46 h47 hx51 ⟨f49, f50, hS48⟩ f52 f53 oc35 hF38 hr39 Q40 hN41 hB45 hK42 hR43 hE44
          unfold impl_isCluster_b1 at hF38
          simp only [x59_3, run_seq, run_reg, f52, run_mv, f50, run_ia, put_at, put_no, ev_t, ev_c, reduceIte, Nat.reduceEqDiff, List.map_cons, List.map_nil]
          refine put1_eq (v := .ref (Node.cells x33) 0) (xia_lstN hx51 rfl) ?_
          simp only [run_ld, put_at, put_no, ev_t, ev_c, reduceIte, Nat.reduceEqDiff, List.map_cons, List.map_nil]
          refine put1_eq (v := .agg [.int .i64 x33.View.Epoch, .int .i64 x33.View.Leader, lst cI x33.View.InStep, lst Row.cells x33.Log, lst cI x33.Known,
              .int .i64 x33.Told]) rfl ?_
          simp only [run_new, put_at, put_no, ev_t, ev_c, reduceIte, Nat.reduceEqDiff, List.map_cons, List.map_nil]
          refine put2_newC hS48 (fun b54 h55 hS56 => ?_)
          simp only [run_mv, run_st, put_at, put_no, ev_t, ev_c, reduceIte, Nat.reduceEqDiff, List.map_cons, List.map_nil]
          refine put2_stCx (us := [.int .i64 x33.View.Epoch, .int .i64 x33.View.Leader, lst cI x33.View.InStep, lst Row.cells x33.Log, lst cI x33.Known,
              .int .i64 x33.Told]) rfl (cs' := [.int .i64 x33.View.Epoch, .int .i64 x33.View.Leader, lst cI x33.View.InStep, lst Row.cells x33.Log, lst cI x33.Known,
              .int .i64 x33.Told]) hS56 hW rfl rfl (Nat.le_of_ble_eq_true rfl) rfl (fun h58 hS59 => ?_)
          simp only [put_no, run_ops_nil, put_at, ev_t, ev_c, reduceIte, Nat.reduceEqDiff, List.map_cons, List.map_nil]
          refine frz_stepC hS59 hW (by simp only [put_at, put_no, ev_t, ev_c, reduceIte, Nat.reduceEqDiff, List.map_cons, List.map_nil]) (fun h60 hS61 => ?_)
          simp only [run_frz_nil, x59_2, run_seq, run_reg, run_ld, put_at, put_no, ev_t, ev_c, reduceIte, Nat.reduceEqDiff, List.map_cons, List.map_nil]
          refine put1_eq (v := .agg [.int .i64 x33.View.Epoch, .int .i64 x33.View.Leader, lst cI x33.View.InStep, lst Row.cells x33.Log, lst cI x33.Known,
              .int .i64 x33.Told]) rfl ?_
          simp only [run_mv, f49, run_fa, put1_some, Nat.reduceAdd, Nat.zero_add, Nat.add_zero, xfa_ref, run_ld, put_at, put_no, ev_t, ev_c, reduceIte, Nat.reduceEqDiff,
              List.map_cons, List.map_nil]
          refine put1_eq (v := lst Node.cells v_0.Nodes) rfl ?_
          obtain ⟨v62, hx63, hF64⟩ := bind_some' hF38
          simp only [run_len, put1_some, xlen_lst, run_call, put_at, put_no, ev_t, ev_c, reduceIte, Nat.reduceEqDiff, List.map_cons, List.map_nil]
          refine call1 rfl (mapM1 (snap_agg (mapM1 snap_int (mapM1 snap_int (mapM1 snap_lst (mapM1 snap_lst (mapM1 snap_lst (mapM1 snap_int mapM0))))))) (mapM1 snap_int
              (mapM1 snap_int mapM0))) (impl_isClusterNode_x (fun b hb => decide_eq_true hb) x33 (i32 : Int) (List.length v_0.Nodes : Int) v62 hx63) ?_
          simp only [run_un, put1_some, xnot, run_mv, put_at, put_no, ev_t, ev_c, reduceIte, Nat.reduceEqDiff, List.map_cons, List.map_nil]
          refine ops_j 8 (fun fr' h' => Sep h' h.length ([]) ∧ fr' 48 = .bool ((!v62) || (decide (v_0.Truth.Epoch < x33.View.Epoch))) ∧ fr' 1 = .ref [.int .i64 v_0.Truth.Epoch,
              .int .i64 v_0.Truth.Leader, lst cI v_0.Truth.InStep, lst Node.cells v_0.Nodes,
              lst Row.cells v_0.Acked] 0 ∧ fr' 3 = .int .i64 (i32 : Int) ∧ fr' 4 = .ref [.int .i64 x33.View.Epoch, .int .i64 x33.View.Leader, lst cI x33.View.InStep,
              lst Row.cells x33.Log, lst cI x33.Known,
              .int .i64 x33.Told] 0 ∧ fr' 26 = lst Node.cells v_0.Nodes ∧ fr' 27 = .int .i64 (List.length v_0.Nodes : Int) ∧ fr' 28 = .int .i64 (i32 : Int)) (fun Q65 hN66 => ?_) ?_
          · simp only [List.take_succ_cons, List.take_zero]
            simp only [run_guard (g := 40), put_at, put_no, ev_t, ev_c, reduceIte, Nat.reduceEqDiff, List.map_cons, List.map_nil]
            refine guard_split (t := (!v62)) (fun hg67 => ?_) (fun hg67 => ?_)
            · simp only [hg67, run_guard (g := 40), guard_off', run_pick, put1_some, xpick_t, run_ops_nil, run_nil, put_at, put_no, ev_t, ev_c, reduceIte, Nat.reduceEqDiff,
                List.map_cons, List.map_nil]
              exact hN66 _ _ ⟨hS61, by rw [orT hg67]; simp only [put_at, put_no, ev_t, ev_c, reduceIte, Nat.reduceEqDiff, List.map_cons, List.map_nil], by simp only [f49, put_at,
                  put_no, ev_t, ev_c, reduceIte, Nat.reduceEqDiff, List.map_cons, List.map_nil], by simp only [put_at, put_no, ev_t, ev_c, reduceIte, Nat.reduceEqDiff,
                  List.map_cons, List.map_nil], by simp only [put_at, put_no, ev_t, ev_c, reduceIte, Nat.reduceEqDiff, List.map_cons, List.map_nil], by simp only [f50, put_at,
                  put_no, ev_t, ev_c, reduceIte, Nat.reduceEqDiff, List.map_cons, List.map_nil], by simp only [f53, put_at, put_no, ev_t, ev_c, reduceIte, Nat.reduceEqDiff,
                  List.map_cons, List.map_nil], by simp only [f52, put_at, put_no, ev_t, ev_c, reduceIte, Nat.reduceEqDiff, List.map_cons, List.map_nil]⟩
            · simp only [hg67, run_guard (g := 40), guard_false, run_fa, put1_some, Nat.reduceAdd, Nat.zero_add, Nat.add_zero, xfa_ref, run_ld, put_at, put_no, ev_t, ev_c,
                reduceIte, Nat.reduceEqDiff, List.map_cons, List.map_nil]
              refine put1_eq (v := .int .i64 x33.View.Epoch) rfl ?_
              simp only [hg67, run_guard (g := 40), guard_false, f49, run_fa, put1_some, Nat.reduceAdd, Nat.zero_add, Nat.add_zero, xfa_ref, run_ld, put_at, put_no, ev_t, ev_c,
                  reduceIte, Nat.reduceEqDiff, List.map_cons, List.map_nil]
              refine put1_eq (v := .int .i64 v_0.Truth.Epoch) rfl ?_
              simp only [hg67, run_guard (g := 40), guard_false, run_bin, put1_some, xgtr, run_pick, xpick_f, run_ops_nil, run_nil, put_at, put_no, ev_t, ev_c, reduceIte,
                  Nat.reduceEqDiff, List.map_cons, List.map_nil]
              exact hN66 _ _ ⟨hS61, by rw [orF hg67]; simp only [put_at, put_no, ev_t, ev_c, reduceIte, Nat.reduceEqDiff, List.map_cons, List.map_nil], by simp only [f49, put_at,
                  put_no, ev_t, ev_c, reduceIte, Nat.reduceEqDiff, List.map_cons, List.map_nil], by simp only [put_at, put_no, ev_t, ev_c, reduceIte, Nat.reduceEqDiff,
                  List.map_cons, List.map_nil], by simp only [put_at, put_no, ev_t, ev_c, reduceIte, Nat.reduceEqDiff, List.map_cons, List.map_nil], by simp only [f50, put_at,
                  put_no, ev_t, ev_c, reduceIte, Nat.reduceEqDiff, List.map_cons, List.map_nil], by simp only [f53, put_at, put_no, ev_t, ev_c, reduceIte, Nat.reduceEqDiff,
                  List.map_cons, List.map_nil], by simp only [f52, put_at, put_no, ev_t, ev_c, reduceIte, Nat.reduceEqDiff, List.map_cons, List.map_nil]⟩
          · rintro fr68 h76 ⟨hS77, f69, f70, f71, f72, f73, f74, f75⟩
            simp only [List.drop_succ_cons, List.drop_zero]
            simp only [f69, run_mv, put_at, put_no, ev_t, ev_c, reduceIte, Nat.reduceEqDiff, List.map_cons, List.map_nil]
            refine ops_j 17 (fun fr' h' => Sep h' h.length ([]) ∧ fr' 66 = .bool (((!v62) || (decide (v_0.Truth.Epoch < x33.View.Epoch))) || ((decide
                (x33.View.Epoch = v_0.Truth.Epoch)) && (decide (x33.View.Leader ≠ v_0.Truth.Leader)))) ∧ fr' 1 = .ref [.int .i64 v_0.Truth.Epoch, .int .i64 v_0.Truth.Leader,
                lst cI v_0.Truth.InStep, lst Node.cells v_0.Nodes, lst Row.cells v_0.Acked] 0 ∧ fr' 3 = .int .i64 (i32 : Int) ∧ fr' 4 = .ref [.int .i64 x33.View.Epoch,
                .int .i64 x33.View.Leader, lst cI x33.View.InStep, lst Row.cells x33.Log, lst cI x33.Known,
                .int .i64 x33.Told] 0 ∧ fr' 26 = lst Node.cells v_0.Nodes ∧ fr' 27 = .int .i64 (List.length v_0.Nodes : Int) ∧ fr' 28 = .int .i64 (i32 : Int))
                (fun Q78 hN79 => ?_) ?_
            · simp only [List.take_succ_cons, List.take_zero]
              simp only [run_guard (g := 49), put_at, put_no, ev_t, ev_c, reduceIte, Nat.reduceEqDiff, List.map_cons, List.map_nil]
              refine guard_split (t := ((!v62) || (decide (v_0.Truth.Epoch < x33.View.Epoch)))) (fun hg80 => ?_) (fun hg80 => ?_)
              · simp only [hg80, run_guard (g := 49), guard_off', run_guard (g := 57), guard_tup, run_pick, put1_some, xpick_t, run_ops_nil, run_nil, put_at, put_no, ev_t, ev_c,
                  reduceIte, Nat.reduceEqDiff, List.map_cons, List.map_nil]
                exact hN79 _ _ ⟨hS77, by rw [orT hg80]; simp only [put_at, put_no, ev_t, ev_c, reduceIte, Nat.reduceEqDiff, List.map_cons, List.map_nil], by simp only [f70,
                    put_at, put_no, ev_t, ev_c, reduceIte, Nat.reduceEqDiff, List.map_cons, List.map_nil], by simp only [f71, put_at, put_no, ev_t, ev_c, reduceIte,
                    Nat.reduceEqDiff, List.map_cons, List.map_nil], by simp only [f72, put_at, put_no, ev_t, ev_c, reduceIte, Nat.reduceEqDiff, List.map_cons, List.map_nil],
                    by simp only [f73, put_at, put_no, ev_t, ev_c, reduceIte, Nat.reduceEqDiff, List.map_cons, List.map_nil], by simp only [f74, put_at, put_no, ev_t, ev_c,
                    reduceIte, Nat.reduceEqDiff, List.map_cons, List.map_nil], by simp only [f75, put_at, put_no, ev_t, ev_c, reduceIte, Nat.reduceEqDiff, List.map_cons,
                    List.map_nil]⟩
              · simp only [hg80, run_guard (g := 49), guard_false, f72, run_fa, put1_some, Nat.reduceAdd, Nat.zero_add, Nat.add_zero, xfa_ref, run_ld, put_at, put_no, ev_t, ev_c,
                  reduceIte, Nat.reduceEqDiff, List.map_cons, List.map_nil]
                refine put1_eq (v := .int .i64 x33.View.Epoch) rfl ?_
                simp only [hg80, run_guard (g := 49), guard_false, f70, run_fa, put1_some, Nat.reduceAdd, Nat.zero_add, Nat.add_zero, xfa_ref, run_ld, put_at, put_no, ev_t, ev_c,
                    reduceIte, Nat.reduceEqDiff, List.map_cons, List.map_nil]
                refine put1_eq (v := .int .i64 v_0.Truth.Epoch) rfl ?_
                simp only [hg80, run_guard (g := 49), guard_false, run_bin, put1_some, xeql, run_mv, put_at, put_no, ev_t, ev_c, reduceIte, Nat.reduceEqDiff, List.map_cons,
                    List.map_nil]
                refine ops_j 8 (fun fr' h' => Sep h' h.length ([]) ∧ fr' 65 = .bool ((decide (x33.View.Epoch = v_0.Truth.Epoch)) && (decide
                    (x33.View.Leader ≠ v_0.Truth.Leader))) ∧ fr' 1 = .ref [.int .i64 v_0.Truth.Epoch, .int .i64 v_0.Truth.Leader, lst cI v_0.Truth.InStep,
                    lst Node.cells v_0.Nodes, lst Row.cells v_0.Acked] 0 ∧ fr' 3 = .int .i64 (i32 : Int) ∧ fr' 4 = .ref [.int .i64 x33.View.Epoch, .int .i64 x33.View.Leader,
                    lst cI x33.View.InStep, lst Row.cells x33.Log, lst cI x33.Known,
                    .int .i64 x33.Told] 0 ∧ fr' 26 = lst Node.cells v_0.Nodes ∧ fr' 27 = .int .i64 (List.length v_0.Nodes : Int) ∧ fr' 28 = .int .i64 (i32 : Int) ∧ fr' 49 = .bool
                    ((!v62) || (decide (v_0.Truth.Epoch < x33.View.Epoch)))) (fun Q81 hN82 => ?_) ?_
                · simp only [List.take_succ_cons, List.take_zero]
                  simp only [run_guard (g := 57), put_at, put_no, ev_t, ev_c, reduceIte, Nat.reduceEqDiff, List.map_cons, List.map_nil]
                  refine guard_split (t := (decide (x33.View.Epoch = v_0.Truth.Epoch))) (fun hg83 => ?_) (fun hg83 => ?_)
                  · simp only [hg83, run_guard (g := 57), guard_true, f72, run_fa, put1_some, Nat.reduceAdd, Nat.zero_add, Nat.add_zero, xfa_ref, run_ld, put_at, put_no, ev_t,
                      ev_c, reduceIte, Nat.reduceEqDiff, List.map_cons, List.map_nil]
                    refine put1_eq (v := .int .i64 x33.View.Leader) rfl ?_
                    simp only [hg83, run_guard (g := 57), guard_true, f70, run_fa, put1_some, Nat.reduceAdd, Nat.zero_add, Nat.add_zero, xfa_ref, run_ld, put_at, put_no, ev_t,
                        ev_c, reduceIte, Nat.reduceEqDiff, List.map_cons, List.map_nil]
                    refine put1_eq (v := .int .i64 v_0.Truth.Leader) rfl ?_
                    simp only [hg83, run_guard (g := 57), guard_true, run_bin, put1_some, xneq, hg80, run_guard (g := 49), guard_false, run_pick, xpick_t, run_ops_nil, run_nil,
                        put_at, put_no, ev_t, ev_c, reduceIte, Nat.reduceEqDiff, List.map_cons, List.map_nil]
                    exact hN82 _ _ ⟨hS77, by rw [andT hg83]; simp only [put_at, put_no, ev_t, ev_c, reduceIte, Nat.reduceEqDiff, List.map_cons, List.map_nil], by simp only [f70,
                        put_at, put_no, ev_t, ev_c, reduceIte, Nat.reduceEqDiff, List.map_cons, List.map_nil], by simp only [f71, put_at, put_no, ev_t, ev_c, reduceIte,
                        Nat.reduceEqDiff, List.map_cons, List.map_nil], by simp only [f72, put_at, put_no, ev_t, ev_c, reduceIte, Nat.reduceEqDiff, List.map_cons, List.map_nil],
                        by simp only [f73, put_at, put_no, ev_t, ev_c, reduceIte, Nat.reduceEqDiff, List.map_cons, List.map_nil], by simp only [f74, put_at, put_no, ev_t, ev_c,
                        reduceIte, Nat.reduceEqDiff, List.map_cons, List.map_nil], by simp only [f75, put_at, put_no, ev_t, ev_c, reduceIte, Nat.reduceEqDiff, List.map_cons,
                        List.map_nil], by simp only [hg80, put_at, put_no, ev_t, ev_c, reduceIte, Nat.reduceEqDiff, List.map_cons, List.map_nil]⟩
                  · simp only [hg83, run_guard (g := 57), guard_off, hg80, run_guard (g := 49), guard_false, run_pick, put1_some, xpick_f, run_ops_nil, run_nil, put_at, put_no,
                      ev_t, ev_c, reduceIte, Nat.reduceEqDiff, List.map_cons, List.map_nil]
                    exact hN82 _ _ ⟨hS77, by rw [andF hg83]; simp only [put_at, put_no, ev_t, ev_c, reduceIte, Nat.reduceEqDiff, List.map_cons, List.map_nil], by simp only [f70,
                        put_at, put_no, ev_t, ev_c, reduceIte, Nat.reduceEqDiff, List.map_cons, List.map_nil], by simp only [f71, put_at, put_no, ev_t, ev_c, reduceIte,
                        Nat.reduceEqDiff, List.map_cons, List.map_nil], by simp only [f72, put_at, put_no, ev_t, ev_c, reduceIte, Nat.reduceEqDiff, List.map_cons, List.map_nil],
                        by simp only [f73, put_at, put_no, ev_t, ev_c, reduceIte, Nat.reduceEqDiff, List.map_cons, List.map_nil], by simp only [f74, put_at, put_no, ev_t, ev_c,
                        reduceIte, Nat.reduceEqDiff, List.map_cons, List.map_nil], by simp only [f75, put_at, put_no, ev_t, ev_c, reduceIte, Nat.reduceEqDiff, List.map_cons,
                        List.map_nil], by simp only [hg80, put_at, put_no, ev_t, ev_c, reduceIte, Nat.reduceEqDiff, List.map_cons, List.map_nil]⟩
                · rintro fr84 h93 ⟨hS94, f85, f86, f87, f88, f89, f90, f91, f92⟩
                  simp only [List.drop_succ_cons, List.drop_zero]
                  simp only [f92, hg80, run_pick, put1_some, xpick_f, f85, run_ops_nil, run_nil, put_at, put_no, ev_t, ev_c, reduceIte, Nat.reduceEqDiff, List.map_cons,
                      List.map_nil]
                  exact hN79 _ _ ⟨hS94, by rw [orF hg80]; simp only [put_at, put_no, ev_t, ev_c, reduceIte, Nat.reduceEqDiff, List.map_cons, List.map_nil], by simp only [f86,
                      put_at, put_no, ev_t, ev_c, reduceIte, Nat.reduceEqDiff, List.map_cons, List.map_nil], by simp only [f87, put_at, put_no, ev_t, ev_c, reduceIte,
                      Nat.reduceEqDiff, List.map_cons, List.map_nil], by simp only [f88, put_at, put_no, ev_t, ev_c, reduceIte, Nat.reduceEqDiff, List.map_cons, List.map_nil],
                      by simp only [f89, put_at, put_no, ev_t, ev_c, reduceIte, Nat.reduceEqDiff, List.map_cons, List.map_nil], by simp only [f90, put_at, put_no, ev_t, ev_c,
                      reduceIte, Nat.reduceEqDiff, List.map_cons, List.map_nil], by simp only [f91, put_at, put_no, ev_t, ev_c, reduceIte, Nat.reduceEqDiff, List.map_cons,
                      List.map_nil]⟩
            · rintro fr95 h103 ⟨hS104, f96, f97, f98, f99, f100, f101, f102⟩
              simp only [List.drop_succ_cons, List.drop_zero]
              simp only [run_ops_nil, f96, run_cond, put_at, put_no, ev_t, ev_c, reduceIte, Nat.reduceEqDiff, List.map_cons, List.map_nil]
              refine cond_split (t := (((!v62) || (decide (v_0.Truth.Epoch < x33.View.Epoch))) || ((decide (x33.View.Epoch = v_0.Truth.Epoch)) && (decide
                  (x33.View.Leader ≠ v_0.Truth.Leader))))) (fun hc105 => ?_) (fun hc105 => ?_)
              · rw [iteT hc105] at hF64
                simp only [run_seq, run_reg, run_mv, run_ops_nil, run_ret, put_at, put_no, ev_t, ev_c, reduceIte, Nat.reduceEqDiff, List.map_cons, List.map_nil]
                have e106 := some_inj hF64
                subst e106
                have ho107 := hr39 _ rfl
                have hk108 := hk37
                rw [ho107] at hk108
                dsimp only [jnO] at hk108
                apply hR43
                have he := some_inj hk108
                subst he
                simp only [end_ret1, put_at, put_no, ev_t, ev_c, reduceIte, Nat.reduceEqDiff, List.map_cons, List.map_nil]
                exact rfl
              · rw [iteF hc105] at hF64
                simp only [run_skip, x59_1, run_seq, run_draw, f97, d4_fa, put1d_some, Nat.reduceAdd, Nat.zero_add, Nat.add_zero, xfa_ref, d4_ld, put_at, put_no, ev_t, ev_c,
                    reduceIte, Nat.reduceEqDiff, List.map_cons, List.map_nil]
                refine put1d_eq (v := lst cI v_0.Truth.InStep) rfl ?_
                obtain ⟨v109, hx110, hF111⟩ := bind_some' hF64
                simp only [f98, d4_mv, put1d_some, run_d3_call, put_at, put_no, ev_t, ev_c, reduceIte, Nat.reduceEqDiff, List.map_cons, List.map_nil]
                refine call1d rfl (mapM1 snap_lst (mapM1 snap_int mapM0)) (slices_Contains_int_x (fun b hb => decide_eq_true hb) v_0.Truth.InStep (i32 : Int) v109 hx110) ?_
                simp only [d4_mv, put1d_some, put_at, put_no, ev_t, ev_c, reduceIte, Nat.reduceEqDiff, List.map_cons, List.map_nil]
                simp only [run_guardd (g := 72), put_at, put_no, ev_t, ev_c, reduceIte, Nat.reduceEqDiff, List.map_cons, List.map_nil]
                refine guardd_split (t := v109) (fun hg112 => ?_) (fun hg112 => ?_)
                · rw [iteT hg112] at hF111
                  simp only [hg112, run_guardd (g := 72), guardd_true, f99, d4_fa, put1d_some, Nat.reduceAdd, Nat.zero_add, Nat.add_zero, xfa_ref, d4_ld, put_at, put_no, ev_t,
                      ev_c, reduceIte, Nat.reduceEqDiff, List.map_cons, List.map_nil]
                  refine put1d_eq (v := lst Row.cells x33.Log) rfl ?_
                  simp only [hg112, run_guardd (g := 72), guardd_true, d4_len, put1d_some, xlen_lst, f97, d4_fa, Nat.reduceAdd, Nat.zero_add, Nat.add_zero, xfa_ref, d4_ld, put_at,
                      put_no, ev_t, ev_c, reduceIte, Nat.reduceEqDiff, List.map_cons, List.map_nil]
                  refine put1d_eq (v := lst Row.cells v_0.Acked) rfl ?_
                  simp only [hg112, run_guardd (g := 72), guardd_true, d4_len, put1d_some, xlen_lst, d4_bin, xlss, d4_mv, put_at, put_no, ev_t, ev_c, reduceIte, Nat.reduceEqDiff,
                      List.map_cons, List.map_nil]
                  simp only [run_guardd (g := 80), put_at, put_no, ev_t, ev_c, reduceIte, Nat.reduceEqDiff, List.map_cons, List.map_nil]
                  refine guardd_split (t := (decide ((List.length x33.Log : Int) < (List.length v_0.Acked : Int)))) (fun hg113 => ?_) (fun hg113 => ?_)
                  · rw [iteT hg113] at hF111
                    simp only [hg113, run_guardd (g := 80), guardd_off', hg112, run_guardd (g := 72), guardd_true, d4_pick, put1d_some, xpick_t, run_draw_nil, run_cond, cond_true,
                        run_seq, run_reg, run_mv, run_ops_nil, run_ret, put_at, put_no, ev_t, ev_c, reduceIte, Nat.reduceEqDiff, List.map_cons, List.map_nil]
                    have e114 := some_inj hF111
                    subst e114
                    have ho115 := hr39 _ rfl
                    have hk116 := hk37
                    rw [ho115] at hk116
                    dsimp only [jnO] at hk116
                    apply hR43
                    have he := some_inj hk116
                    subst he
                    simp only [end_ret1, put_at, put_no, ev_t, ev_c, reduceIte, Nat.reduceEqDiff, List.map_cons, List.map_nil]
                    exact rfl
                  · rw [iteF hg113] at hF111
                    simp only [hg113, run_guardd (g := 80), guardd_false, f99, d4_fa, put1d_some, Nat.reduceAdd, Nat.zero_add, Nat.add_zero, xfa_ref, d4_ld, put_at, put_no, ev_t,
                        ev_c, reduceIte, Nat.reduceEqDiff, List.map_cons, List.map_nil]
                    refine put1d_eq (v := lst Row.cells x33.Log) rfl ?_
                    simp only [hg113, run_guardd (g := 80), guardd_false, f97, d4_fa, put1d_some, Nat.reduceAdd, Nat.zero_add, Nat.add_zero, xfa_ref, d4_ld, put_at, put_no, ev_t,
                        ev_c, reduceIte, Nat.reduceEqDiff, List.map_cons, List.map_nil]
                    refine put1d_eq (v := lst Row.cells v_0.Acked) rfl ?_
                    obtain ⟨l117, hx118, hF119⟩ := bind_some' hF111
                    simp only [hg113, run_guardd (g := 80), guardd_false, d4_len, put1d_some, xlen_lst, d4_slc, Option.map_some, Option.map_none, put_at, put_no, ev_t, ev_c,
                        reduceIte, Nat.reduceEqDiff, List.map_cons, List.map_nil]
                    refine put1d_eq (pslc_lst_hi hx118 (fun _ => rfl)) ?_
                    simp only [hg113, run_guardd (g := 80), guardd_false, f97, d4_fa, put1d_some, Nat.reduceAdd, Nat.zero_add, Nat.add_zero, xfa_ref, d4_ld, put_at, put_no, ev_t,
                        ev_c, reduceIte, Nat.reduceEqDiff, List.map_cons, List.map_nil]
                    refine put1d_eq (v := lst Row.cells v_0.Acked) rfl ?_
                    obtain ⟨v120, hx121, hF122⟩ := bind_some' hF119
                    simp only [hg113, run_guardd (g := 80), guardd_false, run_d3_call, put_at, put_no, ev_t, ev_c, reduceIte, Nat.reduceEqDiff, List.map_cons, List.map_nil]
                    refine call1d rfl (mapM1 snap_lst (mapM1 snap_lst mapM0)) (slices_Equal_Row_x (fun b hb => decide_eq_true hb) l117 v_0.Acked v120 hx121) ?_
                    simp only [hg113, run_guardd (g := 80), guardd_false, d4_un, put1d_some, xnot, hg112, run_guardd (g := 72), guardd_true, d4_pick, xpick_f, xpick_t,
                        run_draw_nil, run_cond, put_at, put_no, ev_t, ev_c, reduceIte, Nat.reduceEqDiff, List.map_cons, List.map_nil]
                    refine cond_split (t := (!v120)) (fun hc123 => ?_) (fun hc123 => ?_)
                    · rw [iteT hc123] at hF122
                      simp only [run_seq, run_reg, run_mv, run_ops_nil, run_ret, put_at, put_no, ev_t, ev_c, reduceIte, Nat.reduceEqDiff, List.map_cons, List.map_nil]
                      have e124 := some_inj hF122
                      subst e124
                      have ho125 := hr39 _ rfl
                      have hk126 := hk37
                      rw [ho125] at hk126
                      dsimp only [jnO] at hk126
                      apply hR43
                      have he := some_inj hk126
                      subst he
                      simp only [end_ret1, put_at, put_no, ev_t, ev_c, reduceIte, Nat.reduceEqDiff, List.map_cons, List.map_nil]
                      exact rfl
                    · rw [iteF hc123] at hF122
                      simp only [run_skip, run_nil, put_at, put_no, ev_t, ev_c, reduceIte, Nat.reduceEqDiff, List.map_cons, List.map_nil]
                      have e127 := some_inj hF122
                      exact hN41 _ _ _ e127.symm ⟨by simp only [f97, put_at, put_no, ev_t, ev_c, reduceIte, Nat.reduceEqDiff, List.map_cons, List.map_nil], by simp only [f100,
                          put_at, put_no, ev_t, ev_c, reduceIte, Nat.reduceEqDiff, List.map_cons, List.map_nil], hS104⟩ (by simp only [f102, put_at, put_no, ev_t, ev_c, reduceIte,
                          Nat.reduceEqDiff, List.map_cons, List.map_nil]) (by simp only [f101, put_at, put_no, ev_t, ev_c, reduceIte, Nat.reduceEqDiff, List.map_cons,
                          List.map_nil])
                · rw [iteF hg112] at hF111
                  simp only [hg112, run_guardd (g := 72), guardd_off, run_guardd (g := 80), guardd_tup, d4_pick, put1d_some, xpick_f, run_draw_nil, run_cond, cond_false, run_skip,
                      run_nil, put_at, put_no, ev_t, ev_c, reduceIte, Nat.reduceEqDiff, List.map_cons, List.map_nil]
                  have e128 := some_inj hF111
                  exact hN41 _ _ _ e128.symm ⟨by simp only [f97, put_at, put_no, ev_t, ev_c, reduceIte, Nat.reduceEqDiff, List.map_cons, List.map_nil], by simp only [f100, put_at,
                      put_no, ev_t, ev_c, reduceIte, Nat.reduceEqDiff, List.map_cons, List.map_nil], hS104⟩ (by simp only [f102, put_at, put_no, ev_t, ev_c, reduceIte,
                      Nat.reduceEqDiff, List.map_cons, List.map_nil]) (by simp only [f101, put_at, put_no, ev_t, ev_c, reduceIte, Nat.reduceEqDiff, List.map_cons, List.map_nil])
        · rintro _ fr130 h131 rfl ⟨f133, f134, hS132⟩
          dsimp only [jnO] at hk37
          unfold impl_isCluster_j1 at hk37
          simp only [run_seq, run_reg, run_mv, run_ops_nil, run_ret, put_at, put_no, ev_t, ev_c, reduceIte, Nat.reduceEqDiff, List.map_cons, List.map_nil]
          have he := some_inj hk37
          subst he
          simp only [end_ret1, put_at, put_no, ev_t, ev_c, reduceIte, Nat.reduceEqDiff, List.map_cons, List.map_nil]
          exact rfl
theorem slices_Equal_int_x {W : Nat → Bool} {h : Heap} (hW : ∀ b,
    h.length ≤ b → W b = true) (s1_0 : List Int) (s2_1 : List Int) (r : Bool) (hF : slices_Equal_int s1_0 s2_1 = some r) : Ret E W 83 [lst cI s1_0,
    lst cI s2_1] h (fun v h' => cut h.length h' E.sz false 9 v = some (.bool r)) := by
  refine Ret.of (fn := x83) rfl (Run.of ?_)
  unfold slices_Equal_int at hF
  have zf0 : argFr [lst cI s1_0, lst cI s2_1] 0 = lst cI s1_0 := rfl
  have zf1 : argFr [lst cI s1_0, lst cI s2_1] 1 = lst cI s2_1 := rfl
  generalize argFr [lst cI s1_0, lst cI s2_1] = fr0 at zf0 zf1 ⊢
  have hS : Sep h h.length [] := Sep.nil h
  simp only [x83, run_seq, run_reg, run_mv, run_ops_nil, x83_6, zf0, run_len, put1_some, xlen_lst, zf1, run_bin, xneq, run_cond, put_at, put_no, ev_t, ev_c, reduceIte,
      Nat.reduceEqDiff, List.map_cons, List.map_nil]
  refine cond_split (t := (decide ((List.length s1_0 : Int) ≠ (List.length s2_1 : Int)))) (fun hc1 => ?_) (fun hc1 => ?_)
  · rw [iteT hc1] at hF
    simp only [run_seq, run_reg, run_mv, run_ops_nil, run_ret, put_at, put_no, ev_t, ev_c, reduceIte, Nat.reduceEqDiff, List.map_cons, List.map_nil]
    have he := some_inj hF
    subst he
    simp only [end_ret1, put_at, put_no, ev_t, ev_c, reduceIte, Nat.reduceEqDiff, List.map_cons, List.map_nil]
    exact rfl
  · rw [iteF hc1] at hF
    simp only [run_skip, x83_5, run_seq, run_reg, zf0, run_mv, run_len, put1_some, xlen_lst, run_ops_nil, put_at, put_no, ev_t, ev_c, reduceIte, Nat.reduceEqDiff, List.map_cons,
        List.map_nil]
    obtain ⟨oc4, hX6, hk7⟩ := jn_some hF
    simp only [x83_4]
    refine rangeL_j (σ := Unit) s1_0 (fun i2 x3 _ => slices_Equal_int_b1 s2_1 i2 x3 ) (fun s fr' h' => fr' 0 = lst cI s1_0 ∧ fr' 1 = lst cI s2_1 ∧ Sep h' h.length
        ([])) hX6 ⟨by simp only [zf0, put_at, put_no, ev_t, ev_c, reduceIte, Nat.reduceEqDiff, List.map_cons, List.map_nil], by simp only [zf1, put_at, put_no, ev_t, ev_c,
        reduceIte, Nat.reduceEqDiff, List.map_cons, List.map_nil], hS⟩ (by simp only [put_at, put_no, ev_t, ev_c, reduceIte, Nat.reduceEqDiff, List.map_cons,
        List.map_nil]) (by simp only [put_at, put_no, ev_t, ev_c, reduceIte, Nat.reduceEqDiff, List.map_cons,
        List.map_nil]) (fun _ _ _ h => h) rfl rfl (fun _ _ _ _ h => h) (fun _ _ _ _ h => h) (fun _ _ _ _ h => h) (by decide) ?_ ?_
    · rintro i2 x3 _ fr16 h17 hx21 ⟨f19, f20, hS18⟩ f22 f23 oc5 hF8 hr9 Q10 hN11 hB15 hK12 hR13 hE14
      unfold slices_Equal_int_b1 at hF8
      simp only [x83_2, run_seq, run_reg, f22, run_mv, run_ops_nil, x83_1, run_draw, f19, d4_mv, put1d_some, d4_ia, put_at, put_no, ev_t, ev_c, reduceIte, Nat.reduceEqDiff,
          List.map_cons, List.map_nil]
      refine put1d_eq (v := .ref (cI x3) 0) (xia_lstN hx21 rfl) ?_
      simp only [d4_ld, put_at, put_no, ev_t, ev_c, reduceIte, Nat.reduceEqDiff, List.map_cons, List.map_nil]
      refine put1d_eq (v := .int .i64 x3) rfl ?_
      obtain ⟨x24, hx25, hF26⟩ := bind_some' hF8
      simp only [f20, d4_mv, put1d_some, d4_ia, put_at, put_no, ev_t, ev_c, reduceIte, Nat.reduceEqDiff, List.map_cons, List.map_nil]
      refine put1d_eq (v := .ref (cI x24) 0) (xia_lst hx25 rfl) ?_
      simp only [d4_ld, put_at, put_no, ev_t, ev_c, reduceIte, Nat.reduceEqDiff, List.map_cons, List.map_nil]
      refine put1d_eq (v := .int .i64 x24) rfl ?_
      simp only [d4_bin, put1d_some, xneq, run_draw_nil, run_cond, put_at, put_no, ev_t, ev_c, reduceIte, Nat.reduceEqDiff, List.map_cons, List.map_nil]
      refine cond_split (t := (decide (x3 ≠ x24))) (fun hc27 => ?_) (fun hc27 => ?_)
      · rw [iteT hc27] at hF26
        simp only [run_seq, run_reg, run_mv, run_ops_nil, run_ret, put_at, put_no, ev_t, ev_c, reduceIte, Nat.reduceEqDiff, List.map_cons, List.map_nil]
        have e28 := some_inj hF26
        subst e28
        have ho29 := hr9 _ rfl
        have hk30 := hk7
        rw [ho29] at hk30
        dsimp only [jnO] at hk30
        apply hR13
        have he := some_inj hk30
        subst he
        simp only [end_ret1, put_at, put_no, ev_t, ev_c, reduceIte, Nat.reduceEqDiff, List.map_cons, List.map_nil]
        exact rfl
      · rw [iteF hc27] at hF26
        simp only [run_skip, run_nil, put_at, put_no, ev_t, ev_c, reduceIte, Nat.reduceEqDiff, List.map_cons, List.map_nil]
        have e31 := some_inj hF26
        exact hN11 _ _ _ e31.symm ⟨by simp only [f19, put_at, put_no, ev_t, ev_c, reduceIte, Nat.reduceEqDiff, List.map_cons, List.map_nil], by simp only [f20, put_at, put_no,
            ev_t, ev_c, reduceIte, Nat.reduceEqDiff, List.map_cons, List.map_nil], hS18⟩ (by simp only [f22, put_at, put_no, ev_t, ev_c, reduceIte, Nat.reduceEqDiff,
            List.map_cons, List.map_nil]) (by simp only [f23, put_at, put_no, ev_t, ev_c, reduceIte, Nat.reduceEqDiff, List.map_cons, List.map_nil])
    · rintro _ fr33 h34 rfl ⟨f36, f37, hS35⟩
      dsimp only [jnO] at hk7
      unfold slices_Equal_int_j1 at hk7
      simp only [run_seq, run_reg, run_mv, run_ops_nil, run_ret, put_at, put_no, ev_t, ev_c, reduceIte, Nat.reduceEqDiff, List.map_cons, List.map_nil]
      have he := some_inj hk7
      subst he
      simp only [end_ret1, put_at, put_no, ev_t, ev_c, reduceIte, Nat.reduceEqDiff, List.map_cons, List.map_nil]
      exact rfl
theorem impl_sameView_x {W : Nat → Bool} {h : Heap} (hW : ∀ b,
    h.length ≤ b → W b = true) (a_0 : View) (b_1 : View) (r : Bool) (hF : impl_sameView a_0 b_1 = some r) : Ret E W 62 [.agg [.int .i64 a_0.Epoch, .int .i64 a_0.Leader,
    lst cI a_0.InStep], .agg [.int .i64 b_1.Epoch, .int .i64 b_1.Leader, lst cI b_1.InStep]] h (fun v h' => cut h.length h' E.sz false 9 v = some (.bool r)) := by
  refine Ret.of (fn := x62) rfl (Run.of ?_)
  unfold impl_sameView at hF
  have zf0 : argFr [.agg [.int .i64 a_0.Epoch, .int .i64 a_0.Leader, lst cI a_0.InStep], .agg [.int .i64 b_1.Epoch, .int .i64 b_1.Leader,
      lst cI b_1.InStep]] 0 = .agg [.int .i64 a_0.Epoch, .int .i64 a_0.Leader, lst cI a_0.InStep] := rfl
  have zf1 : argFr [.agg [.int .i64 a_0.Epoch, .int .i64 a_0.Leader, lst cI a_0.InStep], .agg [.int .i64 b_1.Epoch, .int .i64 b_1.Leader,
      lst cI b_1.InStep]] 1 = .agg [.int .i64 b_1.Epoch, .int .i64 b_1.Leader, lst cI b_1.InStep] := rfl
  generalize argFr [.agg [.int .i64 a_0.Epoch, .int .i64 a_0.Leader, lst cI a_0.InStep], .agg [.int .i64 b_1.Epoch, .int .i64 b_1.Leader, lst cI b_1.InStep]] = fr0 at zf0 zf1 ⊢
  have hS : Sep h h.length [] := Sep.nil h
  simp only [x62, run_seq, run_reg, run_box, zf0, put_at, put_no, ev_t, ev_c, reduceIte, Nat.reduceEqDiff, List.map_cons, List.map_nil]
  refine put2_boxC (cs := [.int .i64 a_0.Epoch, .int .i64 a_0.Leader, lst cI a_0.InStep]) hS rfl rfl rfl (fun b1 h2 hS3 => ?_)
  simp only [run_box, zf1, put_at, put_no, ev_t, ev_c, reduceIte, Nat.reduceEqDiff, List.map_cons, List.map_nil]
  refine put2_boxC (cs := [.int .i64 b_1.Epoch, .int .i64 b_1.Leader, lst cI b_1.InStep]) hS3 rfl rfl rfl (fun b5 h6 hS7 => ?_)
  simp only [run_mv, run_ops_nil, put_at, put_no, ev_t, ev_c, reduceIte, Nat.reduceEqDiff, List.map_cons, List.map_nil]
  refine frz_stepC (Sep.m1 hS7) hW (by simp only [put_at, put_no, ev_t, ev_c, reduceIte, Nat.reduceEqDiff, List.map_cons, List.map_nil]) (fun h9 hS10 => ?_)
  refine frz_stepC hS10 hW (by simp only [put_at, put_no, ev_t, ev_c, reduceIte, Nat.reduceEqDiff, List.map_cons, List.map_nil]) (fun h11 hS12 => ?_)
  simp only [run_frz_nil, x62_1, run_seq, run_reg, run_fa, put1_some, Nat.reduceAdd, Nat.zero_add, Nat.add_zero, xfa_ref, run_ld, put_at, put_no, ev_t, ev_c, reduceIte,
      Nat.reduceEqDiff, List.map_cons, List.map_nil]
  refine put1_eq (v := .int .i64 a_0.Epoch) rfl ?_
  simp only [run_fa, put1_some, Nat.reduceAdd, Nat.zero_add, Nat.add_zero, xfa_ref, run_ld, put_at, put_no, ev_t, ev_c, reduceIte, Nat.reduceEqDiff, List.map_cons, List.map_nil]
  refine put1_eq (v := .int .i64 b_1.Epoch) rfl ?_
  simp only [run_bin, put1_some, xeql, run_mv, put_at, put_no, ev_t, ev_c, reduceIte, Nat.reduceEqDiff, List.map_cons, List.map_nil]
  refine ops_j 6 (fun fr' h' => Sep h' h.length ([]) ∧ fr' 16 = .bool ((decide (a_0.Epoch = b_1.Epoch)) && (decide (a_0.Leader = b_1.Leader))) ∧ fr' 2 = .ref [.int .i64 a_0.Epoch,
      .int .i64 a_0.Leader, lst cI a_0.InStep] 0 ∧ fr' 3 = .ref [.int .i64 b_1.Epoch, .int .i64 b_1.Leader, lst cI b_1.InStep] 0) (fun Q13 hN14 => ?_) ?_
  · simp only [List.take_succ_cons, List.take_zero]
    simp only [run_guard (g := 10), put_at, put_no, ev_t, ev_c, reduceIte, Nat.reduceEqDiff, List.map_cons, List.map_nil]
    refine guard_split (t := (decide (a_0.Epoch = b_1.Epoch))) (fun hg15 => ?_) (fun hg15 => ?_)
    · simp only [hg15, run_guard (g := 10), guard_true, run_fa, put1_some, Nat.reduceAdd, Nat.zero_add, Nat.add_zero, xfa_ref, run_ld, put_at, put_no, ev_t, ev_c, reduceIte,
        Nat.reduceEqDiff, List.map_cons, List.map_nil]
      refine put1_eq (v := .int .i64 a_0.Leader) rfl ?_
      simp only [hg15, run_guard (g := 10), guard_true, run_fa, put1_some, Nat.reduceAdd, Nat.zero_add, Nat.add_zero, xfa_ref, run_ld, put_at, put_no, ev_t, ev_c, reduceIte,
          Nat.reduceEqDiff, List.map_cons, List.map_nil]
      refine put1_eq (v := .int .i64 b_1.Leader) rfl ?_
      simp only [hg15, run_guard (g := 10), guard_true, run_bin, put1_some, xeql, run_pick, xpick_t, run_ops_nil, run_nil, put_at, put_no, ev_t, ev_c, reduceIte, Nat.reduceEqDiff,
          List.map_cons, List.map_nil]
      exact hN14 _ _ ⟨hS12, by rw [andT hg15]; simp only [put_at, put_no, ev_t, ev_c, reduceIte, Nat.reduceEqDiff, List.map_cons, List.map_nil], by simp only [put_at, put_no,
          ev_t, ev_c, reduceIte, Nat.reduceEqDiff, List.map_cons, List.map_nil], by simp only [put_at, put_no, ev_t, ev_c, reduceIte, Nat.reduceEqDiff, List.map_cons,
          List.map_nil]⟩
    · simp only [hg15, run_guard (g := 10), guard_off, run_pick, put1_some, xpick_f, run_ops_nil, run_nil, put_at, put_no, ev_t, ev_c, reduceIte, Nat.reduceEqDiff, List.map_cons,
        List.map_nil]
      exact hN14 _ _ ⟨hS12, by rw [andF hg15]; simp only [put_at, put_no, ev_t, ev_c, reduceIte, Nat.reduceEqDiff, List.map_cons, List.map_nil], by simp only [put_at, put_no,
          ev_t, ev_c, reduceIte, Nat.reduceEqDiff, List.map_cons, List.map_nil], by simp only [put_at, put_no, ev_t, ev_c, reduceIte, Nat.reduceEqDiff, List.map_cons,
          List.map_nil]⟩
  · rintro fr16 h20 ⟨hS21, f17, f18, f19⟩
    simp only [List.drop_succ_cons, List.drop_zero]
    simp only [f17, run_mv, put_at, put_no, ev_t, ev_c, reduceIte, Nat.reduceEqDiff, List.map_cons, List.map_nil]
    obtain ⟨v25, hx26, hF27⟩ := bind_some' hF
    refine ops_j 6 (fun fr' h' => Sep h' h.length ([]) ∧ fr' 23 = .bool v25) (fun Q22 hN23 => ?_) ?_
    · simp only [List.take_succ_cons, List.take_zero]
      simp only [run_guard (g := 17), put_at, put_no, ev_t, ev_c, reduceIte, Nat.reduceEqDiff, List.map_cons, List.map_nil]
      refine guard_split (t := ((decide (a_0.Epoch = b_1.Epoch)) && (decide (a_0.Leader = b_1.Leader)))) (fun hg24 => ?_) (fun hg24 => ?_)
      · rw [iteT hg24] at hx26
        simp only [hg24, run_guard (g := 17), guard_true, f18, run_fa, put1_some, Nat.reduceAdd, Nat.zero_add, Nat.add_zero, xfa_ref, run_ld, put_at, put_no, ev_t, ev_c,
            reduceIte, Nat.reduceEqDiff, List.map_cons, List.map_nil]
        refine put1_eq (v := lst cI a_0.InStep) rfl ?_
        simp only [hg24, run_guard (g := 17), guard_true, f19, run_fa, put1_some, Nat.reduceAdd, Nat.zero_add, Nat.add_zero, xfa_ref, run_ld, put_at, put_no, ev_t, ev_c,
            reduceIte, Nat.reduceEqDiff, List.map_cons, List.map_nil]
        refine put1_eq (v := lst cI b_1.InStep) rfl ?_
        obtain ⟨v28, hx29, hF30⟩ := bind_some' hx26
        simp only [hg24, run_guard (g := 17), guard_true, run_call, put_at, put_no, ev_t, ev_c, reduceIte, Nat.reduceEqDiff, List.map_cons, List.map_nil]
        refine call1 rfl (mapM1 snap_lst (mapM1 snap_lst mapM0)) (slices_Equal_int_x (fun b hb => decide_eq_true hb) a_0.InStep b_1.InStep v28 hx29) ?_
        simp only [hg24, run_pick, put1_some, xpick_t, run_ops_nil, run_nil, put_at, put_no, ev_t, ev_c, reduceIte, Nat.reduceEqDiff, List.map_cons, List.map_nil]
        have e31 := some_inj hF30
        exact hN23 _ _ ⟨hS21, by rw [← e31]; simp only [put_at, put_no, ev_t, ev_c, reduceIte, Nat.reduceEqDiff, List.map_cons, List.map_nil]⟩
      · rw [iteF hg24] at hx26
        simp only [hg24, run_guard (g := 17), guard_off, run_pick, put1_some, xpick_f, run_ops_nil, run_nil, put_at, put_no, ev_t, ev_c, reduceIte, Nat.reduceEqDiff,
            List.map_cons, List.map_nil]
        have e32 := some_inj hx26
        exact hN23 _ _ ⟨hS21, by rw [← e32]; simp only [put_at, put_no, ev_t, ev_c, reduceIte, Nat.reduceEqDiff, List.map_cons, List.map_nil]⟩
    · rintro fr33 h35 ⟨hS36, f34⟩
      simp only [List.drop_succ_cons, List.drop_zero]
      simp only [f34, run_mv, run_ops_nil, run_ret, put_at, put_no, ev_t, ev_c, reduceIte, Nat.reduceEqDiff, List.map_cons, List.map_nil]
      have he := some_inj hF27
      subst he
      simp only [end_ret1, put_at, put_no, ev_t, ev_c, reduceIte, Nat.reduceEqDiff, List.map_cons, List.map_nil]
      exact rfl
theorem impl_BehindIn_x {W : Nat → Bool} {h : Heap} (hW : ∀ b,
    h.length ≤ b → W b = true) (c_0 : Cluster) (r : (List Int) × Bool) (hF : impl_BehindIn c_0 = some r) : Ret E W 24 [.agg [.int .i64 c_0.Truth.Epoch, .int .i64 c_0.Truth.Leader,
    lst cI c_0.Truth.InStep, lst Node.cells c_0.Nodes, lst Row.cells c_0.Acked]] h (fun v h' => ∃ rv0 rc0, v = .tup [rv0,
    .bool r.2] ∧ SlF cI 1 3 rv0 r.1 rc0 ∧ Sep h' h.length (rc0 ++ ([]))) := by
  refine Ret.of (fn := x24) rfl (Run.of ?_)
  unfold impl_BehindIn at hF
  have zf0 : argFr [.agg [.int .i64 c_0.Truth.Epoch, .int .i64 c_0.Truth.Leader, lst cI c_0.Truth.InStep, lst Node.cells c_0.Nodes,
      lst Row.cells c_0.Acked]] 0 = .agg [.int .i64 c_0.Truth.Epoch, .int .i64 c_0.Truth.Leader, lst cI c_0.Truth.InStep, lst Node.cells c_0.Nodes, lst Row.cells c_0.Acked] := rfl
  generalize argFr [.agg [.int .i64 c_0.Truth.Epoch, .int .i64 c_0.Truth.Leader, lst cI c_0.Truth.InStep, lst Node.cells c_0.Nodes, lst Row.cells c_0.Acked]] = fr0 at zf0 ⊢
  have hS : Sep h h.length [] := Sep.nil h
  simp only [x24, run_seq, run_reg, run_box, zf0, put_at, put_no, ev_t, ev_c, reduceIte, Nat.reduceEqDiff, List.map_cons, List.map_nil]
  refine put2_boxC (cs := [.int .i64 c_0.Truth.Epoch, .int .i64 c_0.Truth.Leader, lst cI c_0.Truth.InStep, lst Node.cells c_0.Nodes,
      lst Row.cells c_0.Acked]) hS rfl rfl rfl (fun b1 h2 hS3 => ?_)
  simp only [run_mv, run_ops_nil, put_at, put_no, ev_t, ev_c, reduceIte, Nat.reduceEqDiff, List.map_cons, List.map_nil]
  refine frz_stepC hS3 hW (by simp only [put_at, put_no, ev_t, ev_c, reduceIte, Nat.reduceEqDiff, List.map_cons, List.map_nil]) (fun h5 hS6 => ?_)
  simp only [run_frz_nil, x24_10, run_seq, run_reg, run_ld, put_at, put_no, ev_t, ev_c, reduceIte, Nat.reduceEqDiff, List.map_cons, List.map_nil]
  refine put1_eq (v := .agg [.int .i64 c_0.Truth.Epoch, .int .i64 c_0.Truth.Leader, lst cI c_0.Truth.InStep, lst Node.cells c_0.Nodes, lst Row.cells c_0.Acked]) rfl ?_
  obtain ⟨v7, hx8, hF9⟩ := bind_some' hF
  simp only [run_call, put_at, put_no, ev_t, ev_c, reduceIte, Nat.reduceEqDiff, List.map_cons, List.map_nil]
  refine call1 rfl (mapM1 (snap_agg (mapM1 snap_int (mapM1 snap_int (mapM1 snap_lst (mapM1 snap_lst (mapM1 snap_lst mapM0)))))) mapM0) (impl_isCluster_x
      (fun b hb => decide_eq_true hb) c_0 v7 hx8) ?_
  simp only [run_un, put1_some, xnot, run_ops_nil, x24_1, run_cond, put_at, put_no, ev_t, ev_c, reduceIte, Nat.reduceEqDiff, List.map_cons, List.map_nil]
  refine cond_split (t := (!v7)) (fun hc10 => ?_) (fun hc10 => ?_)
  · rw [iteT hc10] at hF9
    simp only [run_seq, run_reg, run_mv, run_ops_nil, run_ret, put_at, put_no, ev_t, ev_c, reduceIte, Nat.reduceEqDiff, List.map_cons, List.map_nil]
    have he := some_inj hF9
    subst he
    simp only [end_ret2, put_at, put_no, ev_t, ev_c, reduceIte, Nat.reduceEqDiff, List.map_cons, List.map_nil]
    exact ⟨.nil, [], by first | trivial | rfl, SlF.nil, hS6⟩
  · rw [iteF hc10] at hF9
    simp only [run_skip, x24_9, run_seq, run_reg, run_buildS, evp, put_at, put_no, ev_t, ev_c, reduceIte, Nat.reduceEqDiff, List.map_cons, List.map_nil]
    refine put2_buildSF (n := 1) (f := cI) ([] : List Int) hS6 rfl rfl (fun v11 c12 h13 hv14 hS15 => ?_)
    simp only [run_mv, run_ops_nil, x24_8, run_seq, run_reg, run_fa, put1_some, Nat.reduceAdd, Nat.zero_add, Nat.add_zero, xfa_ref, run_ld, put_at, put_no, ev_t, ev_c, reduceIte,
        Nat.reduceEqDiff, List.map_cons, List.map_nil]
    refine put1_eq (v := lst Node.cells c_0.Nodes) rfl ?_
    simp only [run_len, put1_some, xlen_lst, run_mv, run_ops_nil, put_at, put_no, ev_t, ev_c, reduceIte, Nat.reduceEqDiff, List.map_cons, List.map_nil]
    obtain ⟨oc29, hX31, hk32⟩ := jn_some hF9
    simp only [x24_7]
    refine rangeL_j (σ := (List Int)) c_0.Nodes (fun i27 x28 s79 => impl_BehindIn_b1 c_0 i27 x28 s79) (fun s fr' h' => ∃ v24 c25, fr' 1 = .ref [.int .i64 c_0.Truth.Epoch,
        .int .i64 c_0.Truth.Leader, lst cI c_0.Truth.InStep, lst Node.cells c_0.Nodes,
        lst Row.cells c_0.Acked] 0 ∧ fr' 4 = v24 ∧ fr' 12 = lst Node.cells c_0.Nodes ∧ SlF cI 1 3 v24 s c25 ∧ Sep h' h.length (c25 ++ ([]))) hX31 ⟨v11, c12, by simp only [put_at,
        put_no, ev_t, ev_c, reduceIte, Nat.reduceEqDiff, List.map_cons, List.map_nil], by simp only [put_at, put_no, ev_t, ev_c, reduceIte, Nat.reduceEqDiff, List.map_cons,
        List.map_nil], by simp only [put_at, put_no, ev_t, ev_c, reduceIte, Nat.reduceEqDiff, List.map_cons, List.map_nil], hv14, hS15⟩ (by simp only [put_at, put_no, ev_t, ev_c,
        reduceIte, Nat.reduceEqDiff, List.map_cons, List.map_nil]) (by simp only [put_at, put_no, ev_t, ev_c, reduceIte, Nat.reduceEqDiff, List.map_cons,
        List.map_nil]) (fun _ _ _ h => h) rfl rfl (fun _ _ _ _ h => h) (fun _ _ _ _ h => h) (fun _ _ _ _ h => h) (by decide) ?_ ?_
    · rintro i27 x28 s22 fr41 h42 hx47 ⟨v24, c25, f44, f45, f46, hv26, hS43⟩ f48 f49 oc30 hF33 hr34 Q35 hN36 hB40 hK37 hR38 hE39
      unfold impl_BehindIn_b1 at hF33
      simp only [x24_5, run_seq, run_reg, f48, run_mv, f46, run_ia, put_at, put_no, ev_t, ev_c, reduceIte, Nat.reduceEqDiff, List.map_cons, List.map_nil]
      refine put1_eq (v := .ref (Node.cells x28) 0) (xia_lstN hx47 rfl) ?_
      simp only [run_ld, put_at, put_no, ev_t, ev_c, reduceIte, Nat.reduceEqDiff, List.map_cons, List.map_nil]
      refine put1_eq (v := .agg [.int .i64 x28.View.Epoch, .int .i64 x28.View.Leader, lst cI x28.View.InStep, lst Row.cells x28.Log, lst cI x28.Known, .int .i64 x28.Told]) rfl ?_
      simp only [run_new, put_at, put_no, ev_t, ev_c, reduceIte, Nat.reduceEqDiff, List.map_cons, List.map_nil]
      refine put2_newC hS43 (fun b50 h51 hS52 => ?_)
      simp only [run_mv, run_st, put_at, put_no, ev_t, ev_c, reduceIte, Nat.reduceEqDiff, List.map_cons, List.map_nil]
      refine put2_stCx (us := [.int .i64 x28.View.Epoch, .int .i64 x28.View.Leader, lst cI x28.View.InStep, lst Row.cells x28.Log, lst cI x28.Known,
          .int .i64 x28.Told]) rfl (cs' := [.int .i64 x28.View.Epoch, .int .i64 x28.View.Leader, lst cI x28.View.InStep, lst Row.cells x28.Log, lst cI x28.Known,
          .int .i64 x28.Told]) hS52 hW rfl rfl (Nat.le_of_ble_eq_true rfl) rfl (fun h54 hS55 => ?_)
      simp only [put_no, run_ops_nil, put_at, ev_t, ev_c, reduceIte, Nat.reduceEqDiff, List.map_cons, List.map_nil]
      refine frz_stepC hS55 hW (by simp only [put_at, put_no, ev_t, ev_c, reduceIte, Nat.reduceEqDiff, List.map_cons, List.map_nil]) (fun h56 hS57 => ?_)
      simp only [run_frz_nil, x24_4, run_seq, run_reg, run_fa, put1_some, Nat.reduceAdd, Nat.zero_add, Nat.add_zero, xfa_ref, run_ld, put_at, put_no, ev_t, ev_c, reduceIte,
          Nat.reduceEqDiff, List.map_cons, List.map_nil]
      refine put1_eq (v := .agg [.int .i64 x28.View.Epoch, .int .i64 x28.View.Leader, lst cI x28.View.InStep]) rfl ?_
      simp only [f44, run_fa, put1_some, Nat.reduceAdd, Nat.zero_add, Nat.add_zero, xfa_ref, run_ld, put_at, put_no, ev_t, ev_c, reduceIte, Nat.reduceEqDiff, List.map_cons,
          List.map_nil]
      refine put1_eq (v := .agg [.int .i64 c_0.Truth.Epoch, .int .i64 c_0.Truth.Leader, lst cI c_0.Truth.InStep]) rfl ?_
      obtain ⟨v58, hx59, hF60⟩ := bind_some' hF33
      simp only [run_call, put_at, put_no, ev_t, ev_c, reduceIte, Nat.reduceEqDiff, List.map_cons, List.map_nil]
      refine call1 rfl (mapM1 (snap_agg (mapM1 snap_int (mapM1 snap_int (mapM1 snap_lst mapM0)))) (mapM1 (snap_agg (mapM1 snap_int (mapM1 snap_int
          (mapM1 snap_lst mapM0)))) mapM0)) (impl_sameView_x (fun b hb => decide_eq_true hb) x28.View c_0.Truth v58 hx59) ?_
      simp only [run_un, put1_some, xnot, run_ops_nil, x24_3, run_cond, put_at, put_no, ev_t, ev_c, reduceIte, Nat.reduceEqDiff, List.map_cons, List.map_nil]
      refine cond_split (t := (!v58)) (fun hc61 => ?_) (fun hc61 => ?_)
      · rw [iteT hc61] at hF60
        simp only [x24_2, run_reg, f45, run_mv, run_buildS, evp, put_at, put_no, ev_t, ev_c, reduceIte, Nat.reduceEqDiff, List.map_cons, List.map_nil]
        refine put2_buildSF (n := 1) (f := cI) [(i27 : Int)] hS57 rfl rfl (fun v62 c63 h64 hv65 hS66 => ?_)
        simp only [run_app, put_at, put_no, ev_t, ev_c, reduceIte, Nat.reduceEqDiff, List.map_cons, List.map_nil]
        obtain ⟨l68, hx69, hF70⟩ := bind_some' hF60
        refine put2_appF (f := cI) hv26 (Sep.m1 hS66) hW (fun _ => rfl) (fun _ => rfl) (SlF.first hv65 hS66 (fun _ => rfl)) hx69 (fun v71 c72 h73 hv74 hS75 => ?_)
        simp only [run_mv, run_ops_nil, run_nil, put_at, put_no, ev_t, ev_c, reduceIte, Nat.reduceEqDiff, List.map_cons, List.map_nil]
        have e77 := some_inj hF70
        exact hN36 _ _ _ e77.symm ⟨v71, c72, by simp only [f44, put_at, put_no, ev_t, ev_c, reduceIte, Nat.reduceEqDiff, List.map_cons, List.map_nil], by simp only [put_at,
            put_no, ev_t, ev_c, reduceIte, Nat.reduceEqDiff, List.map_cons, List.map_nil], by simp only [f46, put_at, put_no, ev_t, ev_c, reduceIte, Nat.reduceEqDiff,
            List.map_cons, List.map_nil], hv74, (Sep.dc (Sep.m1 hS75))⟩ (by simp only [f48, put_at, put_no, ev_t, ev_c, reduceIte, Nat.reduceEqDiff, List.map_cons,
            List.map_nil]) (by simp only [f49, put_at, put_no, ev_t, ev_c, reduceIte, Nat.reduceEqDiff, List.map_cons, List.map_nil])
      · rw [iteF hc61] at hF60
        simp only [run_skip, run_nil, put_at, put_no, ev_t, ev_c, reduceIte, Nat.reduceEqDiff, List.map_cons, List.map_nil]
        have e78 := some_inj hF60
        exact hN36 _ _ _ e78.symm ⟨v24, c25, by simp only [f44, put_at, put_no, ev_t, ev_c, reduceIte, Nat.reduceEqDiff, List.map_cons, List.map_nil], by simp only [f45, put_at,
            put_no, ev_t, ev_c, reduceIte, Nat.reduceEqDiff, List.map_cons, List.map_nil], by simp only [f46, put_at, put_no, ev_t, ev_c, reduceIte, Nat.reduceEqDiff,
            List.map_cons, List.map_nil], hv26, hS57⟩ (by simp only [f48, put_at, put_no, ev_t, ev_c, reduceIte, Nat.reduceEqDiff, List.map_cons,
            List.map_nil]) (by simp only [f49, put_at, put_no, ev_t, ev_c, reduceIte, Nat.reduceEqDiff, List.map_cons, List.map_nil])
    · rintro s80 fr85 h86 rfl ⟨v82, c83, f88, f89, f90, hv84, hS87⟩
      dsimp only [jnO] at hk32
      unfold impl_BehindIn_j1 at hk32
      simp only [run_seq, run_reg, f89, run_mv, run_ops_nil, run_ret, put_at, put_no, ev_t, ev_c, reduceIte, Nat.reduceEqDiff, List.map_cons, List.map_nil]
      have he := some_inj hk32
      subst he
      simp only [end_ret2, put_at, put_no, ev_t, ev_c, reduceIte, Nat.reduceEqDiff, List.map_cons, List.map_nil]
      exact ⟨v82, c83, by first | trivial | rfl, hv84, hS87⟩
end Go.Proofs.Ytohofoampalhoaa.X
namespace Go.Proofs.Ytohofoampalhoaa.X
open Go
theorem laws_FnExactBehindIn_x {W : Nat → Bool} {h : Heap} (hW : ∀ b,
    h.length ≤ b → W b = true) (k : Nat) (v_0 : Cluster) (r : Bool) (hF : laws_FnExactBehindIn k v_0 = some r) : Ret E W 6 [.agg [.int .i64 v_0.Truth.Epoch,
    .int .i64 v_0.Truth.Leader, lst cI v_0.Truth.InStep, lst Node.cells v_0.Nodes, lst Row.cells v_0.Acked]] h (fun v h' => cut h.length h' E.sz false 9 v = some (.bool r)) := by
  refine Ret.of (fn := x6) rfl (Run.of ?_)
  unfold laws_FnExactBehindIn at hF
  have zf0 : argFr [.agg [.int .i64 v_0.Truth.Epoch, .int .i64 v_0.Truth.Leader, lst cI v_0.Truth.InStep, lst Node.cells v_0.Nodes,
      lst Row.cells v_0.Acked]] 0 = .agg [.int .i64 v_0.Truth.Epoch, .int .i64 v_0.Truth.Leader, lst cI v_0.Truth.InStep, lst Node.cells v_0.Nodes, lst Row.cells v_0.Acked] := rfl
  generalize argFr [.agg [.int .i64 v_0.Truth.Epoch, .int .i64 v_0.Truth.Leader, lst cI v_0.Truth.InStep, lst Node.cells v_0.Nodes, lst Row.cells v_0.Acked]] = fr0 at zf0 ⊢
  have hS : Sep h h.length [] := Sep.nil h
  simp only [x6, run_seq, run_reg, run_box, zf0, put_at, put_no, ev_t, ev_c, reduceIte, Nat.reduceEqDiff, List.map_cons, List.map_nil]
  refine put2_boxC (cs := [.int .i64 v_0.Truth.Epoch, .int .i64 v_0.Truth.Leader, lst cI v_0.Truth.InStep, lst Node.cells v_0.Nodes,
      lst Row.cells v_0.Acked]) hS rfl rfl rfl (fun b1 h2 hS3 => ?_)
  simp only [run_mv, run_ops_nil, put_at, put_no, ev_t, ev_c, reduceIte, Nat.reduceEqDiff, List.map_cons, List.map_nil]
  refine frz_stepC hS3 hW (by simp only [put_at, put_no, ev_t, ev_c, reduceIte, Nat.reduceEqDiff, List.map_cons, List.map_nil]) (fun h5 hS6 => ?_)
  simp only [run_frz_nil, x6_23, run_seq, run_reg, run_mv, run_ops_nil, x6_22, run_ld, put_at, put_no, ev_t, ev_c, reduceIte, Nat.reduceEqDiff, List.map_cons, List.map_nil]
  refine put1_eq (v := .agg [.int .i64 v_0.Truth.Epoch, .int .i64 v_0.Truth.Leader, lst cI v_0.Truth.InStep, lst Node.cells v_0.Nodes, lst Row.cells v_0.Acked]) rfl ?_
  obtain ⟨v7, hx8, hF9⟩ := bind_some' hF
  simp only [run_mv, run_call, put_at, put_no, ev_t, ev_c, reduceIte, Nat.reduceEqDiff, List.map_cons, List.map_nil]
  refine call1 rfl (mapM1 (snap_agg (mapM1 snap_int (mapM1 snap_int (mapM1 snap_lst (mapM1 snap_lst (mapM1 snap_lst mapM0)))))) (mapM1 snap_int mapM0)) (laws_szCluster_x
      (fun b hb => decide_eq_true hb) k v_0 1048576 v7 hx8) ?_
  simp only [run_mv, run_ops_nil, x6_21, run_seq, run_reg, run_bin, put1_some, xlss, run_cond, put_at, put_no, ev_t, ev_c, reduceIte, Nat.reduceEqDiff, List.map_cons, List.map_nil]
  refine cond_split (t := (decide (v7 < 0))) (fun hc10 => ?_) (fun hc10 => ?_)
  · rw [iteT hc10] at hF9
    simp only [run_seq, run_reg, run_mv, run_ops_nil, run_ret, put_at, put_no, ev_t, ev_c, reduceIte, Nat.reduceEqDiff, List.map_cons, List.map_nil]
    have he := some_inj hF9
    subst he
    simp only [end_ret1, put_at, put_no, ev_t, ev_c, reduceIte, Nat.reduceEqDiff, List.map_cons, List.map_nil]
    exact rfl
  · rw [iteF hc10] at hF9
    simp only [run_skip, x6_20, run_seq, run_reg, run_ld, put_at, put_no, ev_t, ev_c, reduceIte, Nat.reduceEqDiff, List.map_cons, List.map_nil]
    refine put1_eq (v := .agg [.int .i64 v_0.Truth.Epoch, .int .i64 v_0.Truth.Leader, lst cI v_0.Truth.InStep, lst Node.cells v_0.Nodes, lst Row.cells v_0.Acked]) rfl ?_
    obtain ⟨v11, hx12, hF13⟩ := bind_some' hF9
    simp only [run_call, put_at, put_no, ev_t, ev_c, reduceIte, Nat.reduceEqDiff, List.map_cons, List.map_nil]
    refine call2 rfl hS6 (mapM1 (snap_agg (mapM1 snap_int (mapM1 snap_int (mapM1 snap_lst (mapM1 snap_lst (mapM1 snap_lst mapM0)))))) mapM0) (laws_toCluster_x
        (fun b hb => decide_eq_true hb) k v_0 v11 hx12) ?_
    rintro _ h26 ⟨v14, c15, v18, c19, v22, c23, rfl, hv16, hv20, hv24, hS27⟩
    refine ⟨_, free_a (all_c rfl (all_c rfl (all_c (SlF.free1 hv16) (all_c (SlN.free1 hv20) (all_c (SlF.free1 hv24) all_n))))), hS27,
        (pf_app (SlF.pf hv16 (fun _ => rfl)) (pf_app (SlN.pf hv20 Node.RO) (pf_app (SlF.pf hv24 (fun _ => rfl)) pf_nil))), fun h28 hS29 => ?_⟩
    have hS30 : Sep h28 h.length (c15 ++ (c19 ++ (c23 ++ ([])))) := by simpa only [List.append_assoc, List.nil_append] using hS29
    obtain ⟨v31, hx32, hF33⟩ := bind_some' hF13
    simp only [run_call, put_at, put_no, ev_t, ev_c, reduceIte, Nat.reduceEqDiff, List.map_cons, List.map_nil]
    refine call2 rfl hS30 (mapM1 (snap_agg (mapM1 snap_int (mapM1 snap_int (mapM1 (SlF.snap hv16 hS30 rfl (fun _ => rfl) (fun _ => rfl)) (mapM1 (SlN.snap hv20 _
        (Sep.m1 hS30) rfl Node.RO) (mapM1 (SlF.snap hv24 (Sep.m2 hS30) rfl (fun _ => rfl) (fun _ => rfl)) mapM0)))))) mapM0) (spec_BehindIn_x
        (fun b hb => decide_eq_true hb) k v11 v31 hx32) ?_
    rintro _ h38 ⟨v34, c35, rfl, hv36, hS39⟩
    refine ⟨_, free_t (all_c (free2_1 (SlF.free1 hv36)) (all_c rfl all_n)), hS39, (pf_app (SlF.pf hv36 (fun _ => rfl)) pf_nil), fun h40 hS41 => ?_⟩
    have hS42 : Sep h40 h.length (c35 ++ (c15 ++ (c19 ++ (c23 ++ ([]))))) := by simpa only [List.append_assoc, List.nil_append] using hS41
    simp only [run_mv, run_ext, put1_some, xext_0, xext_1, run_ops_nil, x6_19, run_seq, run_reg, run_ld, put_at, put_no, ev_t, ev_c, reduceIte, Nat.reduceEqDiff, List.map_cons,
        List.map_nil]
    refine put1_eq (v := .agg [.int .i64 v_0.Truth.Epoch, .int .i64 v_0.Truth.Leader, lst cI v_0.Truth.InStep, lst Node.cells v_0.Nodes, lst Row.cells v_0.Acked]) rfl ?_
    obtain ⟨v43, hx44, hF45⟩ := bind_some' hF33
    simp only [run_call, put_at, put_no, ev_t, ev_c, reduceIte, Nat.reduceEqDiff, List.map_cons, List.map_nil]
    refine call2 rfl hS42 (mapM1 (snap_agg (mapM1 snap_int (mapM1 snap_int (mapM1 snap_lst (mapM1 snap_lst (mapM1 snap_lst mapM0)))))) mapM0) (laws_toCluster_x
        (fun b hb => decide_eq_true hb) k v_0 v43 hx44) ?_
    rintro _ h58 ⟨v46, c47, v50, c51, v54, c55, rfl, hv48, hv52, hv56, hS59⟩
    refine ⟨_, free_a (all_c rfl (all_c rfl (all_c (SlF.free1 hv48) (all_c (SlN.free1 hv52) (all_c (SlF.free1 hv56) all_n))))), hS59,
        (pf_app (SlF.pf hv48 (fun _ => rfl)) (pf_app (SlN.pf hv52 Node.RO) (pf_app (SlF.pf hv56 (fun _ => rfl)) pf_nil))), fun h60 hS61 => ?_⟩
    have hS62 : Sep h60 h.length (c47 ++ (c51 ++ (c55 ++ (c35 ++ (c15 ++ (c19 ++ (c23 ++ ([])))))))) := by simpa only [List.append_assoc, List.nil_append] using hS61
    simp only [run_new, put_at, put_no, ev_t, ev_c, reduceIte, Nat.reduceEqDiff, List.map_cons, List.map_nil]
    refine put2_newC hS62 (fun b63 h64 hS65 => ?_)
    simp only [run_st, put_at, put_no, ev_t, ev_c, reduceIte, Nat.reduceEqDiff, List.map_cons, List.map_nil]
    refine put2_stCx (us := [.int .i64 v43.Truth.Epoch, .int .i64 v43.Truth.Leader, v46, v50, v54]) rfl (cs' := [.int .i64 v43.Truth.Epoch, .int .i64 v43.Truth.Leader, v46, v50,
        v54]) hS65 hW rfl (all_c rfl (all_c rfl (all_c (SlF.one hv48) (all_c (SlN.one hv52) (all_c (SlF.one hv56) all_n))))) (Nat.le_of_ble_eq_true rfl) rfl (fun h67 hS68 => ?_)
    simp only [put_no, run_ops_nil, put_at, ev_t, ev_c, reduceIte, Nat.reduceEqDiff, List.map_cons, List.map_nil]
    refine frz_stepC hS68 hW (by simp only [put_at, put_no, ev_t, ev_c, reduceIte, Nat.reduceEqDiff, List.map_cons, List.map_nil]) (fun h69 hS70 => ?_)
    simp only [run_frz_nil, x6_18, run_seq, run_reg, run_ld, put_at, put_no, ev_t, ev_c, reduceIte, Nat.reduceEqDiff, List.map_cons, List.map_nil]
    refine put1_eq (v := .agg [.int .i64 v43.Truth.Epoch, .int .i64 v43.Truth.Leader, v46, v50, v54]) rfl ?_
    obtain ⟨v71, hx72, hF73⟩ := bind_some' hF45
    simp only [run_call, put_at, put_no, ev_t, ev_c, reduceIte, Nat.reduceEqDiff, List.map_cons, List.map_nil]
    refine call2 rfl hS70 (mapM1 (snap_agg (mapM1 snap_int (mapM1 snap_int (mapM1 (SlF.snap hv48 hS70 rfl (fun _ => rfl) (fun _ => rfl)) (mapM1 (SlN.snap hv52 _
        (Sep.m1 hS70) rfl Node.RO) (mapM1 (SlF.snap hv56 (Sep.m2 hS70) rfl (fun _ => rfl) (fun _ => rfl)) mapM0)))))) mapM0) (impl_BehindIn_x
        (fun b hb => decide_eq_true hb) v43 v71 hx72) ?_
    rintro _ h78 ⟨v74, c75, rfl, hv76, hS79⟩
    refine ⟨_, free_t (all_c (free2_1 (SlF.free1 hv76)) (all_c rfl all_n)), hS79, (pf_app (SlF.pf hv76 (fun _ => rfl)) pf_nil), fun h80 hS81 => ?_⟩
    have hS82 : Sep h80 h.length (c75 ++ (c47 ++ (c51 ++ (c55 ++ (c35 ++ (c15 ++ (c19 ++ (c23 ++ ([]))))))))) := by simpa only [List.append_assoc, List.nil_append] using hS81
    obtain ⟨v83, hx84, hF85⟩ := bind_some' hF73
    simp only [run_mv, run_ext, put1_some, xext_0, xext_1, run_ops_nil, x6_17, run_seq, run_reg, run_call, put_at, put_no, ev_t, ev_c, reduceIte, Nat.reduceEqDiff, List.map_cons,
        List.map_nil]
    refine call1 rfl (mapM1 (SlF.snap hv76 hS82 rfl (fun _ => rfl) (fun _ => rfl)) (mapM1 (SlF.snap hv36 (Sep.m4 hS82) rfl (fun _ => rfl) (fun _ => rfl)) mapM0)) (laws_eqIntS_x
        (fun b hb => decide_eq_true hb) k v71.1 v31.1 v83 hx84) ?_
    simp only [run_un, put1_some, xnot, run_mv, put_at, put_no, ev_t, ev_c, reduceIte, Nat.reduceEqDiff, List.map_cons, List.map_nil]
    refine ops_j 4 (fun fr' h' => Sep h' h.length (c35 ++ (c47 ++ (c51 ++ (c55 ++ (c75 ++ ([])))))) ∧ fr' 40 = .bool ((!v83) ||
        (!(v71.2 == v31.2))) ∧ fr' 1 = .ref [.int .i64 v_0.Truth.Epoch, .int .i64 v_0.Truth.Leader, lst cI v_0.Truth.InStep, lst Node.cells v_0.Nodes,
        lst Row.cells v_0.Acked] 0 ∧ fr' 4 = v34 ∧ fr' 5 = .bool v31.2 ∧ fr' 6 = .ref [.int .i64 v43.Truth.Epoch, .int .i64 v43.Truth.Leader, v46, v50,
        v54] 0 ∧ fr' 7 = v74 ∧ fr' 8 = .bool v71.2) (fun Q86 hN87 => ?_) ?_
    · simp only [List.take_succ_cons, List.take_zero]
      simp only [run_guard (g := 36), put_at, put_no, ev_t, ev_c, reduceIte, Nat.reduceEqDiff, List.map_cons, List.map_nil]
      refine guard_split (t := (!v83)) (fun hg88 => ?_) (fun hg88 => ?_)
      · simp only [hg88, run_guard (g := 36), guard_off', run_pick, put1_some, xpick_t, run_ops_nil, run_nil, put_at, put_no, ev_t, ev_c, reduceIte, Nat.reduceEqDiff,
          List.map_cons, List.map_nil]
        exact hN87 _ _ ⟨(Sep.m4 (Sep.m3 (Sep.m3 (Sep.m3 (Sep.dc (Sep.m5 (Sep.dc (Sep.m5 (Sep.dc (Sep.m5 hS82)))))))))), by rw [orT hg88]; simp only [put_at, put_no, ev_t, ev_c,
            reduceIte, Nat.reduceEqDiff, List.map_cons, List.map_nil], by simp only [put_at, put_no, ev_t, ev_c, reduceIte, Nat.reduceEqDiff, List.map_cons, List.map_nil],
            by simp only [put_at, put_no, ev_t, ev_c, reduceIte, Nat.reduceEqDiff, List.map_cons, List.map_nil], by simp only [put_at, put_no, ev_t, ev_c, reduceIte,
            Nat.reduceEqDiff, List.map_cons, List.map_nil], by simp only [put_at, put_no, ev_t, ev_c, reduceIte, Nat.reduceEqDiff, List.map_cons, List.map_nil],
            by simp only [put_at, put_no, ev_t, ev_c, reduceIte, Nat.reduceEqDiff, List.map_cons, List.map_nil], by simp only [put_at, put_no, ev_t, ev_c, reduceIte,
            Nat.reduceEqDiff, List.map_cons, List.map_nil]⟩
      · simp only [hg88, run_guard (g := 36), guard_false, run_mv, run_eqb, put1_some, xeqb_t, run_pick, xpick_f, run_ops_nil, run_nil, put_at, put_no, ev_t, ev_c, reduceIte,
          Nat.reduceEqDiff, List.map_cons, List.map_nil]
        exact hN87 _ _ ⟨(Sep.m4 (Sep.m3 (Sep.m3 (Sep.m3 (Sep.dc (Sep.m5 (Sep.dc (Sep.m5 (Sep.dc (Sep.m5 hS82)))))))))), by rw [orF hg88]; simp only [put_at, put_no, ev_t, ev_c,
            reduceIte, Nat.reduceEqDiff, List.map_cons, List.map_nil], by simp only [put_at, put_no, ev_t, ev_c, reduceIte, Nat.reduceEqDiff, List.map_cons, List.map_nil],
            by simp only [put_at, put_no, ev_t, ev_c, reduceIte, Nat.reduceEqDiff, List.map_cons, List.map_nil], by simp only [put_at, put_no, ev_t, ev_c, reduceIte,
            Nat.reduceEqDiff, List.map_cons, List.map_nil], by simp only [put_at, put_no, ev_t, ev_c, reduceIte, Nat.reduceEqDiff, List.map_cons, List.map_nil],
            by simp only [put_at, put_no, ev_t, ev_c, reduceIte, Nat.reduceEqDiff, List.map_cons, List.map_nil], by simp only [put_at, put_no, ev_t, ev_c, reduceIte,
            Nat.reduceEqDiff, List.map_cons, List.map_nil]⟩
    · rintro fr89 h97 ⟨hS98, f90, f91, f92, f93, f94, f95, f96⟩
      simp only [List.drop_succ_cons, List.drop_zero]
      simp only [run_ops_nil, f90, run_cond, put_at, put_no, ev_t, ev_c, reduceIte, Nat.reduceEqDiff, List.map_cons, List.map_nil]
      refine cond_split (t := ((!v83) || (!(v71.2 == v31.2)))) (fun hc99 => ?_) (fun hc99 => ?_)
      · rw [iteT hc99] at hF85
        simp only [run_seq, run_reg, run_mv, run_ops_nil, run_ret, put_at, put_no, ev_t, ev_c, reduceIte, Nat.reduceEqDiff, List.map_cons, List.map_nil]
        have he := some_inj hF85
        subst he
        simp only [end_ret1, put_at, put_no, ev_t, ev_c, reduceIte, Nat.reduceEqDiff, List.map_cons, List.map_nil]
        exact rfl
      · rw [iteF hc99] at hF85
        simp only [run_skip, x6_16, run_seq, run_draw, f94, d1_ld, ldd_ref, put_at, put_no, ev_t, ev_c, reduceIte, Nat.reduceEqDiff, List.map_cons, List.map_nil]
        refine put1d_eq (v := .agg [.int .i64 v43.Truth.Epoch, .int .i64 v43.Truth.Leader, v46, v50, v54]) rfl ?_
        simp only [f91, d4_ld, put_at, put_no, ev_t, ev_c, reduceIte, Nat.reduceEqDiff, List.map_cons, List.map_nil]
        refine put1d_eq (v := .agg [.int .i64 v_0.Truth.Epoch, .int .i64 v_0.Truth.Leader, lst cI v_0.Truth.InStep, lst Node.cells v_0.Nodes, lst Row.cells v_0.Acked]) rfl ?_
        obtain ⟨v100, hx101, hF102⟩ := bind_some' hF85
        simp only [run_d2_call, put_at, put_no, ev_t, ev_c, reduceIte, Nat.reduceEqDiff, List.map_cons, List.map_nil]
        refine call2q rfl hS98 (mapM1 (snap_agg (mapM1 snap_int (mapM1 snap_int (mapM1 snap_lst (mapM1 snap_lst (mapM1 snap_lst mapM0)))))) mapM0) (laws_toCluster_x
            (fun b hb => decide_eq_true hb) k v_0 v100 hx101) ?_
        rintro _ h115 ⟨v103, c104, v107, c108, v111, c112, rfl, hv105, hv109, hv113, hS116⟩
        refine ⟨_, free_a (all_c rfl (all_c rfl (all_c (SlF.free1 hv105) (all_c (SlN.free1 hv109) (all_c (SlF.free1 hv113) all_n))))), hS116,
            (pf_app (SlF.pf hv105 (fun _ => rfl)) (pf_app (SlN.pf hv109 Node.RO) (pf_app (SlF.pf hv113 (fun _ => rfl)) pf_nil))), fun h117 hS118 => ?_⟩
        have hS119 : Sep h117 h.length (c104 ++ (c108 ++ (c112 ++ (c35 ++ (c47 ++ (c51 ++ (c55 ++ (c75 ++ ([]))))))))) := by simpa only [List.append_assoc,
            List.nil_append] using hS118
        obtain ⟨v120, hx121, hF122⟩ := bind_some' hF102
        simp only [run_d3_call, put_at, put_no, ev_t, ev_c, reduceIte, Nat.reduceEqDiff, List.map_cons, List.map_nil]
        refine call1d rfl (mapM1 (snap_agg (mapM1 snap_int (mapM1 snap_int (mapM1 (SlF.snap hv48 (Sep.m4 hS119) rfl (fun _ => rfl) (fun _ => rfl)) (mapM1 (SlN.snap hv52 _
            (Sep.m5 hS119) rfl Node.RO) (mapM1 (SlF.snap hv56 (Sep.m6 hS119) rfl (fun _ => rfl) (fun _ => rfl)) mapM0)))))) (mapM1 (snap_agg (mapM1 snap_int (mapM1 snap_int
            (mapM1 (SlF.snap hv105 hS119 rfl (fun _ => rfl) (fun _ => rfl)) (mapM1 (SlN.snap hv109 _ (Sep.m1 hS119) rfl Node.RO) (mapM1 (SlF.snap hv113 (Sep.m2 hS119) rfl
            (fun _ => rfl) (fun _ => rfl)) mapM0)))))) mapM0)) (laws_eqCluster_x (fun b hb => decide_eq_true hb) k v43 v100 v120 hx121) ?_
        simp only [d4_un, put1d_some, xnot, run_draw_nil, run_cond, put_at, put_no, ev_t, ev_c, reduceIte, Nat.reduceEqDiff, List.map_cons, List.map_nil]
        refine cond_split (t := (!v120)) (fun hc123 => ?_) (fun hc123 => ?_)
        · rw [iteT hc123] at hF122
          simp only [run_seq, run_reg, run_mv, run_ops_nil, run_ret, put_at, put_no, ev_t, ev_c, reduceIte, Nat.reduceEqDiff, List.map_cons, List.map_nil]
          have he := some_inj hF122
          subst he
          simp only [end_ret1, put_at, put_no, ev_t, ev_c, reduceIte, Nat.reduceEqDiff, List.map_cons, List.map_nil]
          exact rfl
        · rw [iteF hc123] at hF122
          simp only [run_skip, x6_15, run_seq, run_reg, run_mv, run_ops_nil, x6_14, f94, run_ld, put_at, put_no, ev_t, ev_c, reduceIte, Nat.reduceEqDiff, List.map_cons,
              List.map_nil]
          refine put1_eq (v := .agg [.int .i64 v43.Truth.Epoch, .int .i64 v43.Truth.Leader, v46, v50, v54]) rfl ?_
          obtain ⟨v124, hx125, hF126⟩ := bind_some' hF122
          simp only [run_mv, run_call, put_at, put_no, ev_t, ev_c, reduceIte, Nat.reduceEqDiff, List.map_cons, List.map_nil]
          refine call0 rfl (laws_markCluster_x hW k v43 v46 c47 hv48 v50 c51 hv52 v54 c55 hv56 1 v124 hx125 (Sep.m6 (Sep.m6 (Sep.m6 hS119)))) ?_
          rintro _ h133 ⟨c127, c129, c131, rfl, hv128, hv130, hv132, hS134⟩
          simp only [run_mv, run_ops_nil, x6_13, run_seq, run_reg, run_bin, put1_some, xlss, put_at, put_no, ev_t, ev_c, reduceIte, Nat.reduceEqDiff, List.map_cons, List.map_nil]
          obtain ⟨v138, hx139, hF140⟩ := bind_some' hF126
          refine ops_j 5 (fun fr' h' => Sep h' h.length (c35 ++ (c75 ++ ([]))) ∧ fr' 56 = .bool v138 ∧ fr' 1 = .ref [.int .i64 v_0.Truth.Epoch, .int .i64 v_0.Truth.Leader,
              lst cI v_0.Truth.InStep, lst Node.cells v_0.Nodes,
              lst Row.cells v_0.Acked] 0 ∧ fr' 4 = v34 ∧ fr' 5 = .bool v31.2 ∧ fr' 7 = v74 ∧ fr' 8 = .bool v71.2) (fun Q135 hN136 => ?_) ?_
          · simp only [List.take_succ_cons, List.take_zero]
            simp only [run_guard (g := 51), put_at, put_no, ev_t, ev_c, reduceIte, Nat.reduceEqDiff, List.map_cons, List.map_nil]
            refine guard_split (t := (decide (v124.1 < 0))) (fun hg137 => ?_) (fun hg137 => ?_)
            · rw [iteT hg137] at hx139
              simp only [hg137, run_guard (g := 51), guard_off', run_pick, put1_some, xpick_t, run_ops_nil, run_nil, put_at, put_no, ev_t, ev_c, reduceIte, Nat.reduceEqDiff,
                  List.map_cons, List.map_nil]
              have e141 := some_inj hx139
              exact hN136 _ _ ⟨(Sep.m1 (Sep.m1 (Sep.dc ((Sep.dc ((Sep.dc ((Sep.dc ((Sep.dc ((Sep.dc (hS134)))))))))))))), by rw [← e141]; simp only [put_at, put_no, ev_t, ev_c,
                  reduceIte, Nat.reduceEqDiff, List.map_cons, List.map_nil], by simp only [f91, put_at, put_no, ev_t, ev_c, reduceIte, Nat.reduceEqDiff, List.map_cons,
                  List.map_nil], by simp only [f92, put_at, put_no, ev_t, ev_c, reduceIte, Nat.reduceEqDiff, List.map_cons, List.map_nil], by simp only [f93, put_at, put_no, ev_t,
                  ev_c, reduceIte, Nat.reduceEqDiff, List.map_cons, List.map_nil], by simp only [f95, put_at, put_no, ev_t, ev_c, reduceIte, Nat.reduceEqDiff, List.map_cons,
                  List.map_nil], by simp only [f96, put_at, put_no, ev_t, ev_c, reduceIte, Nat.reduceEqDiff, List.map_cons, List.map_nil]⟩
            · rw [iteF hg137] at hx139
              obtain ⟨v142, hx143, hF144⟩ := bind_some' hx139
              simp only [hg137, run_guard (g := 51), guard_false, f95, run_mv, f92, run_call, put_at, put_no, ev_t, ev_c, reduceIte, Nat.reduceEqDiff, List.map_cons, List.map_nil]
              refine call1 rfl (mapM1 (SlF.snap hv76 (Sep.m7 hS134) rfl (fun _ => rfl) (fun _ => rfl)) (mapM1 (SlF.snap hv36 (Sep.m6 hS134) rfl (fun _ => rfl)
                  (fun _ => rfl)) mapM0)) (laws_eqIntS_x (fun b hb => decide_eq_true hb) k v71.1 v31.1 v142 hx143) ?_
              simp only [hg137, run_guard (g := 51), guard_false, run_un, put1_some, xnot, run_pick, xpick_f, run_ops_nil, run_nil, put_at, put_no, ev_t, ev_c, reduceIte,
                  Nat.reduceEqDiff, List.map_cons, List.map_nil]
              have e145 := some_inj hF144
              exact hN136 _ _ ⟨(Sep.m1 (Sep.m1 (Sep.dc ((Sep.dc ((Sep.dc ((Sep.dc ((Sep.dc ((Sep.dc (hS134)))))))))))))), by rw [← e145]; simp only [put_at, put_no, ev_t, ev_c,
                  reduceIte, Nat.reduceEqDiff, List.map_cons, List.map_nil], by simp only [f91, put_at, put_no, ev_t, ev_c, reduceIte, Nat.reduceEqDiff, List.map_cons,
                  List.map_nil], by simp only [f92, put_at, put_no, ev_t, ev_c, reduceIte, Nat.reduceEqDiff, List.map_cons, List.map_nil], by simp only [f93, put_at, put_no, ev_t,
                  ev_c, reduceIte, Nat.reduceEqDiff, List.map_cons, List.map_nil], by simp only [f95, put_at, put_no, ev_t, ev_c, reduceIte, Nat.reduceEqDiff, List.map_cons,
                  List.map_nil], by simp only [f96, put_at, put_no, ev_t, ev_c, reduceIte, Nat.reduceEqDiff, List.map_cons, List.map_nil]⟩
          · rintro fr146 h153 ⟨hS154, f147, f148, f149, f150, f151, f152⟩
            simp only [List.drop_succ_cons, List.drop_zero]
            simp only [f147, run_mv, put_at, put_no, ev_t, ev_c, reduceIte, Nat.reduceEqDiff, List.map_cons, List.map_nil]
            refine ops_j 4 (fun fr' h' => Sep h' h.length (c35 ++ (c75 ++ ([]))) ∧ fr' 61 = .bool (v138 || (!(v71.2 == v31.2))) ∧ fr' 1 = .ref [.int .i64 v_0.Truth.Epoch,
                .int .i64 v_0.Truth.Leader, lst cI v_0.Truth.InStep, lst Node.cells v_0.Nodes,
                lst Row.cells v_0.Acked] 0 ∧ fr' 4 = v34 ∧ fr' 5 = .bool v31.2 ∧ fr' 7 = v74) (fun Q155 hN156 => ?_) ?_
            · simp only [List.take_succ_cons, List.take_zero]
              simp only [run_guard (g := 57), put_at, put_no, ev_t, ev_c, reduceIte, Nat.reduceEqDiff, List.map_cons, List.map_nil]
              refine guard_split (t := v138) (fun hg157 => ?_) (fun hg157 => ?_)
              · simp only [hg157, run_guard (g := 57), guard_off', run_pick, put1_some, xpick_t, run_ops_nil, run_nil, put_at, put_no, ev_t, ev_c, reduceIte, Nat.reduceEqDiff,
                  List.map_cons, List.map_nil]
                exact hN156 _ _ ⟨(Sep.m1 (Sep.m1 hS154)), by rw [orT hg157]; simp only [put_at, put_no, ev_t, ev_c, reduceIte, Nat.reduceEqDiff, List.map_cons, List.map_nil],
                    by simp only [f148, put_at, put_no, ev_t, ev_c, reduceIte, Nat.reduceEqDiff, List.map_cons, List.map_nil], by simp only [f149, put_at, put_no, ev_t, ev_c,
                    reduceIte, Nat.reduceEqDiff, List.map_cons, List.map_nil], by simp only [f150, put_at, put_no, ev_t, ev_c, reduceIte, Nat.reduceEqDiff, List.map_cons,
                    List.map_nil], by simp only [f151, put_at, put_no, ev_t, ev_c, reduceIte, Nat.reduceEqDiff, List.map_cons, List.map_nil]⟩
              · simp only [hg157, run_guard (g := 57), guard_false, f152, run_mv, f150, run_eqb, put1_some, xeqb_t, run_pick, xpick_f, run_ops_nil, run_nil, put_at, put_no, ev_t,
                  ev_c, reduceIte, Nat.reduceEqDiff, List.map_cons, List.map_nil]
                exact hN156 _ _ ⟨(Sep.m1 (Sep.m1 hS154)), by rw [orF hg157]; simp only [put_at, put_no, ev_t, ev_c, reduceIte, Nat.reduceEqDiff, List.map_cons, List.map_nil],
                    by simp only [f148, put_at, put_no, ev_t, ev_c, reduceIte, Nat.reduceEqDiff, List.map_cons, List.map_nil], by simp only [f149, put_at, put_no, ev_t, ev_c,
                    reduceIte, Nat.reduceEqDiff, List.map_cons, List.map_nil], by simp only [f150, put_at, put_no, ev_t, ev_c, reduceIte, Nat.reduceEqDiff, List.map_cons,
                    List.map_nil], by simp only [f151, put_at, put_no, ev_t, ev_c, reduceIte, Nat.reduceEqDiff, List.map_cons, List.map_nil]⟩
            · rintro fr158 h164 ⟨hS165, f159, f160, f161, f162, f163⟩
              simp only [List.drop_succ_cons, List.drop_zero]
              simp only [run_ops_nil, f159, run_cond, put_at, put_no, ev_t, ev_c, reduceIte, Nat.reduceEqDiff, List.map_cons, List.map_nil]
              refine cond_split (t := (v138 || (!(v71.2 == v31.2)))) (fun hc166 => ?_) (fun hc166 => ?_)
              · rw [iteT hc166] at hF140
                simp only [run_seq, run_reg, run_mv, run_ops_nil, run_ret, put_at, put_no, ev_t, ev_c, reduceIte, Nat.reduceEqDiff, List.map_cons, List.map_nil]
                have he := some_inj hF140
                subst he
                simp only [end_ret1, put_at, put_no, ev_t, ev_c, reduceIte, Nat.reduceEqDiff, List.map_cons, List.map_nil]
                exact rfl
              · rw [iteF hc166] at hF140
                obtain ⟨v167, hx168, hF169⟩ := bind_some' hF140
                simp only [run_skip, x6_12, run_seq, run_reg, run_mv, run_ops_nil, x6_11, f163, run_call, put_at, put_no, ev_t, ev_c, reduceIte, Nat.reduceEqDiff, List.map_cons,
                    List.map_nil]
                refine call0 rfl (laws_markIntS_x hW k v74 c75 v71.1 hv76 1 v167 hx168 (Sep.m1 hS165)) ?_
                rintro _ h172 ⟨c170, rfl, hv171, hS173⟩
                obtain ⟨v174, hx175, hF176⟩ := bind_some' hF169
                simp only [run_mv, run_ops_nil, x6_10, run_seq, run_reg, x6_9, f163, run_call, put_at, put_no, ev_t, ev_c, reduceIte, Nat.reduceEqDiff, List.map_cons, List.map_nil]
                refine call1 rfl (mapM1 (SlF.snap hv171 hS173 rfl (fun _ => rfl) (fun _ => rfl)) (mapM1 snap_int mapM0)) (laws_heldIntS_x
                    (fun b hb => decide_eq_true hb) k v167.2 1 v174 hx175) ?_
                simp only [run_mv, run_ops_nil, x6_8, run_seq, run_reg, run_bin, put1_some, xlss, run_cond, put_at, put_no, ev_t, ev_c, reduceIte, Nat.reduceEqDiff, List.map_cons,
                    List.map_nil]
                refine cond_split (t := (decide (v174 < 0))) (fun hc177 => ?_) (fun hc177 => ?_)
                · rw [iteT hc177] at hF176
                  simp only [run_seq, run_reg, run_mv, run_ops_nil, run_ret, put_at, put_no, ev_t, ev_c, reduceIte, Nat.reduceEqDiff, List.map_cons, List.map_nil]
                  have he := some_inj hF176
                  subst he
                  simp only [end_ret1, put_at, put_no, ev_t, ev_c, reduceIte, Nat.reduceEqDiff, List.map_cons, List.map_nil]
                  exact rfl
                · rw [iteF hc177] at hF176
                  simp only [run_skip, x6_7, run_seq, run_reg, run_mv, run_bin, put1_some, xneq, run_ops_nil, run_cond, put_at, put_no, ev_t, ev_c, reduceIte, Nat.reduceEqDiff,
                      List.map_cons, List.map_nil]
                  refine cond_split (t := (decide (v174 ≠ v167.1))) (fun hc178 => ?_) (fun hc178 => ?_)
                  · rw [iteT hc178] at hF176
                    simp only [run_seq, run_reg, run_mv, run_ops_nil, run_ret, put_at, put_no, ev_t, ev_c, reduceIte, Nat.reduceEqDiff, List.map_cons, List.map_nil]
                    have he := some_inj hF176
                    subst he
                    simp only [end_ret1, put_at, put_no, ev_t, ev_c, reduceIte, Nat.reduceEqDiff, List.map_cons, List.map_nil]
                    exact rfl
                  · rw [iteF hc178] at hF176
                    simp only [run_skip, x6_6, run_seq, run_reg, f160, run_ld, put_at, put_no, ev_t, ev_c, reduceIte, Nat.reduceEqDiff, List.map_cons, List.map_nil]
                    refine put1_eq (v := .agg [.int .i64 v_0.Truth.Epoch, .int .i64 v_0.Truth.Leader, lst cI v_0.Truth.InStep, lst Node.cells v_0.Nodes,
                        lst Row.cells v_0.Acked]) rfl ?_
                    obtain ⟨v179, hx180, hF181⟩ := bind_some' hF176
                    simp only [run_call, put_at, put_no, ev_t, ev_c, reduceIte, Nat.reduceEqDiff, List.map_cons, List.map_nil]
                    refine call2 rfl hS173 (mapM1 (snap_agg (mapM1 snap_int (mapM1 snap_int (mapM1 snap_lst (mapM1 snap_lst (mapM1 snap_lst mapM0)))))) mapM0) (laws_toCluster_x
                        (fun b hb => decide_eq_true hb) k v_0 v179 hx180) ?_
                    rintro _ h194 ⟨v182, c183, v186, c187, v190, c191, rfl, hv184, hv188, hv192, hS195⟩
                    refine ⟨_, free_a (all_c rfl (all_c rfl (all_c (SlF.free1 hv184) (all_c (SlN.free1 hv188) (all_c (SlF.free1 hv192) all_n))))), hS195,
                        (pf_app (SlF.pf hv184 (fun _ => rfl)) (pf_app (SlN.pf hv188 Node.RO) (pf_app (SlF.pf hv192 (fun _ => rfl)) pf_nil))), fun h196 hS197 => ?_⟩
                    have hS198 : Sep h196 h.length (c183 ++ (c187 ++ (c191 ++ (c170 ++ (c35 ++ ([])))))) := by simpa only [List.append_assoc, List.nil_append] using hS197
                    obtain ⟨v199, hx200, hF201⟩ := bind_some' hF181
                    simp only [run_call, put_at, put_no, ev_t, ev_c, reduceIte, Nat.reduceEqDiff, List.map_cons, List.map_nil]
                    refine call2 rfl hS198 (mapM1 (snap_agg (mapM1 snap_int (mapM1 snap_int (mapM1 (SlF.snap hv184 hS198 rfl (fun _ => rfl) (fun _ => rfl)) (mapM1
                        (SlN.snap hv188 _ (Sep.m1 hS198) rfl Node.RO) (mapM1 (SlF.snap hv192 (Sep.m2 hS198) rfl (fun _ => rfl) (fun _ => rfl)) mapM0)))))) mapM0) (impl_BehindIn_x
                        (fun b hb => decide_eq_true hb) v179 v199 hx200) ?_
                    rintro _ h206 ⟨v202, c203, rfl, hv204, hS207⟩
                    refine ⟨_, free_t (all_c (free2_1 (SlF.free1 hv204)) (all_c rfl all_n)), hS207, (pf_app (SlF.pf hv204 (fun _ => rfl)) pf_nil), fun h208 hS209 => ?_⟩
                    have hS210 : Sep h208 h.length (c203 ++ (c183 ++ (c187 ++ (c191 ++ (c170 ++ (c35 ++ ([]))))))) := by simpa only [List.append_assoc, List.nil_append] using hS209
                    obtain ⟨v211, hx212, hF213⟩ := bind_some' hF201
                    simp only [run_mv, run_ext, put1_some, xext_0, xext_1, run_ops_nil, x6_5, run_seq, run_reg, f161, run_call, put_at, put_no, ev_t, ev_c, reduceIte,
                        Nat.reduceEqDiff, List.map_cons, List.map_nil]
                    refine call1 rfl (mapM1 (SlF.snap hv204 hS210 rfl (fun _ => rfl) (fun _ => rfl)) (mapM1 (SlF.snap hv36 (Sep.m5 hS210) rfl (fun _ => rfl)
                        (fun _ => rfl)) mapM0)) (laws_eqIntS_x (fun b hb => decide_eq_true hb) k v199.1 v31.1 v211 hx212) ?_
                    simp only [run_un, put1_some, xnot, run_mv, put_at, put_no, ev_t, ev_c, reduceIte, Nat.reduceEqDiff, List.map_cons, List.map_nil]
                    refine ops_j 4 (fun fr' h' => Sep h' h.length (c170 ++ ([])) ∧ fr' 87 = .bool ((!v211) || (!(v199.2 == v31.2))) ∧ fr' 7 = v74 ∧ fr' 10 = .int .i64 v167.1)
                        (fun Q214 hN215 => ?_) ?_
                    · simp only [List.take_succ_cons, List.take_zero]
                      simp only [run_guard (g := 83), put_at, put_no, ev_t, ev_c, reduceIte, Nat.reduceEqDiff, List.map_cons, List.map_nil]
                      refine guard_split (t := (!v211)) (fun hg216 => ?_) (fun hg216 => ?_)
                      · simp only [hg216, run_guard (g := 83), guard_off', run_pick, put1_some, xpick_t, run_ops_nil, run_nil, put_at, put_no, ev_t, ev_c, reduceIte,
                          Nat.reduceEqDiff, List.map_cons, List.map_nil]
                        exact hN215 _ _ ⟨(Sep.dc (Sep.m1 (Sep.dc ((Sep.dc ((Sep.dc ((Sep.dc (hS210)))))))))), by rw [orT hg216]; simp only [put_at, put_no, ev_t, ev_c, reduceIte,
                            Nat.reduceEqDiff, List.map_cons, List.map_nil], by simp only [f163, put_at, put_no, ev_t, ev_c, reduceIte, Nat.reduceEqDiff, List.map_cons,
                            List.map_nil], by simp only [put_at, put_no, ev_t, ev_c, reduceIte, Nat.reduceEqDiff, List.map_cons, List.map_nil]⟩
                      · simp only [hg216, run_guard (g := 83), guard_false, run_mv, f162, run_eqb, put1_some, xeqb_t, run_pick, xpick_f, run_ops_nil, run_nil, put_at, put_no,
                          ev_t, ev_c, reduceIte, Nat.reduceEqDiff, List.map_cons, List.map_nil]
                        exact hN215 _ _ ⟨(Sep.dc (Sep.m1 (Sep.dc ((Sep.dc ((Sep.dc ((Sep.dc (hS210)))))))))), by rw [orF hg216]; simp only [put_at, put_no, ev_t, ev_c, reduceIte,
                            Nat.reduceEqDiff, List.map_cons, List.map_nil], by simp only [f163, put_at, put_no, ev_t, ev_c, reduceIte, Nat.reduceEqDiff, List.map_cons,
                            List.map_nil], by simp only [put_at, put_no, ev_t, ev_c, reduceIte, Nat.reduceEqDiff, List.map_cons, List.map_nil]⟩
                    · rintro fr217 h221 ⟨hS222, f218, f219, f220⟩
                      simp only [List.drop_succ_cons, List.drop_zero]
                      simp only [run_ops_nil, f218, run_cond, put_at, put_no, ev_t, ev_c, reduceIte, Nat.reduceEqDiff, List.map_cons, List.map_nil]
                      refine cond_split (t := ((!v211) || (!(v199.2 == v31.2)))) (fun hc223 => ?_) (fun hc223 => ?_)
                      · rw [iteT hc223] at hF213
                        simp only [run_seq, run_reg, run_mv, run_ops_nil, run_ret, put_at, put_no, ev_t, ev_c, reduceIte, Nat.reduceEqDiff, List.map_cons, List.map_nil]
                        have he := some_inj hF213
                        subst he
                        simp only [end_ret1, put_at, put_no, ev_t, ev_c, reduceIte, Nat.reduceEqDiff, List.map_cons, List.map_nil]
                        exact rfl
                      · rw [iteF hc223] at hF213
                        obtain ⟨v224, hx225, hF226⟩ := bind_some' hF213
                        simp only [run_skip, x6_4, run_seq, run_reg, run_mv, run_ops_nil, x6_3, f219, run_call, put_at, put_no, ev_t, ev_c, reduceIte, Nat.reduceEqDiff,
                            List.map_cons, List.map_nil]
                        refine call1 rfl (mapM1 (SlF.snap hv171 hS222 rfl (fun _ => rfl) (fun _ => rfl)) (mapM1 snap_int mapM0)) (laws_heldIntS_x
                            (fun b hb => decide_eq_true hb) k v167.2 1 v224 hx225) ?_
                        simp only [run_mv, run_ops_nil, x6_2, run_seq, run_reg, run_bin, put1_some, xlss, run_cond, put_at, put_no, ev_t, ev_c, reduceIte, Nat.reduceEqDiff,
                            List.map_cons, List.map_nil]
                        refine cond_split (t := (decide (v224 < 0))) (fun hc227 => ?_) (fun hc227 => ?_)
                        · rw [iteT hc227] at hF226
                          simp only [run_seq, run_reg, run_mv, run_ops_nil, run_ret, put_at, put_no, ev_t, ev_c, reduceIte, Nat.reduceEqDiff, List.map_cons, List.map_nil]
                          have he := some_inj hF226
                          subst he
                          simp only [end_ret1, put_at, put_no, ev_t, ev_c, reduceIte, Nat.reduceEqDiff, List.map_cons, List.map_nil]
                          exact rfl
                        · rw [iteF hc227] at hF226
                          simp only [run_skip, x6_1, run_seq, run_reg, run_mv, f220, run_bin, put1_some, xneq, run_ops_nil, run_cond, put_at, put_no, ev_t, ev_c, reduceIte,
                              Nat.reduceEqDiff, List.map_cons, List.map_nil]
                          refine cond_split (t := (decide (v224 ≠ v167.1))) (fun hc228 => ?_) (fun hc228 => ?_)
                          · rw [iteT hc228] at hF226
                            simp only [run_seq, run_reg, run_mv, run_ops_nil, run_ret, put_at, put_no, ev_t, ev_c, reduceIte, Nat.reduceEqDiff, List.map_cons, List.map_nil]
                            have he := some_inj hF226
                            subst he
                            simp only [end_ret1, put_at, put_no, ev_t, ev_c, reduceIte, Nat.reduceEqDiff, List.map_cons, List.map_nil]
                            exact rfl
                          · rw [iteF hc228] at hF226
                            simp only [run_skip, run_seq, run_reg, run_mv, run_ops_nil, run_ret, put_at, put_no, ev_t, ev_c, reduceIte, Nat.reduceEqDiff, List.map_cons,
                                List.map_nil]
                            have he := some_inj hF226
                            subst he
                            simp only [end_ret1, put_at, put_no, ev_t, ev_c, reduceIte, Nat.reduceEqDiff, List.map_cons, List.map_nil]
                            exact rfl
end Go.Proofs.Ytohofoampalhoaa.X
