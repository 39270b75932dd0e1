/- The functions' code comes to what the plain functions say (3). -/
import Derived.Test.YtefgfcalgjmhjaaXAH2
set_option linter.unusedVariables false
set_option linter.unusedSimpArgs false
set_option maxRecDepth 100000
namespace Go.Proofs.Ytefgfcalgjmhjaa.X
open Go
open Nat (reduceEqDiff)
theorem impl_isGroup_x {W : Nat → Bool} {h : Heap} (hW : ∀ b,
    h.length ≤ b → W b = true) (k : Nat) (v_0 : Group) (r : Bool) (hF : impl_isGroup k v_0 = some r) : Ret E W 52 [.agg [.int .i64 v_0.Epoch, .int .i64 v_0.Leader,
    lst cI v_0.InStep, .int .i64 v_0.High, lst Replica.cells v_0.Replicas]] h (fun v h' => cut h.length h' E.sz false 9 v = some (.bool r)) := by
  refine Ret.of (fn := x52) rfl (Run.of ?_)
  unfold impl_isGroup at hF
  have zf0 : argFr [.agg [.int .i64 v_0.Epoch, .int .i64 v_0.Leader, lst cI v_0.InStep, .int .i64 v_0.High, lst Replica.cells v_0.Replicas]] 0 = .agg [.int .i64 v_0.Epoch,
      .int .i64 v_0.Leader, lst cI v_0.InStep, .int .i64 v_0.High, lst Replica.cells v_0.Replicas] := rfl
  generalize argFr [.agg [.int .i64 v_0.Epoch, .int .i64 v_0.Leader, lst cI v_0.InStep, .int .i64 v_0.High, lst Replica.cells v_0.Replicas]] = fr0 at zf0 ⊢
  have hS : Sep h h.length [] := Sep.nil h
  simp only [x52, run_seq, run_reg, run_box, zf0, B0, reduceIte, reduceEqDiff]
  refine put2_boxC (cs := [.int .i64 v_0.Epoch, .int .i64 v_0.Leader, lst cI v_0.InStep, .int .i64 v_0.High, lst Replica.cells v_0.Replicas]) hS rfl rfl rfl (fun b1 h2 hS3 => ?_)
  simp only [run_mv, run_ops_nil, B0, reduceIte, reduceEqDiff]
  refine frz_stepC hS3 hW (by simp only [B0, reduceIte, reduceEqDiff]) (fun h5 hS6 => ?_)
  simp only [run_frz_nil, x52_8, run_seq, run_reg, run_fa, put1_some, Nat.reduceAdd, Nat.zero_add, Nat.add_zero, xfa_ref, run_ld, B0, reduceIte, reduceEqDiff]
  refine put1_eq (v := lst Replica.cells v_0.Replicas) rfl ?_
  simp only [run_len, put1_some, xlen_lst, run_mv, run_ops_nil, x52_7, run_seq, run_reg, run_call, B0, reduceIte, reduceEqDiff]
  refine call1 rfl (mapM1 snap_int (mapM1 snap_int (mapM1 snap_int mapM0))) (impl_in_x (fun b hb => decide_eq_true hb) (List.length v_0.Replicas : Int) 2 4 _ rfl) ?_
  simp only [run_un, put1_some, xnot, run_mv, B0, reduceIte, reduceEqDiff]
  refine ops_j 5 (fun fr' h' => Sep h' h.length ([]) ∧ fr' 17 = .bool ((!(impl_in (List.length v_0.Replicas : Int) 2 4)) ||
      (!(impl_in v_0.Epoch 0 100))) ∧ fr' 1 = .ref [.int .i64 v_0.Epoch, .int .i64 v_0.Leader, lst cI v_0.InStep, .int .i64 v_0.High,
      lst Replica.cells v_0.Replicas] 0 ∧ fr' 3 = .int .i64 (List.length v_0.Replicas : Int)) (fun Q7 hN8 => ?_) ?_
  · simp only [List.take_succ_cons, List.take_zero]
    simp only [run_guard (g := 12), B0, reduceIte, reduceEqDiff]
    refine guard_split (t := (!(impl_in (List.length v_0.Replicas : Int) 2 4))) (fun hg9 => ?_) (fun hg9 => ?_)
    · simp only [hg9, run_guard (g := 12), guard_off', run_pick, put1_some, xpick_t, run_ops_nil, run_nil, B0, reduceIte, reduceEqDiff]
      exact hN8 _ _ ⟨hS6, by rw [orT hg9]; simp only [B0, reduceIte, reduceEqDiff], by simp only [B0, reduceIte, reduceEqDiff], by simp only [B0, reduceIte, reduceEqDiff]⟩
    · simp only [hg9, run_guard (g := 12), guard_false, run_fa, put1_some, Nat.reduceAdd, Nat.zero_add, Nat.add_zero, xfa_ref, run_ld, B0, reduceIte, reduceEqDiff]
      refine put1_eq (v := .int .i64 v_0.Epoch) rfl ?_
      simp only [hg9, run_guard (g := 12), guard_false, run_call, B0, reduceIte, reduceEqDiff]
      refine call1 rfl (mapM1 snap_int (mapM1 snap_int (mapM1 snap_int mapM0))) (impl_in_x (fun b hb => decide_eq_true hb) v_0.Epoch 0 100 _ rfl) ?_
      simp only [hg9, run_guard (g := 12), guard_false, run_un, put1_some, xnot, run_pick, xpick_f, run_ops_nil, run_nil, B0, reduceIte, reduceEqDiff]
      exact hN8 _ _ ⟨hS6, by rw [orF hg9]; simp only [B0, reduceIte, reduceEqDiff], by simp only [B0, reduceIte, reduceEqDiff], by simp only [B0, reduceIte, reduceEqDiff]⟩
  rintro fr10 h14 ⟨hS15, f11, f12, f13⟩
  simp only [List.drop_succ_cons, List.drop_zero]
  simp only [f11, run_mv, B0, reduceIte, reduceEqDiff]
  refine ops_j 7 (fun fr' h' => Sep h' h.length ([]) ∧ fr' 25 = .bool (((!(impl_in (List.length v_0.Replicas : Int) 2 4)) || (!(impl_in v_0.Epoch 0 100))) ||
      (!(impl_in v_0.Leader 0 (IntKind.wrap .i64 ((List.length v_0.Replicas : Int) - 1))))) ∧ fr' 1 = .ref [.int .i64 v_0.Epoch, .int .i64 v_0.Leader, lst cI v_0.InStep,
      .int .i64 v_0.High, lst Replica.cells v_0.Replicas] 0 ∧ fr' 3 = .int .i64 (List.length v_0.Replicas : Int)) (fun Q16 hN17 => ?_) ?_
  · simp only [List.take_succ_cons, List.take_zero]
    simp only [run_guard (g := 18), B0, reduceIte, reduceEqDiff]
    refine guard_split (t := ((!(impl_in (List.length v_0.Replicas : Int) 2 4)) || (!(impl_in v_0.Epoch 0 100)))) (fun hg18 => ?_) (fun hg18 => ?_)
    · simp only [hg18, run_guard (g := 18), guard_off', run_pick, put1_some, xpick_t, run_ops_nil, run_nil, B0, reduceIte, reduceEqDiff]
      exact hN17 _ _ ⟨hS15, by rw [orT hg18]; simp only [B0, reduceIte, reduceEqDiff], by simp only [f12, B0, reduceIte, reduceEqDiff], by simp only [f13, B0, reduceIte,
          reduceEqDiff]⟩
    · simp only [hg18, run_guard (g := 18), guard_false, f12, run_fa, put1_some, Nat.reduceAdd, Nat.zero_add, Nat.add_zero, xfa_ref, run_ld, B0, reduceIte, reduceEqDiff]
      refine put1_eq (v := .int .i64 v_0.Leader) rfl ?_
      simp only [hg18, run_guard (g := 18), guard_false, f13, run_mv, run_bin, put1_some, xsub, run_call, B0, reduceIte, reduceEqDiff]
      refine call1 rfl (mapM1 snap_int (mapM1 snap_int (mapM1 snap_int mapM0))) (impl_in_x (fun b hb => decide_eq_true hb) v_0.Leader 0 (IntKind.wrap .i64
          ((List.length v_0.Replicas : Int) - 1)) _ rfl) ?_
      simp only [hg18, run_guard (g := 18), guard_false, run_un, put1_some, xnot, run_pick, xpick_f, run_ops_nil, run_nil, B0, reduceIte, reduceEqDiff]
      exact hN17 _ _ ⟨hS15, by rw [orF hg18]; simp only [B0, reduceIte, reduceEqDiff], by simp only [f12, B0, reduceIte, reduceEqDiff], by simp only [f13, B0, reduceIte,
          reduceEqDiff]⟩
  rintro fr19 h23 ⟨hS24, f20, f21, f22⟩
  simp only [List.drop_succ_cons, List.drop_zero]
  simp only [f20, run_mv, B0, reduceIte, reduceEqDiff]
  obtain ⟨v28, hx29, hF30⟩ := bind_some' hF
  refine ops_j 6 (fun fr' h' => Sep h' h.length ([]) ∧ fr' 32 = .bool v28 ∧ fr' 1 = .ref [.int .i64 v_0.Epoch, .int .i64 v_0.Leader, lst cI v_0.InStep, .int .i64 v_0.High,
      lst Replica.cells v_0.Replicas] 0) (fun Q25 hN26 => ?_) ?_
  · simp only [List.take_succ_cons, List.take_zero]
    simp only [run_guard (g := 26), B0, reduceIte, reduceEqDiff]
    refine guard_split (t := (((!(impl_in (List.length v_0.Replicas : Int) 2 4)) || (!(impl_in v_0.Epoch 0 100))) || (!(impl_in v_0.Leader 0 (IntKind.wrap .i64
        ((List.length v_0.Replicas : Int) - 1)))))) (fun hg27 => ?_) (fun hg27 => ?_)
    · rw [iteT hg27] at hx29
      simp only [hg27, run_guard (g := 26), guard_off', run_pick, put1_some, xpick_t, run_ops_nil, run_nil, B0, reduceIte, reduceEqDiff]
      have e31 := some_inj hx29
      exact hN26 _ _ ⟨hS24, by rw [← e31]; simp only [B0, reduceIte, reduceEqDiff], by simp only [f21, B0, reduceIte, reduceEqDiff]⟩
    · rw [iteF hg27] at hx29
      simp only [hg27, run_guard (g := 26), guard_false, f21, run_fa, put1_some, Nat.reduceAdd, Nat.zero_add, Nat.add_zero, xfa_ref, run_ld, B0, reduceIte, reduceEqDiff]
      refine put1_eq (v := lst cI v_0.InStep) rfl ?_
      obtain ⟨v32, hx33, hF34⟩ := bind_some' hx29
      simp only [hg27, run_guard (g := 26), guard_false, f22, run_mv, run_call, B0, reduceIte, reduceEqDiff]
      refine call1 rfl (mapM1 snap_lst (mapM1 snap_int mapM0)) (impl_areMembers_x (fun b hb => decide_eq_true hb) v_0.InStep (List.length v_0.Replicas : Int) v32 hx33) ?_
      simp only [hg27, run_guard (g := 26), guard_false, run_un, put1_some, xnot, run_pick, xpick_f, run_ops_nil, run_nil, B0, reduceIte, reduceEqDiff]
      have e35 := some_inj hF34
      exact hN26 _ _ ⟨hS24, by rw [← e35]; simp only [B0, reduceIte, reduceEqDiff], by simp only [f21, B0, reduceIte, reduceEqDiff]⟩
  rintro fr36 h39 ⟨hS40, f37, f38⟩
  simp only [List.drop_succ_cons, List.drop_zero]
  simp only [f37, run_mv, B0, reduceIte, reduceEqDiff]
  obtain ⟨v44, hx45, hF46⟩ := bind_some' hF30
  refine ops_j 7 (fun fr' h' => Sep h' h.length ([]) ∧ fr' 40 = .bool v44 ∧ fr' 1 = .ref [.int .i64 v_0.Epoch, .int .i64 v_0.Leader, lst cI v_0.InStep, .int .i64 v_0.High,
      lst Replica.cells v_0.Replicas] 0) (fun Q41 hN42 => ?_) ?_
  · simp only [List.take_succ_cons, List.take_zero]
    simp only [run_guard (g := 33), B0, reduceIte, reduceEqDiff]
    refine guard_split (t := v28) (fun hg43 => ?_) (fun hg43 => ?_)
    · rw [iteT hg43] at hx45
      simp only [hg43, run_guard (g := 33), guard_off', run_pick, put1_some, xpick_t, run_ops_nil, run_nil, B0, reduceIte, reduceEqDiff]
      have e47 := some_inj hx45
      exact hN42 _ _ ⟨hS40, by rw [← e47]; simp only [B0, reduceIte, reduceEqDiff], by simp only [f38, B0, reduceIte, reduceEqDiff]⟩
    · rw [iteF hg43] at hx45
      simp only [hg43, run_guard (g := 33), guard_false, f38, run_fa, put1_some, Nat.reduceAdd, Nat.zero_add, Nat.add_zero, xfa_ref, run_ld, B0, reduceIte, reduceEqDiff]
      refine put1_eq (v := lst cI v_0.InStep) rfl ?_
      simp only [hg43, run_guard (g := 33), guard_false, f38, run_fa, put1_some, Nat.reduceAdd, Nat.zero_add, Nat.add_zero, xfa_ref, run_ld, B0, reduceIte, reduceEqDiff]
      refine put1_eq (v := .int .i64 v_0.Leader) rfl ?_
      obtain ⟨v48, hx49, hF50⟩ := bind_some' hx45
      simp only [hg43, run_guard (g := 33), guard_false, run_call, B0, reduceIte, reduceEqDiff]
      refine call1 rfl (mapM1 snap_lst (mapM1 snap_int mapM0)) (slices_Contains_int_x (fun b hb => decide_eq_true hb) v_0.InStep v_0.Leader v48 hx49) ?_
      simp only [hg43, run_guard (g := 33), guard_false, run_un, put1_some, xnot, run_pick, xpick_f, run_ops_nil, run_nil, B0, reduceIte, reduceEqDiff]
      have e51 := some_inj hF50
      exact hN42 _ _ ⟨hS40, by rw [← e51]; simp only [B0, reduceIte, reduceEqDiff], by simp only [f38, B0, reduceIte, reduceEqDiff]⟩
  rintro fr52 h55 ⟨hS56, f53, f54⟩
  simp only [List.drop_succ_cons, List.drop_zero]
  simp only [f53, run_mv, B0, reduceIte, reduceEqDiff]
  refine ops_j 4 (fun fr' h' => Sep h' h.length ([]) ∧ fr' 45 = .bool (v44 || (decide (v_0.High < 0))) ∧ fr' 1 = .ref [.int .i64 v_0.Epoch, .int .i64 v_0.Leader,
      lst cI v_0.InStep, .int .i64 v_0.High, lst Replica.cells v_0.Replicas] 0) (fun Q57 hN58 => ?_) ?_
  · simp only [List.take_succ_cons, List.take_zero]
    simp only [run_guard (g := 41), B0, reduceIte, reduceEqDiff]
    refine guard_split (t := v44) (fun hg59 => ?_) (fun hg59 => ?_)
    · simp only [hg59, run_guard (g := 41), guard_off', run_pick, put1_some, xpick_t, run_ops_nil, run_nil, B0, reduceIte, reduceEqDiff]
      exact hN58 _ _ ⟨hS56, by rw [orT hg59]; simp only [B0, reduceIte, reduceEqDiff], by simp only [f54, B0, reduceIte, reduceEqDiff]⟩
    · simp only [hg59, run_guard (g := 41), guard_false, f54, run_fa, put1_some, Nat.reduceAdd, Nat.zero_add, Nat.add_zero, xfa_ref, run_ld, B0, reduceIte, reduceEqDiff]
      refine put1_eq (v := .int .i64 v_0.High) rfl ?_
      simp only [hg59, run_guard (g := 41), guard_false, run_bin, put1_some, xlss, run_pick, xpick_f, run_ops_nil, run_nil, B0, reduceIte, reduceEqDiff]
      exact hN58 _ _ ⟨hS56, by rw [orF hg59]; simp only [B0, reduceIte, reduceEqDiff], by simp only [f54, B0, reduceIte, reduceEqDiff]⟩
  rintro fr60 h63 ⟨hS64, f61, f62⟩
  simp only [List.drop_succ_cons, List.drop_zero]
  simp only [run_ops_nil, f61, run_cond, B0, reduceIte, reduceEqDiff]
  refine cond_split (t := (v44 || (decide (v_0.High < 0)))) (fun hc65 => ?_) (fun hc65 => ?_)
  · rw [iteT hc65] at hF46
    simp only [run_seq, run_reg, run_mv, run_ops_nil, run_ret, B0, reduceIte, reduceEqDiff]
    have he := some_inj hF46
    subst he
    simp only [end_ret1, B0, reduceIte, reduceEqDiff]
    exact rfl
  rw [iteF hc65] at hF46
  simp only [run_skip, x52_6, run_seq, run_reg, f62, run_fa, put1_some, Nat.reduceAdd, Nat.zero_add, Nat.add_zero, xfa_ref, run_ld, B0, reduceIte, reduceEqDiff]
  refine put1_eq (v := lst Replica.cells v_0.Replicas) rfl ?_
  simp only [run_len, put1_some, xlen_lst, run_mv, run_ops_nil, B0, reduceIte, reduceEqDiff]
  obtain ⟨oc68, hX70, hk71⟩ := jn_some hF46
  simp only [x52_5]
  refine rangeL_j (σ := Unit) v_0.Replicas (fun i66 x67 _ => impl_isGroup_b1 k v_0 i66 x67 ) (fun s fr' h' => fr' 1 = .ref [.int .i64 v_0.Epoch, .int .i64 v_0.Leader,
      lst cI v_0.InStep, .int .i64 v_0.High, lst Replica.cells v_0.Replicas] 0 ∧ fr' 47 = lst Replica.cells v_0.Replicas ∧ Sep h' h.length ([])) hX70 ⟨by simp only [f62, B0,
      reduceIte, reduceEqDiff], by simp only [B0, reduceIte, reduceEqDiff], hS64⟩ (by simp only [B0, reduceIte, reduceEqDiff]) (by simp only [B0, reduceIte,
      reduceEqDiff]) (fun _ _ _ h => h) rfl rfl (fun _ _ _ _ h => h) (fun _ _ _ _ h => h) (fun _ _ _ _ h => h) (by decide) ?_ ?_
  · rintro i66 x67 _ fr80 h81 hx85 ⟨f83, f84, hS82⟩ f86 f87 oc69 hF72 hr73 Q74 hN75 hB79 hK76 hR77 hE78
    unfold impl_isGroup_b1 at hF72
    simp only [x52_3, run_seq, run_reg, f86, run_mv, f84, run_ia, B0, reduceIte, reduceEqDiff]
    refine put1_eq (v := .ref (Replica.cells x67) 0) (xia_lstN hx85 rfl) ?_
    simp only [run_ld, B0, reduceIte, reduceEqDiff]
    refine put1_eq (v := .agg [lst Row.cells x67.Log, .int .i64 x67.Epoch, .int .i64 x67.Known]) rfl ?_
    simp only [run_new, B0, reduceIte, reduceEqDiff]
    refine put2_newC hS82 (fun b88 h89 hS90 => ?_)
    simp only [run_mv, run_st, B0, reduceIte, reduceEqDiff]
    refine put2_stCx (us := [lst Row.cells x67.Log, .int .i64 x67.Epoch, .int .i64 x67.Known]) rfl (cs' := [lst Row.cells x67.Log, .int .i64 x67.Epoch,
        .int .i64 x67.Known]) hS90 hW rfl rfl (Nat.le_of_ble_eq_true rfl) rfl (fun h92 hS93 => ?_)
    simp only [run_ops_nil, B0, reduceIte, reduceEqDiff]
    refine frz_stepC hS93 hW (by simp only [B0, reduceIte, reduceEqDiff]) (fun h94 hS95 => ?_)
    simp only [run_frz_nil, x52_2, run_seq, run_draw, d4_fa, put1d_some, Nat.reduceAdd, Nat.zero_add, Nat.add_zero, xfa_ref, d4_ld, B0, reduceIte, reduceEqDiff]
    refine put1d_eq (v := lst Row.cells x67.Log) rfl ?_
    simp only [f83, d4_fa, put1d_some, Nat.reduceAdd, Nat.zero_add, Nat.add_zero, xfa_ref, d4_ld, B0, reduceIte, reduceEqDiff]
    refine put1d_eq (v := .int .i64 v_0.Epoch) rfl ?_
    obtain ⟨v96, hx97, hF98⟩ := bind_some' hF72
    simp only [run_d3_call, B0, reduceIte, reduceEqDiff]
    refine call1d rfl (mapM1 snap_lst (mapM1 snap_int mapM0)) (impl_isRows_x (fun b hb => decide_eq_true hb) x67.Log v_0.Epoch v96 hx97) ?_
    simp only [d4_un, put1d_some, xnot, d4_mv, B0, reduceIte, reduceEqDiff]
    simp only [run_guardd (g := 60), B0, reduceIte, reduceEqDiff]
    refine guardd_split (t := (!v96)) (fun hg99 => ?_) (fun hg99 => ?_)
    · rw [iteT hg99] at hF98
      simp only [hg99, run_guardd (g := 60), guardd_off', d4_pick, put1d_some, xpick_t, d4_mv, run_guardd (g := 68), run_guardd (g := 77), run_guardd (g := 83), guardd_tup,
          run_draw_nil, run_cond, cond_true, run_seq, run_reg, run_mv, run_ops_nil, run_ret, B0, reduceIte, reduceEqDiff]
      have e100 := some_inj hF98
      subst e100
      have ho101 := hr73 _ rfl
      have hk102 := hk71
      rw [ho101] at hk102
      dsimp only [jnO] at hk102
      apply hR77
      have he := some_inj hk102
      subst he
      simp only [end_ret1, B0, reduceIte, reduceEqDiff]
      exact rfl
    rw [iteF hg99] at hF98
    simp only [hg99, run_guardd (g := 60), guardd_false, d4_fa, put1d_some, Nat.reduceAdd, Nat.zero_add, Nat.add_zero, xfa_ref, d4_ld, B0, reduceIte, reduceEqDiff]
    refine put1d_eq (v := .int .i64 x67.Epoch) rfl ?_
    simp only [hg99, run_guardd (g := 60), guardd_false, f83, d4_fa, put1d_some, Nat.reduceAdd, Nat.zero_add, Nat.add_zero, xfa_ref, d4_ld, B0, reduceIte, reduceEqDiff]
    refine put1d_eq (v := .int .i64 v_0.Epoch) rfl ?_
    simp only [hg99, run_guardd (g := 60), guardd_false, run_d3_call, B0, reduceIte, reduceEqDiff]
    refine call1d rfl (mapM1 snap_int (mapM1 snap_int (mapM1 snap_int mapM0))) (impl_in_x (fun b hb => decide_eq_true hb) x67.Epoch 0 v_0.Epoch _ rfl) ?_
    simp only [hg99, run_guardd (g := 60), guardd_false, d4_un, put1d_some, xnot, d4_pick, xpick_f, d4_mv, B0, reduceIte, reduceEqDiff]
    simp only [run_guardd (g := 68), B0, reduceIte, reduceEqDiff]
    refine guardd_split (t := (!(impl_in x67.Epoch 0 v_0.Epoch))) (fun hg103 => ?_) (fun hg103 => ?_)
    · rw [iteT hg103] at hF98
      simp only [hg103, run_guardd (g := 68), guardd_off', d4_pick, put1d_some, xpick_t, d4_mv, run_guardd (g := 77), run_guardd (g := 83), guardd_tup, run_draw_nil, run_cond,
          cond_true, run_seq, run_reg, run_mv, run_ops_nil, run_ret, B0, reduceIte, reduceEqDiff]
      have e104 := some_inj hF98
      subst e104
      have ho105 := hr73 _ rfl
      have hk106 := hk71
      rw [ho105] at hk106
      dsimp only [jnO] at hk106
      apply hR77
      have he := some_inj hk106
      subst he
      simp only [end_ret1, B0, reduceIte, reduceEqDiff]
      exact rfl
    rw [iteF hg103] at hF98
    simp only [hg103, run_guardd (g := 68), guardd_false, d4_fa, put1d_some, Nat.reduceAdd, Nat.zero_add, Nat.add_zero, xfa_ref, d4_ld, B0, reduceIte, reduceEqDiff]
    refine put1d_eq (v := .int .i64 x67.Known) rfl ?_
    simp only [hg103, run_guardd (g := 68), guardd_false, d4_fa, put1d_some, Nat.reduceAdd, Nat.zero_add, Nat.add_zero, xfa_ref, d4_ld, B0, reduceIte, reduceEqDiff]
    refine put1d_eq (v := lst Row.cells x67.Log) rfl ?_
    simp only [hg103, run_guardd (g := 68), guardd_false, d4_len, put1d_some, xlen_lst, run_d3_call, B0, reduceIte, reduceEqDiff]
    refine call1d rfl (mapM1 snap_int (mapM1 snap_int (mapM1 snap_int mapM0))) (impl_in_x (fun b hb => decide_eq_true hb) x67.Known 0 (List.length x67.Log : Int) _ rfl) ?_
    simp only [hg103, run_guardd (g := 68), guardd_false, d4_un, put1d_some, xnot, d4_pick, xpick_f, d4_mv, B0, reduceIte, reduceEqDiff]
    simp only [run_guardd (g := 77), B0, reduceIte, reduceEqDiff]
    refine guardd_split (t := (!(impl_in x67.Known 0 (List.length x67.Log : Int)))) (fun hg107 => ?_) (fun hg107 => ?_)
    · rw [iteT hg107] at hF98
      simp only [hg107, run_guardd (g := 77), guardd_off', run_guardd (g := 83), guardd_tup, d4_pick, put1d_some, xpick_t, run_draw_nil, run_cond, cond_true, run_seq, run_reg,
          run_mv, run_ops_nil, run_ret, B0, reduceIte, reduceEqDiff]
      have e108 := some_inj hF98
      subst e108
      have ho109 := hr73 _ rfl
      have hk110 := hk71
      rw [ho109] at hk110
      dsimp only [jnO] at hk110
      apply hR77
      have he := some_inj hk110
      subst he
      simp only [end_ret1, B0, reduceIte, reduceEqDiff]
      exact rfl
    rw [iteF hg107] at hF98
    simp only [hg107, run_guardd (g := 77), guardd_false, d4_fa, put1d_some, Nat.reduceAdd, Nat.zero_add, Nat.add_zero, xfa_ref, d4_ld, B0, reduceIte, reduceEqDiff]
    refine put1d_eq (v := .int .i64 x67.Epoch) rfl ?_
    simp only [hg107, run_guardd (g := 77), guardd_false, f83, d4_fa, put1d_some, Nat.reduceAdd, Nat.zero_add, Nat.add_zero, xfa_ref, d4_ld, B0, reduceIte, reduceEqDiff]
    refine put1d_eq (v := .int .i64 v_0.Epoch) rfl ?_
    simp only [hg107, run_guardd (g := 77), guardd_false, d4_bin, put1d_some, xeql, d4_mv, B0, reduceIte, reduceEqDiff]
    simp only [run_guardd (g := 83), B0, reduceIte, reduceEqDiff]
    refine guardd_split (t := (decide (x67.Epoch = v_0.Epoch))) (fun hg111 => ?_) (fun hg111 => ?_)
    · rw [iteT hg111] at hF98
      simp only [hg111, run_guardd (g := 83), guardd_true, d1_fa, put1d_some, Nat.reduceAdd, Nat.zero_add, Nat.add_zero, xfa_ref, d1_ld, ldd_ref, B0, reduceIte, reduceEqDiff]
      refine put1d_eq (v := .int .i64 x67.Known) rfl ?_
      simp only [hg111, run_guardd (g := 83), guardd_true, f83, d4_ld, B0, reduceIte, reduceEqDiff]
      refine put1d_eq (v := .agg [.int .i64 v_0.Epoch, .int .i64 v_0.Leader, lst cI v_0.InStep, .int .i64 v_0.High, lst Replica.cells v_0.Replicas]) rfl ?_
      obtain ⟨v112, hx113, hF114⟩ := bind_some' hF98
      simp only [hg111, run_guardd (g := 83), guardd_true, d4_mv, put1d_some, run_d2_call, B0, reduceIte, reduceEqDiff]
      refine call1q rfl (mapM1 (snap_agg (mapM1 snap_int (mapM1 snap_int (mapM1 snap_lst (mapM1 snap_int (mapM1 snap_lst mapM0)))))) (mapM1 snap_int mapM0)) (impl_Group_shared_x
          (fun b hb => decide_eq_true hb) k v_0 (i66 : Int) v112 hx113) ?_
      simp only [hg111, run_guardd (g := 83), guardd_true, d4_bin, put1d_some, xgtr, hg107, run_guardd (g := 77), guardd_false, d4_pick, xpick_t, xpick_f, run_draw_nil, run_cond,
          B0, reduceIte, reduceEqDiff]
      refine cond_split (t := (decide (v112 < x67.Known))) (fun hc115 => ?_) (fun hc115 => ?_)
      · rw [iteT hc115] at hF114
        simp only [run_seq, run_reg, run_mv, run_ops_nil, run_ret, B0, reduceIte, reduceEqDiff]
        have e116 := some_inj hF114
        subst e116
        have ho117 := hr73 _ rfl
        have hk118 := hk71
        rw [ho117] at hk118
        dsimp only [jnO] at hk118
        apply hR77
        have he := some_inj hk118
        subst he
        simp only [end_ret1, B0, reduceIte, reduceEqDiff]
        exact rfl
      rw [iteF hc115] at hF114
      simp only [run_skip, x52_1, run_seq, run_draw, f83, d4_fa, put1d_some, Nat.reduceAdd, Nat.zero_add, Nat.add_zero, xfa_ref, d4_ld, B0, reduceIte, reduceEqDiff]
      refine put1d_eq (v := lst cI v_0.InStep) rfl ?_
      obtain ⟨v119, hx120, hF121⟩ := bind_some' hF114
      simp only [d4_mv, put1d_some, run_d3_call, B0, reduceIte, reduceEqDiff]
      refine call1d rfl (mapM1 snap_lst (mapM1 snap_int mapM0)) (slices_Contains_int_x (fun b hb => decide_eq_true hb) v_0.InStep (i66 : Int) v119 hx120) ?_
      simp only [d4_mv, put1d_some, B0, reduceIte, reduceEqDiff]
      simp only [run_guardd (g := 96), B0, reduceIte, reduceEqDiff]
      refine guardd_split (t := v119) (fun hg122 => ?_) (fun hg122 => ?_)
      · rw [iteT hg122] at hF121
        simp only [hg122, run_guardd (g := 96), guardd_true, f83, d1_fa, put1d_some, Nat.reduceAdd, Nat.zero_add, Nat.add_zero, xfa_ref, d1_ld, ldd_ref, B0, reduceIte,
            reduceEqDiff]
        refine put1d_eq (v := .int .i64 v_0.High) rfl ?_
        simp only [hg122, run_guardd (g := 96), guardd_true, f83, d4_ld, B0, reduceIte, reduceEqDiff]
        refine put1d_eq (v := .agg [.int .i64 v_0.Epoch, .int .i64 v_0.Leader, lst cI v_0.InStep, .int .i64 v_0.High, lst Replica.cells v_0.Replicas]) rfl ?_
        obtain ⟨v123, hx124, hF125⟩ := bind_some' hF121
        simp only [hg122, run_guardd (g := 96), guardd_true, d4_mv, put1d_some, run_d2_call, B0, reduceIte, reduceEqDiff]
        refine call1q rfl (mapM1 (snap_agg (mapM1 snap_int (mapM1 snap_int (mapM1 snap_lst (mapM1 snap_int (mapM1 snap_lst mapM0)))))) (mapM1 snap_int mapM0))
            (impl_Group_shared_x (fun b hb => decide_eq_true hb) k v_0 (i66 : Int) v123 hx124) ?_
        simp only [hg122, run_guardd (g := 96), guardd_true, d4_bin, put1d_some, xgtr, d4_pick, xpick_t, run_draw_nil, run_cond, B0, reduceIte, reduceEqDiff]
        refine cond_split (t := (decide (v123 < v_0.High))) (fun hc126 => ?_) (fun hc126 => ?_)
        · rw [iteT hc126] at hF125
          simp only [run_seq, run_reg, run_mv, run_ops_nil, run_ret, B0, reduceIte, reduceEqDiff]
          have e127 := some_inj hF125
          subst e127
          have ho128 := hr73 _ rfl
          have hk129 := hk71
          rw [ho128] at hk129
          dsimp only [jnO] at hk129
          apply hR77
          have he := some_inj hk129
          subst he
          simp only [end_ret1, B0, reduceIte, reduceEqDiff]
          exact rfl
        rw [iteF hc126] at hF125
        simp only [run_skip, run_nil, B0, reduceIte, reduceEqDiff]
        have e130 := some_inj hF125
        exact hN75 _ _ _ e130.symm ⟨by simp only [f83, B0, reduceIte, reduceEqDiff], by simp only [f84, B0, reduceIte, reduceEqDiff], hS95⟩ (by simp only [f86, B0, reduceIte,
            reduceEqDiff]) (by simp only [f87, B0, reduceIte, reduceEqDiff])
      rw [iteF hg122] at hF121
      simp only [hg122, run_guardd (g := 96), guardd_off, d4_pick, put1d_some, xpick_f, run_draw_nil, run_cond, cond_false, run_skip, run_nil, B0, reduceIte, reduceEqDiff]
      have e131 := some_inj hF121
      exact hN75 _ _ _ e131.symm ⟨by simp only [f83, B0, reduceIte, reduceEqDiff], by simp only [f84, B0, reduceIte, reduceEqDiff], hS95⟩ (by simp only [f86, B0, reduceIte,
          reduceEqDiff]) (by simp only [f87, B0, reduceIte, reduceEqDiff])
    rw [iteF hg111] at hF98
    simp only [hg111, run_guardd (g := 83), guardd_off, hg107, run_guardd (g := 77), guardd_false, d4_pick, put1d_some, xpick_f, run_draw_nil, run_cond, cond_false, run_skip,
        x52_1, run_seq, run_draw, f83, d4_fa, Nat.reduceAdd, Nat.zero_add, Nat.add_zero, xfa_ref, d4_ld, B0, reduceIte, reduceEqDiff]
    refine put1d_eq (v := lst cI v_0.InStep) rfl ?_
    obtain ⟨v132, hx133, hF134⟩ := bind_some' hF98
    simp only [d4_mv, put1d_some, run_d3_call, B0, reduceIte, reduceEqDiff]
    refine call1d rfl (mapM1 snap_lst (mapM1 snap_int mapM0)) (slices_Contains_int_x (fun b hb => decide_eq_true hb) v_0.InStep (i66 : Int) v132 hx133) ?_
    simp only [d4_mv, put1d_some, B0, reduceIte, reduceEqDiff]
    simp only [run_guardd (g := 96), B0, reduceIte, reduceEqDiff]
    refine guardd_split (t := v132) (fun hg135 => ?_) (fun hg135 => ?_)
    · rw [iteT hg135] at hF134
      simp only [hg135, run_guardd (g := 96), guardd_true, f83, d1_fa, put1d_some, Nat.reduceAdd, Nat.zero_add, Nat.add_zero, xfa_ref, d1_ld, ldd_ref, B0, reduceIte, reduceEqDiff]
      refine put1d_eq (v := .int .i64 v_0.High) rfl ?_
      simp only [hg135, run_guardd (g := 96), guardd_true, f83, d4_ld, B0, reduceIte, reduceEqDiff]
      refine put1d_eq (v := .agg [.int .i64 v_0.Epoch, .int .i64 v_0.Leader, lst cI v_0.InStep, .int .i64 v_0.High, lst Replica.cells v_0.Replicas]) rfl ?_
      obtain ⟨v136, hx137, hF138⟩ := bind_some' hF134
      simp only [hg135, run_guardd (g := 96), guardd_true, d4_mv, put1d_some, run_d2_call, B0, reduceIte, reduceEqDiff]
      refine call1q rfl (mapM1 (snap_agg (mapM1 snap_int (mapM1 snap_int (mapM1 snap_lst (mapM1 snap_int (mapM1 snap_lst mapM0)))))) (mapM1 snap_int mapM0)) (impl_Group_shared_x
          (fun b hb => decide_eq_true hb) k v_0 (i66 : Int) v136 hx137) ?_
      simp only [hg135, run_guardd (g := 96), guardd_true, d4_bin, put1d_some, xgtr, d4_pick, xpick_t, run_draw_nil, run_cond, B0, reduceIte, reduceEqDiff]
      refine cond_split (t := (decide (v136 < v_0.High))) (fun hc139 => ?_) (fun hc139 => ?_)
      · rw [iteT hc139] at hF138
        simp only [run_seq, run_reg, run_mv, run_ops_nil, run_ret, B0, reduceIte, reduceEqDiff]
        have e140 := some_inj hF138
        subst e140
        have ho141 := hr73 _ rfl
        have hk142 := hk71
        rw [ho141] at hk142
        dsimp only [jnO] at hk142
        apply hR77
        have he := some_inj hk142
        subst he
        simp only [end_ret1, B0, reduceIte, reduceEqDiff]
        exact rfl
      rw [iteF hc139] at hF138
      simp only [run_skip, run_nil, B0, reduceIte, reduceEqDiff]
      have e143 := some_inj hF138
      exact hN75 _ _ _ e143.symm ⟨by simp only [f83, B0, reduceIte, reduceEqDiff], by simp only [f84, B0, reduceIte, reduceEqDiff], hS95⟩ (by simp only [f86, B0, reduceIte,
          reduceEqDiff]) (by simp only [f87, B0, reduceIte, reduceEqDiff])
    rw [iteF hg135] at hF134
    simp only [hg135, run_guardd (g := 96), guardd_off, d4_pick, put1d_some, xpick_f, run_draw_nil, run_cond, cond_false, run_skip, run_nil, B0, reduceIte, reduceEqDiff]
    have e144 := some_inj hF134
    exact hN75 _ _ _ e144.symm ⟨by simp only [f83, B0, reduceIte, reduceEqDiff], by simp only [f84, B0, reduceIte, reduceEqDiff], hS95⟩ (by simp only [f86, B0, reduceIte,
        reduceEqDiff]) (by simp only [f87, B0, reduceIte, reduceEqDiff])
  rintro _ fr146 h147 rfl ⟨f149, f150, hS148⟩
  dsimp only [jnO] at hk71
  unfold impl_isGroup_j1 at hk71
  simp only [run_seq, run_reg, run_mv, run_ops_nil, run_ret, B0, reduceIte, reduceEqDiff]
  have he := some_inj hk71
  subst he
  simp only [end_ret1, B0, reduceIte, reduceEqDiff]
  exact rfl
theorem impl_copyGroup_x {W : Nat → Bool} {h : Heap} (hW : ∀ b,
    h.length ≤ b → W b = true) (g_0 : Group) (r : Group) (hF : impl_copyGroup g_0 = some r) : Ret E W 53 [.agg [.int .i64 g_0.Epoch, .int .i64 g_0.Leader, lst cI g_0.InStep,
    .int .i64 g_0.High, lst Replica.cells g_0.Replicas]] h (fun v h' => ∃ rv0_2 rc0_2 rv0_4 rc0_4, v = .agg [.int .i64 r.Epoch, .int .i64 r.Leader, rv0_2, .int .i64 r.High,
    rv0_4] ∧ SlF cI 1 3 rv0_2 r.InStep rc0_2 ∧ SlN Replica.R 3 51 rv0_4 r.Replicas rc0_4 ∧ Sep h' h.length (rc0_2 ++ (rc0_4 ++ ([])))) := by
  refine Ret.of (fn := x53) rfl (Run.of ?_)
  unfold impl_copyGroup at hF
  have zf0 : argFr [.agg [.int .i64 g_0.Epoch, .int .i64 g_0.Leader, lst cI g_0.InStep, .int .i64 g_0.High, lst Replica.cells g_0.Replicas]] 0 = .agg [.int .i64 g_0.Epoch,
      .int .i64 g_0.Leader, lst cI g_0.InStep, .int .i64 g_0.High, lst Replica.cells g_0.Replicas] := rfl
  generalize argFr [.agg [.int .i64 g_0.Epoch, .int .i64 g_0.Leader, lst cI g_0.InStep, .int .i64 g_0.High, lst Replica.cells g_0.Replicas]] = fr0 at zf0 ⊢
  have hS : Sep h h.length [] := Sep.nil h
  simp only [x53, run_seq, run_reg, run_box, zf0, B0, reduceIte, reduceEqDiff]
  refine put2_boxC (cs := [.int .i64 g_0.Epoch, .int .i64 g_0.Leader, lst cI g_0.InStep, .int .i64 g_0.High, lst Replica.cells g_0.Replicas]) hS rfl rfl rfl (fun b1 h2 hS3 => ?_)
  simp only [run_new, B0, reduceIte, reduceEqDiff]
  refine put2_newC hS3 (fun b5 h6 hS7 => ?_)
  simp only [run_ops_nil, B0, reduceIte, reduceEqDiff]
  refine frz_stepC (Sep.m1 hS7) hW (by simp only [B0, reduceIte, reduceEqDiff]) (fun h9 hS10 => ?_)
  simp only [run_frz_nil, x53_7, run_seq, run_draw, d4_buildS, evp, B0, reduceIte, reduceEqDiff]
  refine put2d_buildSF (n := 1) (f := cI) ([] : List Int) hS10 rfl rfl (fun v11 c12 h13 hv14 hS15 => ?_)
  simp only [d1_new, B0, reduceIte, reduceEqDiff]
  refine put2d_newC hS15 (fun b17 h18 hS19 => ?_)
  simp only [d1_fa, put1d_some, Nat.reduceAdd, Nat.zero_add, Nat.add_zero, xfa_ref, d1_ld, ldd_ref, B0, reduceIte, reduceEqDiff]
  refine put1d_eq (v := .int .i64 g_0.Epoch) rfl ?_
  simp only [d1_fa, put1d_some, Nat.reduceAdd, Nat.zero_add, Nat.add_zero, xfa_ref, d1_ld, ldd_ref, B0, reduceIte, reduceEqDiff]
  refine put1d_eq (v := .int .i64 g_0.Leader) rfl ?_
  simp only [d4_fa, put1d_some, Nat.reduceAdd, Nat.zero_add, Nat.add_zero, xfa_ref, d4_ld, B0, reduceIte, reduceEqDiff]
  refine put1d_eq (v := lst cI g_0.InStep) rfl ?_
  simp only [d2_app, B0, reduceIte, reduceEqDiff]
  obtain ⟨l21, hx22, hF23⟩ := bind_some' hF
  refine put2d_appF (f := cI) hv14 (Sep.m1 hS19) hW (fun _ => rfl) (fun _ => rfl) (firstOf_lst (fun _ => rfl)) hx22 (fun v24 c25 h26 hv27 hS28 => ?_)
  simp only [d1_fa, put1d_some, Nat.reduceAdd, Nat.zero_add, Nat.add_zero, xfa_ref, d1_ld, ldd_ref, B0, reduceIte, reduceEqDiff]
  refine put1d_eq (v := .int .i64 g_0.High) rfl ?_
  simp only [d4_build, evp, B0, reduceIte, reduceEqDiff]
  refine put1d_eq (v := .agg [.int .i64 g_0.Epoch, .int .i64 g_0.Leader, v24, .int .i64 g_0.High,
      .nil]) (pbuild_some (fill1 (us := [.int .i64 g_0.Epoch]) (vs := [.int .i64 g_0.Epoch, .int .i64 0, .nil, .int .i64 0,
      .nil]) rfl rfl (Nat.le_of_ble_eq_true rfl) rfl rfl (fill1 (us := [.int .i64 g_0.Leader]) (vs := [.int .i64 g_0.Epoch, .int .i64 g_0.Leader, .nil, .int .i64 0,
      .nil]) rfl rfl (Nat.le_of_ble_eq_true rfl) rfl rfl (fill1 (us := [v24]) (vs := [.int .i64 g_0.Epoch, .int .i64 g_0.Leader, v24, .int .i64 0,
      .nil]) (cells_one (SlF.one hv27)) rfl (Nat.le_of_ble_eq_true rfl) (all_c (SlF.one hv27) all_n) rfl (fill1 (us := [.int .i64 g_0.High]) (vs := [.int .i64 g_0.Epoch,
      .int .i64 g_0.Leader, v24, .int .i64 g_0.High, .nil]) rfl rfl (Nat.le_of_ble_eq_true rfl) rfl rfl fill0))))) ?_
  simp only [d3_st, B0, reduceIte, reduceEqDiff]
  refine put2d_stCx (us := [.int .i64 g_0.Epoch, .int .i64 g_0.Leader, v24, .int .i64 g_0.High, .nil]) rfl (cs' := [.int .i64 g_0.Epoch, .int .i64 g_0.Leader, v24,
      .int .i64 g_0.High, .nil]) (Sep.m1 hS28) hW rfl (all_c rfl (all_c rfl (all_c (SlF.one hv27) (all_c rfl (all_c rfl all_n))))) (Nat.le_of_ble_eq_true rfl) rfl
      (fun h30 hS31 => ?_)
  simp only [run_draw_nil, x53_6, run_seq, run_reg, run_fa, put1_some, Nat.reduceAdd, Nat.zero_add, Nat.add_zero, xfa_ref, run_ld, B0, reduceIte, reduceEqDiff]
  refine put1_eq (v := lst Replica.cells g_0.Replicas) rfl ?_
  simp only [run_len, put1_some, xlen_lst, run_mv, run_ops_nil, B0, reduceIte, reduceEqDiff]
  obtain ⟨oc44, hX46, hk47⟩ := jn_some hF23
  simp only [x53_5]
  refine rangeL_j (σ := Group) g_0.Replicas (fun i42 x43 s106 => impl_copyGroup_b1 l21 i42 x43 s106) (fun s fr' h' => ∃ v39 c40,
      fr' 2 = .ptr b5 0 ∧ fr' 3 = .ptr b17 0 ∧ fr' 18 = lst Replica.cells g_0.Replicas ∧ SlN Replica.R 3 51 v39 s.Replicas c40 ∧ Sep h' h.length ([Blk1 b5 [.int .i64 0,
      .int .i64 0, .nil, .int .i64 0, .nil] 29] ++ ([Blk1 b17 [.int .i64 s.Epoch, .int .i64 s.Leader, v24, .int .i64 s.High, v39] 29] ++ (c25 ++ (c40 ++ ([])))))) hX46 ⟨.nil, [],
      by simp only [B0, reduceIte, reduceEqDiff], by simp only [B0, reduceIte, reduceEqDiff], by simp only [B0, reduceIte, reduceEqDiff], SlN.nil,
      ((Sep.m2 (Sep.m1 (Sep.m1 hS31))) : Sep _ h.length ([Blk1 b5 [.int .i64 0, .int .i64 0, .nil, .int .i64 0, .nil] 29] ++ ([Blk1 b17 [.int .i64 g_0.Epoch, .int .i64 g_0.Leader,
      v24, .int .i64 g_0.High, .nil] 29] ++ (c25 ++ ([])))))⟩ (by simp only [B0, reduceIte, reduceEqDiff]) (by simp only [B0, reduceIte,
      reduceEqDiff]) (fun _ _ _ h => h) rfl rfl (fun _ _ _ _ h => h) (fun _ _ _ _ h => h) (fun _ _ _ _ h => h) (by decide) ?_ ?_
  · rintro i42 x43 s37 fr56 h57 hx62 ⟨v39, c40, f59, f60, f61, hv41, hS58⟩ f63 f64 oc45 hF48 hr49 Q50 hN51 hB55 hK52 hR53 hE54
    unfold impl_copyGroup_b1 at hF48
    simp only [x53_3, run_seq, run_reg, f61, f63, run_ia, B0, reduceIte, reduceEqDiff]
    refine put1_eq (v := .ref (Replica.cells x43) 0) (xia_lstN hx62 rfl) ?_
    simp only [run_ld, B0, reduceIte, reduceEqDiff]
    refine put1_eq (v := .agg [lst Row.cells x43.Log, .int .i64 x43.Epoch, .int .i64 x43.Known]) rfl ?_
    simp only [run_new, B0, reduceIte, reduceEqDiff]
    refine put2_newC hS58 (fun b65 h66 hS67 => ?_)
    simp only [run_st, B0, reduceIte, reduceEqDiff]
    refine put2_stCx (us := [lst Row.cells x43.Log, .int .i64 x43.Epoch, .int .i64 x43.Known]) rfl (cs' := [lst Row.cells x43.Log, .int .i64 x43.Epoch,
        .int .i64 x43.Known]) hS67 hW rfl rfl (Nat.le_of_ble_eq_true rfl) rfl (fun h69 hS70 => ?_)
    simp only [run_ops_nil, x53_2, run_seq, run_reg, run_buildS, evp, B0, reduceIte, reduceEqDiff]
    refine put2_buildSF (n := 2) (f := Row.cells) ([] : List Row) hS70 rfl rfl (fun v71 c72 h73 hv74 hS75 => ?_)
    simp only [run_fa, put1_some, Nat.reduceAdd, Nat.zero_add, Nat.add_zero, xfa_ptr, run_ld, B0, reduceIte, reduceEqDiff]
    refine put1_eq (v := lst Row.cells x43.Log) ((xld_b (Sep.bk _ _ _ (Sep.m1 hS75))).trans rfl) ?_
    simp only [run_app, B0, reduceIte, reduceEqDiff]
    obtain ⟨l77, hx78, hF79⟩ := bind_some' hF48
    refine put2_appF (f := Row.cells) hv74 hS75 hW (fun _ => rfl) (fun _ => rfl) (firstOf_lst (fun _ => rfl)) hx78 (fun v80 c81 h82 hv83 hS84 => ?_)
    simp only [run_fa, put1_some, Nat.reduceAdd, Nat.zero_add, Nat.add_zero, xfa_ptr, run_st, B0, reduceIte, reduceEqDiff]
    refine put2_stCx (us := [v80]) (cells_one (SlF.one hv83)) (cs' := [v80, .int .i64 x43.Epoch,
        .int .i64 x43.Known]) (Sep.m1 hS84) hW rfl (all_c (SlF.one hv83) all_n) (Nat.le_of_ble_eq_true rfl) rfl (fun h86 hS87 => ?_)
    simp only [run_ops_nil, x53_1, run_reg, f60, run_fa, put1_some, Nat.reduceAdd, Nat.zero_add, Nat.add_zero, xfa_ptr, run_ld, B0, reduceIte, reduceEqDiff]
    refine put1_eq (v := v39) ((xld_b (Sep.bk _ _ _ (Sep.m3 hS87))).trans rfl) ?_
    simp only [run_ld, B0, reduceIte, reduceEqDiff]
    refine put1_eq (v := .agg [v80, .int .i64 x43.Epoch, .int .i64 x43.Known]) ((xld_bs (Sep.bk _ _ _ hS87)).trans rfl) ?_
    simp only [run_buildS, evp, B0, reduceIte, reduceEqDiff]
    refine put2_buildSN (R := Replica.R) (n := 3) (cs := [v80, .int .i64 x43.Epoch, .int .i64 x43.Known]) (os := c81) (Sep.m1 hS87) (fill1 (us := [v80, .int .i64 x43.Epoch,
        .int .i64 x43.Known]) (vs := [v80, .int .i64 x43.Epoch,
        .int .i64 x43.Known]) rfl rfl (Nat.le_of_ble_eq_true rfl) (all_c (SlF.one hv83) (all_c rfl (all_c rfl all_n))) rfl fill0) (Replica.RI (x :=
        (Replica.mk l77 x43.Epoch x43.Known)) hv83) rfl (fun v88 c89 h90 hv91 hS92 => ?_)
    simp only [run_app, B0, reduceIte, reduceEqDiff]
    obtain ⟨l94, hx95, hF96⟩ := bind_some' hF79
    refine put2_appN (R := Replica.R) (c := c40) hv41 hv91 (Sep.m5 hS92) hW Replica.RO.len Replica.RO.one hx95 (fun v97 c98 h99 hv100 hS101 => ?_)
    simp only [f60, run_fa, put1_some, Nat.reduceAdd, Nat.zero_add, Nat.add_zero, xfa_ptr, run_st, B0, reduceIte, reduceEqDiff]
    refine put2_stCx (us := [v97]) (cells_one (SlN.one hv100)) (cs' := [.int .i64 s37.Epoch, .int .i64 s37.Leader, v24, .int .i64 s37.High,
        v97]) (Sep.m3 hS101) hW rfl (all_c (SlN.one hv100) all_n) (Nat.le_of_ble_eq_true rfl) rfl (fun h103 hS104 => ?_)
    simp only [run_ops_nil, run_nil, B0, reduceIte, reduceEqDiff]
    have e105 := some_inj hF96
    exact hN51 _ _ _ e105.symm ⟨v97, c98, by simp only [f59, B0, reduceIte, reduceEqDiff], by simp only [f60, B0, reduceIte, reduceEqDiff], by simp only [f61, B0, reduceIte,
        reduceEqDiff], hv100, (Sep.m3 (Sep.m2 (Sep.m3 (Sep.m1 (Sep.dc (Sep.m2 hS104))))))⟩ (by simp only [f63, B0, reduceIte, reduceEqDiff]) (by simp only [f64, B0, reduceIte,
        reduceEqDiff])
  rintro s107 fr112 h113 rfl ⟨v109, c110, f115, f116, f117, hv111, hS114⟩
  dsimp only [jnO] at hk47
  unfold impl_copyGroup_j1 at hk47
  simp only [run_seq, run_reg, f116, run_ld, B0, reduceIte, reduceEqDiff]
  refine put1_eq (v := .agg [.int .i64 s107.Epoch, .int .i64 s107.Leader, v24, .int .i64 s107.High, v109]) ((xld_bs (Sep.bk _ _ _ (Sep.m1 hS114))).trans rfl) ?_
  simp only [f115, run_st, B0, reduceIte, reduceEqDiff]
  refine put2_stCx (us := [.int .i64 s107.Epoch, .int .i64 s107.Leader, v24, .int .i64 s107.High, v109]) rfl (cs' := [.int .i64 s107.Epoch, .int .i64 s107.Leader, v24,
      .int .i64 s107.High, v109]) hS114 hW rfl (all_c rfl (all_c rfl (all_c (SlF.one hv27) (all_c rfl (all_c (SlN.one hv111) all_n))))) (Nat.le_of_ble_eq_true rfl) rfl
      (fun h118 hS119 => ?_)
  simp only [run_ops_nil, run_ret, B0, reduceIte, reduceEqDiff]
  have he := some_inj hk47
  subst he
  refine end_ret_cell (bb := b5) (oo := 0) (v := .agg [.int .i64 s107.Epoch, .int .i64 s107.Leader, v24, .int .i64 s107.High, v109]) (by simp only [f115, B0, reduceIte,
      reduceEqDiff]) ((xld_bs (Sep.bk _ _ _ hS119)).trans rfl) ?_
  exact ⟨v24, c25, v109, c110, by first | trivial | rfl, hv27, hv111, (Sep.m1 (Sep.m1 (Sep.dc ((Sep.dc (hS119))))))⟩
theorem impl_Group_know_x {W : Nat → Bool} {h : Heap} {lo : Nat} {S0 : List Obj} (hW : ∀ b,
    lo ≤ b → W b = true) (pb0 : Nat) (g_0 : Group) (pv0_2 : XV) (pc0_2 : List Obj) (ph0_2 : SlF cI 1 3 pv0_2 g_0.InStep pc0_2) (pv0_4 : XV) (pc0_4 : List Obj)
    (ph0_4 : SlN Replica.R 3 51 pv0_4 g_0.Replicas pc0_4) (k_1 : Int) (r : Group) (hF : impl_Group_know g_0 k_1 = some r) (hS : Sep h lo ([Blk1 pb0 [.int .i64 g_0.Epoch,
    .int .i64 g_0.Leader, pv0_2, .int .i64 g_0.High, pv0_4] 29] ++ (pc0_2 ++ (pc0_4 ++ (S0))))) : Ret E W 54 [.ptr pb0 0, .int .i64 k_1] h (fun v h' => ∃ iv0_2 ic0_2 iv0_4 ic0_4,
    v = .tup [] ∧ SlF cI 1 3 iv0_2 r.InStep ic0_2 ∧ SlN Replica.R 3 51 iv0_4 r.Replicas ic0_4 ∧ Sep h' lo ([Blk1 pb0 [.int .i64 r.Epoch, .int .i64 r.Leader, iv0_2,
    .int .i64 r.High, iv0_4] 29] ++ (ic0_2 ++ (ic0_4 ++ (S0))))) := by
  refine Ret.of (fn := x54) rfl (Run.of ?_)
  unfold impl_Group_know at hF
  have zf0 : argFr [.ptr pb0 0, .int .i64 k_1] 0 = .ptr pb0 0 := rfl
  have zf1 : argFr [.ptr pb0 0, .int .i64 k_1] 1 = .int .i64 k_1 := rfl
  generalize argFr [.ptr pb0 0, .int .i64 k_1] = fr0 at zf0 zf1 ⊢
  simp only [x54, run_seq, run_draw, zf0, d4_mv, put1d_some, d4_chk, xchk_ptr, d4_fa, Nat.reduceAdd, Nat.zero_add, Nat.add_zero, xfa_ptr, d4_ld, B0, reduceIte, reduceEqDiff]
  refine put1d_eq (v := pv0_4) ((xld_b (Sep.bk _ _ _ hS)).trans rfl) ?_
  simp only [zf1, d4_mv, put1d_some, zf0, d4_chk, xchk_ptr, d4_fa, Nat.reduceAdd, Nat.zero_add, Nat.add_zero, xfa_ptr, d4_ld, B0, reduceIte, reduceEqDiff]
  refine put1d_eq (v := .int .i64 g_0.Epoch) ((xld_b (Sep.bk _ _ _ hS)).trans rfl) ?_
  obtain ⟨x1, hx2, hF3⟩ := bind_some' hF
  simp only [d4_ia, B0, reduceIte, reduceEqDiff]
  obtain ⟨b4, hb5⟩ := SlN.isrow ph0_4 (geti_ne hx2)
  refine put1d_eq (SlN.ia ph0_4 hb5 hx2) ?_
  obtain ⟨c8, cs9, os10, hv11, hR12, hS13⟩ := SlG.opn (SlN.toG ph0_4 hb5 Replica.RO.len) hx2 hk_nil Replica.RO.len (Sep.m2 hS)
  obtain ⟨v15, c16, hv17, rfl, rfl⟩ := hR12
  have hS14 := Sep.no1 hS13
  simp only [d4_fa, put1d_some, Nat.reduceAdd, Nat.zero_add, Nat.add_zero, xfa_ptr, d3_st, B0, reduceIte, reduceEqDiff]
  refine put2d_stGx (us := [.int .i64 g_0.Epoch]) (o := 1) (cs' := [v15, .int .i64 g_0.Epoch,
      .int .i64 x1.Known]) rfl hv11 rfl hx2 hS14 hW rfl rfl (Nat.le_of_ble_eq_true rfl) rfl (fun c19 h6 hv20 hS7 => ?_)
  simp only [run_draw_nil, x54_1, run_draw, zf0, d4_mv, put1d_some, d4_chk, xchk_ptr, d4_fa, Nat.reduceAdd, Nat.zero_add, Nat.add_zero, xfa_ptr, d4_ld, B0, reduceIte, reduceEqDiff]
  refine put1d_eq (v := pv0_4) ((xld_b (Sep.bk _ _ _ (Sep.m2 hS7))).trans rfl) ?_
  simp only [zf1, d4_mv, put1d_some, zf0, d4_chk, xchk_ptr, d4_fa, Nat.reduceAdd, Nat.zero_add, Nat.add_zero, xfa_ptr, d4_ld, B0, reduceIte, reduceEqDiff]
  refine put1d_eq (v := pv0_4) ((xld_b (Sep.bk _ _ _ (Sep.m2 hS7))).trans rfl) ?_
  simp only [zf1, d4_mv, put1d_some, d4_ia, B0, reduceIte, reduceEqDiff]
  refine put1d_eq (SlG.ia hv20 hx2) ?_
  simp only [d4_fa, put1d_some, Nat.reduceAdd, Nat.zero_add, Nat.add_zero, xfa_ptr, d4_ld, B0, reduceIte, reduceEqDiff]
  refine put1d_eq (v := v15) ((SlG.ld (o := 0) hv20 rfl hx2 hS7 (Nat.le_of_ble_eq_true rfl)).trans rfl) ?_
  simp only [d4_len, put1d_some, SlF.plen hv17, d4_ia, B0, reduceIte, reduceEqDiff]
  refine put1d_eq (SlG.ia hv20 hx2) ?_
  simp only [d4_fa, put1d_some, Nat.reduceAdd, Nat.zero_add, Nat.add_zero, xfa_ptr, d3_st, B0, reduceIte, reduceEqDiff]
  refine put2d_stGx (us := [.int .i64 (List.length x1.Log : Int)]) (o := 2) (cs' := [v15, .int .i64 g_0.Epoch,
      .int .i64 (List.length x1.Log : Int)]) rfl hv20 rfl hx2 hS7 hW rfl rfl (Nat.le_of_ble_eq_true rfl) rfl (fun c23 h21 hv24 hS22 => ?_)
  simp only [run_draw_nil, run_nil, B0, reduceIte, reduceEqDiff]
  obtain ⟨c25, hv26, hS27⟩ := SlG.cls (e' := (Replica.mk x1.Log g_0.Epoch (List.length x1.Log : Int))) (c := c23) (os := c16) hv24 rfl hx2 hk_nil (Replica.RI (x :=
      (Replica.mk x1.Log g_0.Epoch (List.length x1.Log : Int))) hv17) (Sep.m1 (Sep.m1 hS22))
  have hx28 := geti_set (x' := (Replica.mk x1.Log g_0.Epoch (List.length x1.Log : Int))) hx2
  have hv29 := SlG.toN hv26
  have he := some_inj hF3
  subst he
  simp only [end_nor0, B0, reduceIte, reduceEqDiff]
  exact ⟨pv0_2, pc0_2, pv0_4, c25, by first | trivial | rfl, ph0_2, hv29, (Sep.m2 (Sep.m2 hS27))⟩
theorem impl_Group_fetch_x {W : Nat → Bool} {h : Heap} {lo : Nat} {S0 : List Obj} (hW : ∀ b,
    lo ≤ b → W b = true) (k : Nat) (pb0 : Nat) (g_0 : Group) (pv0_2 : XV) (pc0_2 : List Obj) (ph0_2 : SlF cI 1 3 pv0_2 g_0.InStep pc0_2) (pv0_4 : XV) (pc0_4 : List Obj)
    (ph0_4 : SlN Replica.R 3 51 pv0_4 g_0.Replicas pc0_4) (k_1 : Int) (many_2 : Int) (r : Group) (hF : impl_Group_fetch k g_0 k_1 many_2 = some r) (hS : Sep h lo
    ([Blk1 pb0 [.int .i64 g_0.Epoch, .int .i64 g_0.Leader, pv0_2, .int .i64 g_0.High, pv0_4] 29] ++ (pc0_2 ++ (pc0_4 ++ (S0))))) : Ret E W 55 [.ptr pb0 0, .int .i64 k_1,
    .int .i64 many_2] h (fun v h' => ∃ iv0_2 ic0_2 iv0_4 ic0_4,
    v = .tup [] ∧ SlF cI 1 3 iv0_2 r.InStep ic0_2 ∧ SlN Replica.R 3 51 iv0_4 r.Replicas ic0_4 ∧ Sep h' lo ([Blk1 pb0 [.int .i64 r.Epoch, .int .i64 r.Leader, iv0_2,
    .int .i64 r.High, iv0_4] 29] ++ (ic0_2 ++ (ic0_4 ++ (S0))))) := by
  refine Ret.of (fn := x55) rfl (Run.of ?_)
  unfold impl_Group_fetch at hF
  have zf0 : argFr [.ptr pb0 0, .int .i64 k_1, .int .i64 many_2] 0 = .ptr pb0 0 := rfl
  have zf1 : argFr [.ptr pb0 0, .int .i64 k_1, .int .i64 many_2] 1 = .int .i64 k_1 := rfl
  have zf2 : argFr [.ptr pb0 0, .int .i64 k_1, .int .i64 many_2] 2 = .int .i64 many_2 := rfl
  generalize argFr [.ptr pb0 0, .int .i64 k_1, .int .i64 many_2] = fr0 at zf0 zf1 zf2 ⊢
  simp only [x55, run_seq, run_reg, zf0, run_mv, run_chk, put1_some, xchk_ptr, run_ld, B0, reduceIte, reduceEqDiff]
  refine put1_eq (v := .agg [.int .i64 g_0.Epoch, .int .i64 g_0.Leader, pv0_2, .int .i64 g_0.High, pv0_4]) ((xld_bs (Sep.bk _ _ _ hS)).trans rfl) ?_
  obtain ⟨v1, hx2, hF3⟩ := bind_some' hF
  simp only [zf1, run_mv, run_call, B0, reduceIte, reduceEqDiff]
  refine call1 rfl (mapM1 (snap_agg (mapM1 snap_int (mapM1 snap_int (mapM1 (SlF.snap ph0_2 (Sep.m1 hS) rfl (fun _ => rfl) (fun _ => rfl)) (mapM1 snap_int (mapM1 (SlN.snap ph0_4 _
      (Sep.m2 hS) rfl Replica.RO) mapM0)))))) (mapM1 snap_int mapM0)) (impl_Group_shared_x (fun b hb => decide_eq_true hb) k g_0 k_1 v1 hx2) ?_
  simp only [run_mv, run_ops_nil, x55_3, run_seq, run_draw, zf0, d4_mv, put1d_some, d4_chk, xchk_ptr, d4_fa, Nat.reduceAdd, Nat.zero_add, Nat.add_zero, xfa_ptr, d4_ld, B0,
      reduceIte, reduceEqDiff]
  refine put1d_eq (v := pv0_4) ((xld_b (Sep.bk _ _ _ hS)).trans rfl) ?_
  simp only [zf0, d4_mv, put1d_some, d4_chk, xchk_ptr, d4_fa, Nat.reduceAdd, Nat.zero_add, Nat.add_zero, xfa_ptr, d4_ld, B0, reduceIte, reduceEqDiff]
  refine put1d_eq (v := .int .i64 g_0.Leader) ((xld_b (Sep.bk _ _ _ hS)).trans rfl) ?_
  obtain ⟨x4, hx5, hF6⟩ := bind_some' hF3
  simp only [d4_ia, B0, reduceIte, reduceEqDiff]
  obtain ⟨b7, hb8⟩ := SlN.isrow ph0_4 (geti_ne hx5)
  refine put1d_eq (SlN.ia ph0_4 hb8 hx5) ?_
  obtain ⟨c9, cs10, os11, hv12, hR13, hS14⟩ := SlG.opn (SlN.toG ph0_4 hb8 Replica.RO.len) hx5 hk_nil Replica.RO.len (Sep.m2 hS)
  obtain ⟨v16, c17, hv18, rfl, rfl⟩ := hR13
  have hS15 := Sep.no1 hS14
  simp only [d4_fa, put1d_some, Nat.reduceAdd, Nat.zero_add, Nat.add_zero, xfa_ptr, d4_ld, B0, reduceIte, reduceEqDiff]
  refine put1d_eq (v := v16) ((SlG.ld (o := 0) hv12 rfl hx5 hS15 (Nat.le_of_ble_eq_true rfl)).trans rfl) ?_
  obtain ⟨l20, hx21, hF22⟩ := bind_some' hF6
  simp only [d4_mv, put1d_some, d4_slc, Option.map_some, Option.map_none, B0, reduceIte, reduceEqDiff]
  obtain ⟨w23, i24, he25, hw26⟩ := SlF.win (f := Row.cells) (ty := 98) (some v1) none hv18 hx21 (Sep.m1 hS15)
  refine put1d_eq he25 ?_
  simp only [d4_mv, put1d_some, run_draw_nil, x55_2, run_seq, run_reg, zf0, run_mv, run_chk, put1_some, xchk_ptr, run_fa, Nat.reduceAdd, Nat.zero_add, Nat.add_zero, xfa_ptr,
      run_ld, B0, reduceIte, reduceEqDiff]
  refine put1_eq (v := pv0_4) ((xld_b (Sep.bk _ _ _ (Sep.m2 hS15))).trans rfl) ?_
  obtain ⟨x27, hx28, hF29⟩ := bind_some' hF22
  simp only [zf1, run_mv, run_ia, B0, reduceIte, reduceEqDiff]
  refine put1_eq (SlG.ia hv12 hx28) ?_
  simp only [run_mv, run_ops_nil, x55_1, run_seq, run_draw, d1_mv, put1d_some, d4_buildS, evp, B0, reduceIte, reduceEqDiff]
  refine put2d_buildSF (n := 2) (f := Row.cells) ([] : List Row) hS15 rfl rfl (fun v30 c31 h32 hv33 hS34 => ?_)
  obtain ⟨hp36, hF37⟩ := ck_some hF29
  have hn38 := tn_ne hp36 hx5 hx28
  obtain ⟨c39, cs40, os41, hv42, hR43, hS44⟩ := SlG.opn hv12 hx28 ((hk_ne hn38).trans hk_nil) Replica.RO.len (Sep.m1 hS34)
  obtain ⟨v46, c47, hv48, rfl, rfl⟩ := hR43
  have hS45 := Sep.no1 hS44
  simp only [d4_mv, put1d_some, d4_chk, xchk_ptr, d4_fa, Nat.reduceAdd, Nat.zero_add, Nat.add_zero, xfa_ptr, d4_ld, B0, reduceIte, reduceEqDiff]
  refine put1d_eq (v := v46) ((SlG.ld (o := 0) hv42 rfl hx28 hS45 (Nat.le_of_ble_eq_true rfl)).trans rfl) ?_
  obtain ⟨l50, hx51, hF52⟩ := bind_some' hF37
  simp only [d4_mv, put1d_some, d4_slc, Option.map_some, Option.map_none, B0, reduceIte, reduceEqDiff]
  obtain ⟨w53, i54, he55, hw56⟩ := SlF.win (f := Row.cells) (ty := 98) none (some v1) hv48 hx51 (Sep.m1 hS45)
  refine put1d_eq he55 ?_
  simp only [d3_app, B0, reduceIte, reduceEqDiff]
  obtain ⟨l57, hx58, hF59⟩ := bind_some' hF52
  refine put2d_appF (f := Row.cells) hv33 (Sep.m2 hS45) hW (fun _ => rfl) (fun _ => rfl) (SlW.first hw56 hv48 (Sep.m1 hS45) (fun _ => rfl)) hx58 (fun v60 c61 h62 hv63 hS64 => ?_)
  obtain ⟨l66, hx67, hF68⟩ := bind_some' hF59
  simp only [d1_mv, put1d_some, zf2, d1_len, SlW.plen hw26 hv18, d1_mnx, pminI, d1_slc, Option.map_some, Option.map_none, B0, reduceIte, reduceEqDiff]
  obtain ⟨w69, i70, he71, hw72⟩ := SlW.win (ty := 98) none (some (mnI many_2 (List.length l20 : Int))) hw26 hv18 hx67 (Sep.m3 hS64)
  refine put1d_eq he71 ?_
  simp only [d3_app, B0, reduceIte, reduceEqDiff]
  obtain ⟨l73, hx74, hF75⟩ := bind_some' hF68
  refine put2d_appF (f := Row.cells) hv63 hS64 hW (fun _ => rfl) (fun _ => rfl) (SlW.first hw72 hv18 (Sep.m3 hS64) (fun _ => rfl)) hx74 (fun v76 c77 h78 hv79 hS80 => ?_)
  simp only [d4_chk, put1d_some, xchk_ptr, d4_fa, Nat.reduceAdd, Nat.zero_add, Nat.add_zero, xfa_ptr, d3_st, B0, reduceIte, reduceEqDiff]
  refine put2d_stGx (us := [v76]) (o := 0) (cs' := [v76, .int .i64 x27.Epoch,
      .int .i64 x27.Known]) (cells_one (SlF.one hv79)) hv42 rfl hx28 (Sep.m1 hS80) hW rfl (all_c (SlF.one hv79) all_n) (Nat.le_of_ble_eq_true rfl) rfl (fun c84 h82 hv85 hS83 => ?_)
  obtain ⟨c86, hv87, hS88⟩ := SlG.cls (e' := (Replica.mk l73 x27.Epoch x27.Known)) (c := c84) (os := c77) hv85 rfl hx28 ((hk_ne hn38).trans hk_nil) (Replica.RI (x :=
      (Replica.mk l73 x27.Epoch x27.Known)) hv79) (Sep.m1 (Sep.m1 hS83))
  have hx89 := geti_set (x' := (Replica.mk l73 x27.Epoch x27.Known)) hx28
  have hx90 := geti_set_ne (e := (Replica.mk l73 x27.Epoch x27.Known)) hx5 (Ne.symm hn38)
  obtain ⟨c91, hv92, hS93⟩ := SlG.cls0 (c := c86) (os := c17) hv87 rfl hx90 hk_nil (Replica.RI (x := x4) hv18) (Sep.m1 (Sep.m2 hS88))
  have hv94 := SlG.toN hv92
  obtain ⟨v95, hx96, hF97⟩ := bind_some' hF75
  simp only [run_draw_nil, run_reg, zf0, run_mv, zf1, run_call, B0, reduceIte, reduceEqDiff]
  refine call0 rfl (impl_Group_know_x hW pb0 (Group.mk g_0.Epoch g_0.Leader g_0.InStep g_0.High (List.set g_0.Replicas k_1.toNat
      (Replica.mk l73 x27.Epoch x27.Known))) pv0_2 pc0_2 ph0_2 pv0_4 c91 hv94 k_1 v95 hx96 (Sep.m3 (Sep.m3 hS93))) ?_
  rintro _ h106 ⟨v98, c99, v102, c103, rfl, hv100, hv104, hS107⟩
  simp only [run_ops_nil, run_nil, B0, reduceIte, reduceEqDiff]
  have he := some_inj hF97
  subst he
  simp only [end_nor0, B0, reduceIte, reduceEqDiff]
  exact ⟨v98, c99, v102, c103, by first | trivial | rfl, hv100, hv104, (Sep.m2 (Sep.m2 (Sep.m2 (Sep.dc (Sep.m3 hS107)))))⟩
end Go.Proofs.Ytefgfcalgjmhjaa.X
namespace Go.Proofs.Ytefgfcalgjmhjaa.X
open Go
open Nat (reduceEqDiff)
theorem impl_SettleGroup_x {W : Nat → Bool} {h : Heap} (hW : ∀ b,
    h.length ≤ b → W b = true) (k : Nat) (g_0 : Group) (r : Group × Int × Bool) (hF : impl_SettleGroup k g_0 = some r) : Ret E W 11 [.agg [.int .i64 g_0.Epoch,
    .int .i64 g_0.Leader, lst cI g_0.InStep, .int .i64 g_0.High, lst Replica.cells g_0.Replicas]] h (fun v h' => ∃ rv0_2 rc0_2 rv0_4 rc0_4, v = .tup [.agg [.int .i64 r.1.Epoch,
    .int .i64 r.1.Leader, rv0_2, .int .i64 r.1.High, rv0_4], .int .i64 r.2.1,
    .bool r.2.2] ∧ SlF cI 1 3 rv0_2 r.1.InStep rc0_2 ∧ SlN Replica.R 3 51 rv0_4 r.1.Replicas rc0_4 ∧ Sep h' h.length (rc0_2 ++ (rc0_4 ++ ([])))) := by
  refine Ret.of (fn := x11) rfl (Run.of ?_)
  unfold impl_SettleGroup at hF
  have zf0 : argFr [.agg [.int .i64 g_0.Epoch, .int .i64 g_0.Leader, lst cI g_0.InStep, .int .i64 g_0.High, lst Replica.cells g_0.Replicas]] 0 = .agg [.int .i64 g_0.Epoch,
      .int .i64 g_0.Leader, lst cI g_0.InStep, .int .i64 g_0.High, lst Replica.cells g_0.Replicas] := rfl
  generalize argFr [.agg [.int .i64 g_0.Epoch, .int .i64 g_0.Leader, lst cI g_0.InStep, .int .i64 g_0.High, lst Replica.cells g_0.Replicas]] = fr0 at zf0 ⊢
  have hS : Sep h h.length [] := Sep.nil h
  simp only [x11, run_seq, run_reg, run_box, zf0, B0, reduceIte, reduceEqDiff]
  refine put2_boxC (cs := [.int .i64 g_0.Epoch, .int .i64 g_0.Leader, lst cI g_0.InStep, .int .i64 g_0.High, lst Replica.cells g_0.Replicas]) hS rfl rfl rfl (fun b1 h2 hS3 => ?_)
  simp only [run_new, B0, reduceIte, reduceEqDiff]
  refine put2_newC hS3 (fun b5 h6 hS7 => ?_)
  simp only [run_mv, run_ops_nil, B0, reduceIte, reduceEqDiff]
  refine frz_stepC (Sep.m1 hS7) hW (by simp only [B0, reduceIte, reduceEqDiff]) (fun h9 hS10 => ?_)
  simp only [run_frz_nil, x11_14, run_seq, run_reg, run_ld, B0, reduceIte, reduceEqDiff]
  refine put1_eq (v := .agg [.int .i64 g_0.Epoch, .int .i64 g_0.Leader, lst cI g_0.InStep, .int .i64 g_0.High, lst Replica.cells g_0.Replicas]) rfl ?_
  obtain ⟨v11, hx12, hF13⟩ := bind_some' hF
  simp only [run_call, B0, reduceIte, reduceEqDiff]
  refine call1 rfl (mapM1 (snap_agg (mapM1 snap_int (mapM1 snap_int (mapM1 snap_lst (mapM1 snap_int (mapM1 snap_lst mapM0)))))) mapM0) (impl_isGroup_x
      (fun b hb => decide_eq_true hb) k g_0 v11 hx12) ?_
  simp only [run_un, put1_some, xnot, run_ops_nil, x11_2, run_cond, B0, reduceIte, reduceEqDiff]
  refine cond_split (t := (!v11)) (fun hc14 => ?_) (fun hc14 => ?_)
  · rw [iteT hc14] at hF13
    simp only [x11_1, run_seq, run_reg, run_build, evp, B0, reduceIte, reduceEqDiff]
    refine put1_eq (v := .agg [.int .i64 0, .int .i64 0, .nil, .int .i64 0, .nil]) rfl ?_
    simp only [run_st, B0, reduceIte, reduceEqDiff]
    refine put2_stCx (us := [.int .i64 0, .int .i64 0, .nil, .int .i64 0, .nil]) rfl (cs' := [.int .i64 0, .int .i64 0, .nil, .int .i64 0,
        .nil]) hS10 hW rfl rfl (Nat.le_of_ble_eq_true rfl) rfl (fun h15 hS16 => ?_)
    simp only [run_mv, run_ops_nil, run_ret, B0, reduceIte, reduceEqDiff]
    have he := some_inj hF13
    subst he
    refine end_ret_m (mapM1 (res_cell (bb := b5) (oo := 0) (v := .agg [.int .i64 0, .int .i64 0, .nil, .int .i64 0, .nil]) (by simp only [B0, reduceIte,
        reduceEqDiff]) ((xld_bs (Sep.bk _ _ _ hS16)).trans rfl)) (mapM1 (res_t (v := .int .i64 0) (by simp only [B0, reduceIte,
        reduceEqDiff])) (mapM1 (res_t (v := .bool false) (by simp only [B0, reduceIte, reduceEqDiff])) mapM0))) ?_
    exact ⟨.nil, [], .nil, [], by first | trivial | rfl, SlF.nil, SlN.nil, ((Sep.dc (hS16)) : Sep _ h.length ([]))⟩
  rw [iteF hc14] at hF13
  simp only [run_skip, x11_13, run_seq, run_reg, run_ld, B0, reduceIte, reduceEqDiff]
  refine put1_eq (v := .agg [.int .i64 g_0.Epoch, .int .i64 g_0.Leader, lst cI g_0.InStep, .int .i64 g_0.High, lst Replica.cells g_0.Replicas]) rfl ?_
  obtain ⟨v17, hx18, hF19⟩ := bind_some' hF13
  simp only [run_call, B0, reduceIte, reduceEqDiff]
  refine call2 rfl hS10 (mapM1 (snap_agg (mapM1 snap_int (mapM1 snap_int (mapM1 snap_lst (mapM1 snap_int (mapM1 snap_lst mapM0)))))) mapM0) (impl_copyGroup_x
      (fun b hb => decide_eq_true hb) g_0 v17 hx18) ?_
  rintro _ h28 ⟨v20, c21, v24, c25, rfl, hv22, hv26, hS29⟩
  refine ⟨_, free_a (all_c rfl (all_c rfl (all_c (SlF.free1 hv22) (all_c rfl (all_c (SlN.free1 hv26) all_n))))), hS29,
      (pf_app (SlF.pf hv22 (fun _ => rfl)) (pf_app (SlN.pf hv26 Replica.RO) pf_nil)), fun h30 hS31 => ?_⟩
  have hS32 : Sep h30 h.length (c21 ++ (c25 ++ ([Blk1 b5 [.int .i64 0, .int .i64 0, .nil, .int .i64 0, .nil] 29] ++ ([])))) := by simpa only [List.append_assoc,
      List.nil_append] using hS31
  simp only [run_new, B0, reduceIte, reduceEqDiff]
  refine put2_newC hS32 (fun b33 h34 hS35 => ?_)
  simp only [run_st, B0, reduceIte, reduceEqDiff]
  refine put2_stCx (us := [.int .i64 v17.Epoch, .int .i64 v17.Leader, v20, .int .i64 v17.High, v24]) rfl (cs' := [.int .i64 v17.Epoch, .int .i64 v17.Leader, v20,
      .int .i64 v17.High, v24]) hS35 hW rfl (all_c rfl (all_c rfl (all_c (SlF.one hv22) (all_c rfl (all_c (SlN.one hv26) all_n))))) (Nat.le_of_ble_eq_true rfl) rfl
      (fun h37 hS38 => ?_)
  simp only [run_ops_nil, x11_12, run_seq, run_reg, run_fa, put1_some, Nat.reduceAdd, Nat.zero_add, Nat.add_zero, xfa_ptr, run_st, B0, reduceIte, reduceEqDiff]
  refine put2_stCx (us := [.nil]) rfl (cs' := [.int .i64 v17.Epoch, .int .i64 v17.Leader, .nil, .int .i64 v17.High,
      v24]) hS38 hW rfl rfl (Nat.le_of_ble_eq_true rfl) rfl (fun h39 hS40 => ?_)
  simp only [run_ops_nil, x11_11, run_seq, run_reg, run_fa, put1_some, Nat.reduceAdd, Nat.zero_add, Nat.add_zero, xfa_ptr, run_ld, B0, reduceIte, reduceEqDiff]
  refine put1_eq (v := v24) ((xld_b (Sep.bk _ _ _ hS40)).trans rfl) ?_
  simp only [run_len, put1_some, SlN.len hv26, run_mv, run_ops_nil, B0, reduceIte, reduceEqDiff]
  obtain ⟨oc61, hX63, hk64⟩ := jn_some hF19
  simp only [x11_8]
  refine rangeN_j (σ := Group) (fun i59 s155 => impl_SettleGroup_b1 k i59 s155) (fun s fr' h' => ∃ v52 c53 v56 c57, fr' 1 = .ref [.int .i64 g_0.Epoch, .int .i64 g_0.Leader,
      lst cI g_0.InStep, .int .i64 g_0.High,
      lst Replica.cells g_0.Replicas] 0 ∧ fr' 2 = .ptr b5 0 ∧ fr' 5 = .ptr b33 0 ∧ SlF cI 1 3 v52 s.InStep c53 ∧ SlN Replica.R 3 51 v56 s.Replicas c57 ∧ Sep h' h.length
      ([Blk1 b5 [.int .i64 0, .int .i64 0, .nil, .int .i64 0, .nil] 29] ++ ([Blk1 b33 [.int .i64 s.Epoch, .int .i64 s.Leader, v52, .int .i64 s.High,
      v56] 29] ++ (c53 ++ (c57 ++ ([])))))) hX63 ⟨.nil, [], v24, c25, by simp only [B0, reduceIte, reduceEqDiff], by simp only [B0, reduceIte, reduceEqDiff], by simp only [B0,
      reduceIte, reduceEqDiff], SlF.nil, hv26, ((Sep.m2 (Sep.m1 (Sep.m1 (Sep.dc (Sep.m1 hS40))))) : Sep _ h.length ([Blk1 b5 [.int .i64 0, .int .i64 0, .nil, .int .i64 0,
      .nil] 29] ++ ([Blk1 b33 [.int .i64 v17.Epoch, .int .i64 v17.Leader, .nil, .int .i64 v17.High, v24] 29] ++ (c25 ++ ([])))))⟩ (by simp only [B0, reduceIte,
      reduceEqDiff]) (by simp only [B0, reduceIte, reduceEqDiff]) (fun _ _ _ h => h) rfl rfl (fun _ _ _ _ h => h) (fun _ _ _ _ h => h) (fun _ _ _ _ h => h) (by decide) ?_ ?_
  · rintro i59 s50 fr73 h74 hx79 ⟨v52, c53, v56, c57, f76, f77, f78, hv54, hv58, hS75⟩ f80 f81 oc62 hF65 hr66 Q67 hN68 hB72 hK69 hR70 hE71
    unfold impl_SettleGroup_b1 at hF65
    simp only [x11_6, run_seq, run_reg, f80, run_mv, run_ops_nil, x11_5, f78, run_fa, put1_some, Nat.reduceAdd, Nat.zero_add, Nat.add_zero, xfa_ptr, run_ld, B0, reduceIte,
        reduceEqDiff]
    refine put1_eq (v := .int .i64 s50.Leader) ((xld_b (Sep.bk _ _ _ (Sep.m1 hS75))).trans rfl) ?_
    simp only [run_bin, put1_some, xeql, run_ops_nil, x11_3, run_cond, B0, reduceIte, reduceEqDiff]
    obtain ⟨s82, hX92, hk93⟩ := bind_some' hF65
    refine cond_j (t := (decide ((i59 : Int) = s50.Leader))) (fun fr' h' => ∃ v84 c85 v88 c89, fr' 1 = .ref [.int .i64 g_0.Epoch, .int .i64 g_0.Leader, lst cI g_0.InStep,
        .int .i64 g_0.High, lst Replica.cells g_0.Replicas] 0 ∧ fr' 2 = .ptr b5 0 ∧ fr' 5 = .ptr b33 0 ∧ fr' 6 = .int .i64 (i59 : Int) ∧ fr' 16 = .int .i64
        (List.length v17.Replicas : Int) ∧ fr' 17 = .int .i64 (i59 : Int) ∧ SlF cI 1 3 v84 s82.InStep c85 ∧ SlN Replica.R 3 51 v88 s82.Replicas c89 ∧ Sep h' h.length
        ([Blk1 b5 [.int .i64 0, .int .i64 0, .nil, .int .i64 0, .nil] 29] ++ ([Blk1 b33 [.int .i64 s82.Epoch, .int .i64 s82.Leader, v84, .int .i64 s82.High,
        v88] 29] ++ (c85 ++ (c89 ++ ([])))))) (fun Q94 hN95 hR96 hE97 => ⟨fun hc98 => ?_, fun hc98 => ?_⟩) ?_
    · rw [iteT hc98] at hX92
      obtain ⟨v99, hx100, hF101⟩ := bind_some' hX92
      simp only [run_reg, run_mv, f78, run_call, B0, reduceIte, reduceEqDiff]
      refine call0 rfl (impl_Group_know_x hW b33 s50 v52 c53 hv54 v56 c57 hv58 (i59 : Int) v99 hx100 (Sep.m3 (Sep.m3 (Sep.m3 hS75)))) ?_
      rintro _ h110 ⟨v102, c103, v106, c107, rfl, hv104, hv108, hS111⟩
      simp only [run_ops_nil, run_nil, B0, reduceIte, reduceEqDiff]
      have e112 := some_inj hF101
      subst e112
      exact hN95 _ _ ⟨v102, c103, v106, c107, by simp only [f76, B0, reduceIte, reduceEqDiff], by simp only [f77, B0, reduceIte, reduceEqDiff], by simp only [f78, B0, reduceIte,
          reduceEqDiff], by simp only [B0, reduceIte, reduceEqDiff], by simp only [f81, B0, reduceIte, reduceEqDiff], by simp only [f80, B0, reduceIte, reduceEqDiff], hv104,
          hv108, (Sep.m3 (Sep.m2 (Sep.m2 (Sep.m2 hS111))))⟩
    · rw [iteF hc98] at hX92
      obtain ⟨v113, hx114, hF115⟩ := bind_some' hX92
      simp only [run_reg, run_mv, f78, run_call, B0, reduceIte, reduceEqDiff]
      refine call0 rfl (impl_Group_fetch_x hW k b33 s50 v52 c53 hv54 v56 c57 hv58 (i59 : Int) 30 v113 hx114 (Sep.m3 (Sep.m3 (Sep.m3 hS75)))) ?_
      rintro _ h124 ⟨v116, c117, v120, c121, rfl, hv118, hv122, hS125⟩
      simp only [run_ops_nil, run_nil, B0, reduceIte, reduceEqDiff]
      have e126 := some_inj hF115
      subst e126
      exact hN95 _ _ ⟨v116, c117, v120, c121, by simp only [f76, B0, reduceIte, reduceEqDiff], by simp only [f77, B0, reduceIte, reduceEqDiff], by simp only [f78, B0, reduceIte,
          reduceEqDiff], by simp only [B0, reduceIte, reduceEqDiff], by simp only [f81, B0, reduceIte, reduceEqDiff], by simp only [f80, B0, reduceIte, reduceEqDiff], hv118,
          hv122, (Sep.m3 (Sep.m2 (Sep.m2 (Sep.m2 hS125))))⟩
    rintro fr127 h128 ⟨v84, c85, v88, c89, f130, f131, f132, f133, f134, f135, hv86, hv90, hS129⟩
    unfold impl_SettleGroup_j1 at hk93
    simp only [x11_4, run_reg, f132, run_fa, put1_some, Nat.reduceAdd, Nat.zero_add, Nat.add_zero, xfa_ptr, run_ld, B0, reduceIte, reduceEqDiff]
    refine put1_eq (v := v84) ((xld_b (Sep.bk _ _ _ (Sep.m1 hS129))).trans rfl) ?_
    simp only [f133, run_mv, run_buildS, evp, B0, reduceIte, reduceEqDiff]
    refine put2_buildSF (n := 1) (f := cI) [(i59 : Int)] hS129 rfl rfl (fun v136 c137 h138 hv139 hS140 => ?_)
    simp only [run_app, B0, reduceIte, reduceEqDiff]
    obtain ⟨l142, hx143, hF144⟩ := bind_some' hk93
    refine put2_appF (f := cI) hv86 (Sep.m3 hS140) hW (fun _ => rfl) (fun _ => rfl) (SlF.first hv139 hS140 (fun _ => rfl)) hx143 (fun v145 c146 h147 hv148 hS149 => ?_)
    simp only [f132, run_fa, put1_some, Nat.reduceAdd, Nat.zero_add, Nat.add_zero, xfa_ptr, run_st, B0, reduceIte, reduceEqDiff]
    refine put2_stCx (us := [v145]) (cells_one (SlF.one hv148)) (cs' := [.int .i64 s82.Epoch, .int .i64 s82.Leader, v145, .int .i64 s82.High,
        v88]) (Sep.m3 hS149) hW rfl (all_c (SlF.one hv148) all_n) (Nat.le_of_ble_eq_true rfl) rfl (fun h151 hS152 => ?_)
    simp only [run_ops_nil, run_nil, B0, reduceIte, reduceEqDiff]
    have e153 := some_inj hF144
    exact hN68 _ _ _ e153.symm ⟨v145, c146, v88, c89, by simp only [f130, B0, reduceIte, reduceEqDiff], by simp only [f131, B0, reduceIte, reduceEqDiff], by simp only [f132, B0,
        reduceIte, reduceEqDiff], hv148, hv90, (Sep.m3 (Sep.m2 (Sep.m2 (Sep.m3 (Sep.dc (Sep.m2 hS152))))))⟩ (by simp only [f135, B0, reduceIte, reduceEqDiff]) (by simp only [f134,
        B0, reduceIte, reduceEqDiff])
  rintro s156 fr165 h166 rfl ⟨v158, c159, v162, c163, f168, f169, f170, hv160, hv164, hS167⟩
  dsimp only [jnO] at hk64
  unfold impl_SettleGroup_j2 at hk64
  simp only [x11_10, run_seq, run_reg, f170, run_fa, put1_some, Nat.reduceAdd, Nat.zero_add, Nat.add_zero, xfa_ptr, run_ld, B0, reduceIte, reduceEqDiff]
  refine put1_eq (v := v162) ((xld_b (Sep.bk _ _ _ (Sep.m1 hS167))).trans rfl) ?_
  simp only [f170, run_fa, put1_some, Nat.reduceAdd, Nat.zero_add, Nat.add_zero, xfa_ptr, run_ld, B0, reduceIte, reduceEqDiff]
  refine put1_eq (v := .int .i64 s156.Leader) ((xld_b (Sep.bk _ _ _ (Sep.m1 hS167))).trans rfl) ?_
  obtain ⟨x171, hx172, hF173⟩ := bind_some' hk64
  simp only [run_ia, B0, reduceIte, reduceEqDiff]
  obtain ⟨b174, hb175⟩ := SlN.isrow hv164 (geti_ne hx172)
  refine put1_eq (SlN.ia hv164 hb175 hx172) ?_
  obtain ⟨c176, cs177, os178, hv179, hR180, hS181⟩ := SlG.opn (SlN.toG hv164 hb175 Replica.RO.len) hx172 hk_nil Replica.RO.len (Sep.m3 hS167)
  obtain ⟨v183, c184, hv185, rfl, rfl⟩ := hR180
  have hS182 := Sep.no1 hS181
  simp only [run_fa, put1_some, Nat.reduceAdd, Nat.zero_add, Nat.add_zero, xfa_ptr, run_ld, B0, reduceIte, reduceEqDiff]
  refine put1_eq (v := v183) ((SlG.ld (o := 0) hv179 rfl hx172 hS182 (Nat.le_of_ble_eq_true rfl)).trans rfl) ?_
  simp only [run_len, put1_some, SlF.plen hv185, f170, run_fa, Nat.reduceAdd, Nat.zero_add, Nat.add_zero, xfa_ptr, run_st, B0, reduceIte, reduceEqDiff]
  refine put2_stCx (us := [.int .i64 (List.length x171.Log : Int)]) rfl (cs' := [.int .i64 s156.Epoch, .int .i64 s156.Leader, v158, .int .i64 (List.length x171.Log : Int),
      v162]) (Sep.m3 hS182) hW rfl rfl (Nat.le_of_ble_eq_true rfl) rfl (fun h187 hS188 => ?_)
  simp only [run_ops_nil, x11_9, run_seq, run_draw, f170, d4_ld, B0, reduceIte, reduceEqDiff]
  refine put1d_eq (v := .agg [.int .i64 s156.Epoch, .int .i64 s156.Leader, v158, .int .i64 (List.length x171.Log : Int), v162]) ((xld_bs (Sep.bk _ _ _ hS188)).trans rfl) ?_
  simp only [f170, d1_fa, put1d_some, Nat.reduceAdd, Nat.zero_add, Nat.add_zero, xfa_ptr, d1_ld, B0, reduceIte, reduceEqDiff]
  refine ldd_ptr (Sep.ltk hS188) ?_
  refine put1d_eq (v := .int .i64 (List.length x171.Log : Int)) ((xld_b (Sep.bk _ _ _ hS188)).trans rfl) ?_
  simp only [f168, d1_fa, put1d_some, Nat.reduceAdd, Nat.zero_add, Nat.add_zero, xfa_ref, d1_ld, ldd_ref, B0, reduceIte, reduceEqDiff]
  refine put1d_eq (v := .int .i64 g_0.High) rfl ?_
  simp only [d1_bin, put1d_some, xsub, f169, d2_st, B0, reduceIte, reduceEqDiff]
  refine q_st (disj1 (Sep.bne (Sep.m3 hS188)) disj0) ?_
  refine put2d_stCx (us := [.int .i64 s156.Epoch, .int .i64 s156.Leader, v158, .int .i64 (List.length x171.Log : Int), v162]) rfl (cs' := [.int .i64 s156.Epoch,
      .int .i64 s156.Leader, v158, .int .i64 (List.length x171.Log : Int),
      v162]) (Sep.m3 hS188) hW rfl (all_c rfl (all_c rfl (all_c (SlF.one hv160) (all_c rfl (all_c (SlG.one hv179) all_n))))) (Nat.le_of_ble_eq_true rfl) rfl (fun h189 hS190 => ?_)
  simp only [d4_mv, put1d_some, run_draw_nil, run_ret, B0, reduceIte, reduceEqDiff]
  obtain ⟨c191, hv192, hS193⟩ := SlG.cls0 (c := c176) (os := c184) hv179 rfl hx172 hk_nil (Replica.RI (x := x171) hv185) (Sep.m3 (Sep.m3 hS190))
  have hv194 := SlG.toN hv192
  have he := some_inj hF173
  subst he
  refine end_ret_m (mapM1 (res_cell (bb := b5) (oo := 0) (v := .agg [.int .i64 s156.Epoch, .int .i64 s156.Leader, v158, .int .i64 (List.length x171.Log : Int),
      v162]) (by simp only [f169, B0, reduceIte,
      reduceEqDiff]) ((xld_bs (Sep.bk _ _ _ (Sep.m1 hS193))).trans rfl)) (mapM1 (res_t (v := .int .i64 (IntKind.wrap .i64 ((List.length x171.Log : Int) - g_0.High)))
      (by simp only [B0, reduceIte, reduceEqDiff])) (mapM1 (res_t (v := .bool true) (by simp only [B0, reduceIte, reduceEqDiff])) mapM0))) ?_
  exact ⟨v158, c159, v162, c191, by first | trivial | rfl, hv160, hv194, (Sep.m1 (Sep.dc (Sep.m1 (Sep.dc (Sep.m1 hS193)))))⟩
theorem laws_eqIntS_x {W : Nat → Bool} {h : Heap} (hW : ∀ b,
    h.length ≤ b → W b = true) (k : Nat) (a_0 : List Int) (b_1 : List Int) (r : Bool) (hF : laws_eqIntS k a_0 b_1 = some r) : Ret E W 56 [lst cI a_0,
    lst cI b_1] h (fun v h' => cut h.length h' E.sz false 9 v = some (.bool r)) := by
  refine Ret.of (fn := x56) rfl (Run.of ?_)
  unfold laws_eqIntS at hF
  have zf0 : argFr [lst cI a_0, lst cI b_1] 0 = lst cI a_0 := rfl
  have zf1 : argFr [lst cI a_0, lst cI b_1] 1 = lst cI b_1 := rfl
  generalize argFr [lst cI a_0, lst cI b_1] = fr0 at zf0 zf1 ⊢
  have hS : Sep h h.length [] := Sep.nil h
  simp only [x56, run_seq, run_reg, run_mv, run_ops_nil, x56_7, zf0, run_len, put1_some, xlen_lst, zf1, run_bin, xneq, run_cond, B0, reduceIte, reduceEqDiff]
  refine cond_split (t := (decide ((List.length a_0 : Int) ≠ (List.length b_1 : Int)))) (fun hc1 => ?_) (fun hc1 => ?_)
  · rw [iteT hc1] at hF
    simp only [run_seq, run_reg, run_mv, run_ops_nil, run_ret, B0, reduceIte, reduceEqDiff]
    have he := some_inj hF
    subst he
    simp only [end_ret1, B0, reduceIte, reduceEqDiff]
    exact rfl
  rw [iteF hc1] at hF
  simp only [run_skip, x56_6, run_seq, run_reg, run_mv, run_ops_nil, B0, reduceIte, reduceEqDiff]
  obtain ⟨oc6, hX8, hk9⟩ := jn_some hF
  simp only [x56_5]
  refine loopF_j (σ := Int) (fun s38 => laws_eqIntS_b1 a_0 b_1 s38) (fun s fr' h' => fr' 0 = lst cI a_0 ∧ fr' 1 = lst cI b_1 ∧ fr' 5 = .int .i64 s ∧ Sep h' h.length
      ([])) hX8 ⟨by simp only [zf0, B0, reduceIte, reduceEqDiff], by simp only [zf1, B0, reduceIte, reduceEqDiff], by simp only [B0, reduceIte, reduceEqDiff],
      hS⟩ (fun _ _ _ h => h) ?_ ?_
  · rintro s3 fr18 h19 ⟨f21, f22, f23, hS20⟩ oc7 hF10 hr11 Q12 hN13 hK14 hR15 hE16
    unfold laws_eqIntS_b1 at hF10
    simp only [x56_3, run_seq, run_reg, f23, run_mv, f21, run_len, put1_some, xlen_lst, run_bin, xlss, run_ops_nil, run_cond, B0, reduceIte, reduceEqDiff]
    refine cond_split (t := (decide (s3 < (List.length a_0 : Int)))) (fun hc25 => ?_) (fun hc25 => ?_)
    · rw [iteT hc25] at hF10
      obtain ⟨x26, hx27, hF28⟩ := bind_some' hF10
      simp only [run_skip, x56_2, run_seq, run_block, x56_1, run_draw, f21, d4_mv, put1d_some, f23, d4_ia, B0, reduceIte, reduceEqDiff]
      refine put1d_eq (v := .ref (cI x26) 0) (xia_lst hx27 rfl) ?_
      simp only [d4_ld, B0, reduceIte, reduceEqDiff]
      refine put1d_eq (v := .int .i64 x26) rfl ?_
      obtain ⟨x29, hx30, hF31⟩ := bind_some' hF28
      simp only [f22, d4_mv, put1d_some, f23, d4_ia, B0, reduceIte, reduceEqDiff]
      refine put1d_eq (v := .ref (cI x29) 0) (xia_lst hx30 rfl) ?_
      simp only [d4_ld, B0, reduceIte, reduceEqDiff]
      refine put1d_eq (v := .int .i64 x29) rfl ?_
      simp only [d4_bin, put1d_some, xneq, run_draw_nil, run_cond, B0, reduceIte, reduceEqDiff]
      refine cond_split (t := (decide (x26 ≠ x29))) (fun hc32 => ?_) (fun hc32 => ?_)
      · rw [iteT hc32] at hF31
        simp only [run_seq, run_reg, run_mv, run_ops_nil, run_ret, B0, reduceIte, reduceEqDiff]
        have e33 := some_inj hF31
        subst e33
        have ho34 := hr11 _ rfl
        have hk35 := hk9
        rw [ho34] at hk35
        dsimp only [jnO] at hk35
        apply hR15
        have he := some_inj hk35
        subst he
        simp only [end_ret1, B0, reduceIte, reduceEqDiff]
        exact rfl
      rw [iteF hc32] at hF31
      simp only [run_skip, run_blk, run_reg, f23, run_mv, run_bin, put1_some, xadd, run_ops_nil, run_nil, B0, reduceIte, reduceEqDiff]
      have e36 := some_inj hF31
      exact hN13 _ _ _ e36.symm ⟨by simp only [f21, B0, reduceIte, reduceEqDiff], by simp only [f22, B0, reduceIte, reduceEqDiff], by simp only [B0, reduceIte, reduceEqDiff], hS20⟩
    rw [iteF hc25] at hF10
    simp only [run_exit, out_code, out_nil, B0, reduceIte, reduceEqDiff]
    have e37 := some_inj hF10
    exact hK14 _ _ _ e37.symm ⟨by simp only [f21, B0, reduceIte, reduceEqDiff], by simp only [f22, B0, reduceIte, reduceEqDiff], by simp only [f23, B0, reduceIte, reduceEqDiff],
        hS20⟩
  rintro s39 fr40 h41 rfl ⟨f43, f44, f45, hS42⟩
  dsimp only [jnO] at hk9
  unfold laws_eqIntS_j1 at hk9
  simp only [run_seq, run_reg, run_mv, run_ops_nil, run_ret, B0, reduceIte, reduceEqDiff]
  have he := some_inj hk9
  subst he
  simp only [end_ret1, B0, reduceIte, reduceEqDiff]
  exact rfl
theorem laws_eqRow_x {W : Nat → Bool} {h : Heap} (hW : ∀ b,
    h.length ≤ b → W b = true) (a_0 : Row) (b_1 : Row) (r : Bool) (hF : laws_eqRow a_0 b_1 = some r) : Ret E W 101 [.agg [.int .i64 a_0.Epoch, .int .i64 a_0.Value],
    .agg [.int .i64 b_1.Epoch, .int .i64 b_1.Value]] h (fun v h' => cut h.length h' E.sz false 9 v = some (.bool r)) := by
  refine Ret.of (fn := x101) rfl (Run.of ?_)
  unfold laws_eqRow at hF
  have zf0 : argFr [.agg [.int .i64 a_0.Epoch, .int .i64 a_0.Value], .agg [.int .i64 b_1.Epoch, .int .i64 b_1.Value]] 0 = .agg [.int .i64 a_0.Epoch, .int .i64 a_0.Value] := rfl
  have zf1 : argFr [.agg [.int .i64 a_0.Epoch, .int .i64 a_0.Value], .agg [.int .i64 b_1.Epoch, .int .i64 b_1.Value]] 1 = .agg [.int .i64 b_1.Epoch, .int .i64 b_1.Value] := rfl
  generalize argFr [.agg [.int .i64 a_0.Epoch, .int .i64 a_0.Value], .agg [.int .i64 b_1.Epoch, .int .i64 b_1.Value]] = fr0 at zf0 zf1 ⊢
  have hS : Sep h h.length [] := Sep.nil h
  simp only [x101, run_seq, run_reg, run_box, zf0, B0, reduceIte, reduceEqDiff]
  refine put2_boxC (cs := [.int .i64 a_0.Epoch, .int .i64 a_0.Value]) hS rfl rfl rfl (fun b1 h2 hS3 => ?_)
  simp only [run_box, zf1, B0, reduceIte, reduceEqDiff]
  refine put2_boxC (cs := [.int .i64 b_1.Epoch, .int .i64 b_1.Value]) hS3 rfl rfl rfl (fun b5 h6 hS7 => ?_)
  simp only [run_mv, run_ops_nil, B0, reduceIte, reduceEqDiff]
  refine frz_stepC (Sep.m1 hS7) hW (by simp only [B0, reduceIte, reduceEqDiff]) (fun h9 hS10 => ?_)
  refine frz_stepC hS10 hW (by simp only [B0, reduceIte, reduceEqDiff]) (fun h11 hS12 => ?_)
  simp only [run_frz_nil, x101_2, run_seq, run_reg, run_fa, put1_some, Nat.reduceAdd, Nat.zero_add, Nat.add_zero, xfa_ref, run_ld, B0, reduceIte, reduceEqDiff]
  refine put1_eq (v := .int .i64 a_0.Epoch) rfl ?_
  simp only [run_fa, put1_some, Nat.reduceAdd, Nat.zero_add, Nat.add_zero, xfa_ref, run_ld, B0, reduceIte, reduceEqDiff]
  refine put1_eq (v := .int .i64 b_1.Epoch) rfl ?_
  simp only [run_bin, put1_some, xneq, run_ops_nil, run_cond, B0, reduceIte, reduceEqDiff]
  refine cond_split (t := (decide (a_0.Epoch ≠ b_1.Epoch))) (fun hc13 => ?_) (fun hc13 => ?_)
  · rw [iteT hc13] at hF
    simp only [run_seq, run_reg, run_mv, run_ops_nil, run_ret, B0, reduceIte, reduceEqDiff]
    have he := some_inj hF
    subst he
    simp only [end_ret1, B0, reduceIte, reduceEqDiff]
    exact rfl
  rw [iteF hc13] at hF
  simp only [run_skip, x101_1, run_seq, run_reg, run_fa, put1_some, Nat.reduceAdd, Nat.zero_add, Nat.add_zero, xfa_ref, run_ld, B0, reduceIte, reduceEqDiff]
  refine put1_eq (v := .int .i64 a_0.Value) rfl ?_
  simp only [run_fa, put1_some, Nat.reduceAdd, Nat.zero_add, Nat.add_zero, xfa_ref, run_ld, B0, reduceIte, reduceEqDiff]
  refine put1_eq (v := .int .i64 b_1.Value) rfl ?_
  simp only [run_bin, put1_some, xneq, run_ops_nil, run_cond, B0, reduceIte, reduceEqDiff]
  refine cond_split (t := (decide (a_0.Value ≠ b_1.Value))) (fun hc14 => ?_) (fun hc14 => ?_)
  · rw [iteT hc14] at hF
    simp only [run_seq, run_reg, run_mv, run_ops_nil, run_ret, B0, reduceIte, reduceEqDiff]
    have he := some_inj hF
    subst he
    simp only [end_ret1, B0, reduceIte, reduceEqDiff]
    exact rfl
  rw [iteF hc14] at hF
  simp only [run_skip, run_seq, run_reg, run_mv, run_ops_nil, run_ret, B0, reduceIte, reduceEqDiff]
  have he := some_inj hF
  subst he
  simp only [end_ret1, B0, reduceIte, reduceEqDiff]
  exact rfl
theorem laws_eqRowS_x {W : Nat → Bool} {h : Heap} (hW : ∀ b,
    h.length ≤ b → W b = true) (k : Nat) (a_0 : List Row) (b_1 : List Row) (r : Bool) (hF : laws_eqRowS k a_0 b_1 = some r) : Ret E W 95 [lst Row.cells a_0,
    lst Row.cells b_1] h (fun v h' => cut h.length h' E.sz false 9 v = some (.bool r)) := by
  refine Ret.of (fn := x95) rfl (Run.of ?_)
  unfold laws_eqRowS at hF
  have zf0 : argFr [lst Row.cells a_0, lst Row.cells b_1] 0 = lst Row.cells a_0 := rfl
  have zf1 : argFr [lst Row.cells a_0, lst Row.cells b_1] 1 = lst Row.cells b_1 := rfl
  generalize argFr [lst Row.cells a_0, lst Row.cells b_1] = fr0 at zf0 zf1 ⊢
  have hS : Sep h h.length [] := Sep.nil h
  simp only [x95, run_seq, run_reg, run_mv, run_ops_nil, x95_7, zf0, run_len, put1_some, xlen_lst, zf1, run_bin, xneq, run_cond, B0, reduceIte, reduceEqDiff]
  refine cond_split (t := (decide ((List.length a_0 : Int) ≠ (List.length b_1 : Int)))) (fun hc1 => ?_) (fun hc1 => ?_)
  · rw [iteT hc1] at hF
    simp only [run_seq, run_reg, run_mv, run_ops_nil, run_ret, B0, reduceIte, reduceEqDiff]
    have he := some_inj hF
    subst he
    simp only [end_ret1, B0, reduceIte, reduceEqDiff]
    exact rfl
  rw [iteF hc1] at hF
  simp only [run_skip, x95_6, run_seq, run_reg, run_mv, run_ops_nil, B0, reduceIte, reduceEqDiff]
  obtain ⟨oc6, hX8, hk9⟩ := jn_some hF
  simp only [x95_5]
  refine loopF_j (σ := Int) (fun s41 => laws_eqRowS_b1 a_0 b_1 s41) (fun s fr' h' => fr' 0 = lst Row.cells a_0 ∧ fr' 1 = lst Row.cells b_1 ∧ fr' 5 = .int .i64 s ∧ Sep h' h.length
      ([])) hX8 ⟨by simp only [zf0, B0, reduceIte, reduceEqDiff], by simp only [zf1, B0, reduceIte, reduceEqDiff], by simp only [B0, reduceIte, reduceEqDiff],
      hS⟩ (fun _ _ _ h => h) ?_ ?_
  · rintro s3 fr18 h19 ⟨f21, f22, f23, hS20⟩ oc7 hF10 hr11 Q12 hN13 hK14 hR15 hE16
    unfold laws_eqRowS_b1 at hF10
    simp only [x95_3, run_seq, run_reg, f23, run_mv, f21, run_len, put1_some, xlen_lst, run_bin, xlss, run_ops_nil, run_cond, B0, reduceIte, reduceEqDiff]
    refine cond_split (t := (decide (s3 < (List.length a_0 : Int)))) (fun hc25 => ?_) (fun hc25 => ?_)
    · rw [iteT hc25] at hF10
      obtain ⟨x26, hx27, hF28⟩ := bind_some' hF10
      simp only [run_skip, x95_2, run_seq, run_block, x95_1, run_draw, f21, d4_mv, put1d_some, f23, d4_ia, B0, reduceIte, reduceEqDiff]
      refine put1d_eq (v := .ref (Row.cells x26) 0) (xia_lst hx27 rfl) ?_
      simp only [d4_ld, B0, reduceIte, reduceEqDiff]
      refine put1d_eq (v := .agg [.int .i64 x26.Epoch, .int .i64 x26.Value]) rfl ?_
      obtain ⟨x29, hx30, hF31⟩ := bind_some' hF28
      simp only [f22, d4_mv, put1d_some, f23, d4_ia, B0, reduceIte, reduceEqDiff]
      refine put1d_eq (v := .ref (Row.cells x29) 0) (xia_lst hx30 rfl) ?_
      simp only [d4_ld, B0, reduceIte, reduceEqDiff]
      refine put1d_eq (v := .agg [.int .i64 x29.Epoch, .int .i64 x29.Value]) rfl ?_
      obtain ⟨v32, hx33, hF34⟩ := bind_some' hF31
      simp only [run_d3_call, B0, reduceIte, reduceEqDiff]
      refine call1d rfl (mapM1 (snap_agg (mapM1 snap_int (mapM1 snap_int mapM0))) (mapM1 (snap_agg (mapM1 snap_int (mapM1 snap_int mapM0))) mapM0)) (laws_eqRow_x
          (fun b hb => decide_eq_true hb) x26 x29 v32 hx33) ?_
      simp only [d4_un, put1d_some, xnot, run_draw_nil, run_cond, B0, reduceIte, reduceEqDiff]
      refine cond_split (t := (!v32)) (fun hc35 => ?_) (fun hc35 => ?_)
      · rw [iteT hc35] at hF34
        simp only [run_seq, run_reg, run_mv, run_ops_nil, run_ret, B0, reduceIte, reduceEqDiff]
        have e36 := some_inj hF34
        subst e36
        have ho37 := hr11 _ rfl
        have hk38 := hk9
        rw [ho37] at hk38
        dsimp only [jnO] at hk38
        apply hR15
        have he := some_inj hk38
        subst he
        simp only [end_ret1, B0, reduceIte, reduceEqDiff]
        exact rfl
      rw [iteF hc35] at hF34
      simp only [run_skip, run_blk, run_reg, f23, run_mv, run_bin, put1_some, xadd, run_ops_nil, run_nil, B0, reduceIte, reduceEqDiff]
      have e39 := some_inj hF34
      exact hN13 _ _ _ e39.symm ⟨by simp only [f21, B0, reduceIte, reduceEqDiff], by simp only [f22, B0, reduceIte, reduceEqDiff], by simp only [B0, reduceIte, reduceEqDiff], hS20⟩
    rw [iteF hc25] at hF10
    simp only [run_exit, out_code, out_nil, B0, reduceIte, reduceEqDiff]
    have e40 := some_inj hF10
    exact hK14 _ _ _ e40.symm ⟨by simp only [f21, B0, reduceIte, reduceEqDiff], by simp only [f22, B0, reduceIte, reduceEqDiff], by simp only [f23, B0, reduceIte, reduceEqDiff],
        hS20⟩
  rintro s42 fr43 h44 rfl ⟨f46, f47, f48, hS45⟩
  dsimp only [jnO] at hk9
  unfold laws_eqRowS_j1 at hk9
  simp only [run_seq, run_reg, run_mv, run_ops_nil, run_ret, B0, reduceIte, reduceEqDiff]
  have he := some_inj hk9
  subst he
  simp only [end_ret1, B0, reduceIte, reduceEqDiff]
  exact rfl
theorem laws_eqReplica_x {W : Nat → Bool} {h : Heap} (hW : ∀ b,
    h.length ≤ b → W b = true) (k : Nat) (a_0 : Replica) (b_1 : Replica) (r : Bool) (hF : laws_eqReplica k a_0 b_1 = some r) : Ret E W 83 [.agg [lst Row.cells a_0.Log,
    .int .i64 a_0.Epoch, .int .i64 a_0.Known], .agg [lst Row.cells b_1.Log, .int .i64 b_1.Epoch,
    .int .i64 b_1.Known]] h (fun v h' => cut h.length h' E.sz false 9 v = some (.bool r)) := by
  refine Ret.of (fn := x83) rfl (Run.of ?_)
  unfold laws_eqReplica at hF
  have zf0 : argFr [.agg [lst Row.cells a_0.Log, .int .i64 a_0.Epoch, .int .i64 a_0.Known], .agg [lst Row.cells b_1.Log, .int .i64 b_1.Epoch,
      .int .i64 b_1.Known]] 0 = .agg [lst Row.cells a_0.Log, .int .i64 a_0.Epoch, .int .i64 a_0.Known] := rfl
  have zf1 : argFr [.agg [lst Row.cells a_0.Log, .int .i64 a_0.Epoch, .int .i64 a_0.Known], .agg [lst Row.cells b_1.Log, .int .i64 b_1.Epoch,
      .int .i64 b_1.Known]] 1 = .agg [lst Row.cells b_1.Log, .int .i64 b_1.Epoch, .int .i64 b_1.Known] := rfl
  generalize argFr [.agg [lst Row.cells a_0.Log, .int .i64 a_0.Epoch, .int .i64 a_0.Known], .agg [lst Row.cells b_1.Log, .int .i64 b_1.Epoch,
      .int .i64 b_1.Known]] = fr0 at zf0 zf1 ⊢
  have hS : Sep h h.length [] := Sep.nil h
  simp only [x83, run_seq, run_reg, run_box, zf0, B0, reduceIte, reduceEqDiff]
  refine put2_boxC (cs := [lst Row.cells a_0.Log, .int .i64 a_0.Epoch, .int .i64 a_0.Known]) hS rfl rfl rfl (fun b1 h2 hS3 => ?_)
  simp only [run_box, zf1, B0, reduceIte, reduceEqDiff]
  refine put2_boxC (cs := [lst Row.cells b_1.Log, .int .i64 b_1.Epoch, .int .i64 b_1.Known]) hS3 rfl rfl rfl (fun b5 h6 hS7 => ?_)
  simp only [run_mv, run_ops_nil, B0, reduceIte, reduceEqDiff]
  refine frz_stepC (Sep.m1 hS7) hW (by simp only [B0, reduceIte, reduceEqDiff]) (fun h9 hS10 => ?_)
  refine frz_stepC hS10 hW (by simp only [B0, reduceIte, reduceEqDiff]) (fun h11 hS12 => ?_)
  simp only [run_frz_nil, x83_3, run_seq, run_reg, run_fa, put1_some, Nat.reduceAdd, Nat.zero_add, Nat.add_zero, xfa_ref, run_ld, B0, reduceIte, reduceEqDiff]
  refine put1_eq (v := lst Row.cells a_0.Log) rfl ?_
  simp only [run_fa, put1_some, Nat.reduceAdd, Nat.zero_add, Nat.add_zero, xfa_ref, run_ld, B0, reduceIte, reduceEqDiff]
  refine put1_eq (v := lst Row.cells b_1.Log) rfl ?_
  obtain ⟨v13, hx14, hF15⟩ := bind_some' hF
  simp only [run_call, B0, reduceIte, reduceEqDiff]
  refine call1 rfl (mapM1 snap_lst (mapM1 snap_lst mapM0)) (laws_eqRowS_x (fun b hb => decide_eq_true hb) k a_0.Log b_1.Log v13 hx14) ?_
  simp only [run_un, put1_some, xnot, run_ops_nil, run_cond, B0, reduceIte, reduceEqDiff]
  refine cond_split (t := (!v13)) (fun hc16 => ?_) (fun hc16 => ?_)
  · rw [iteT hc16] at hF15
    simp only [run_seq, run_reg, run_mv, run_ops_nil, run_ret, B0, reduceIte, reduceEqDiff]
    have he := some_inj hF15
    subst he
    simp only [end_ret1, B0, reduceIte, reduceEqDiff]
    exact rfl
  rw [iteF hc16] at hF15
  simp only [run_skip, x83_2, run_seq, run_reg, run_fa, put1_some, Nat.reduceAdd, Nat.zero_add, Nat.add_zero, xfa_ref, run_ld, B0, reduceIte, reduceEqDiff]
  refine put1_eq (v := .int .i64 a_0.Epoch) rfl ?_
  simp only [run_fa, put1_some, Nat.reduceAdd, Nat.zero_add, Nat.add_zero, xfa_ref, run_ld, B0, reduceIte, reduceEqDiff]
  refine put1_eq (v := .int .i64 b_1.Epoch) rfl ?_
  simp only [run_bin, put1_some, xneq, run_ops_nil, run_cond, B0, reduceIte, reduceEqDiff]
  refine cond_split (t := (decide (a_0.Epoch ≠ b_1.Epoch))) (fun hc17 => ?_) (fun hc17 => ?_)
  · rw [iteT hc17] at hF15
    simp only [run_seq, run_reg, run_mv, run_ops_nil, run_ret, B0, reduceIte, reduceEqDiff]
    have he := some_inj hF15
    subst he
    simp only [end_ret1, B0, reduceIte, reduceEqDiff]
    exact rfl
  rw [iteF hc17] at hF15
  simp only [run_skip, x83_1, run_seq, run_reg, run_fa, put1_some, Nat.reduceAdd, Nat.zero_add, Nat.add_zero, xfa_ref, run_ld, B0, reduceIte, reduceEqDiff]
  refine put1_eq (v := .int .i64 a_0.Known) rfl ?_
  simp only [run_fa, put1_some, Nat.reduceAdd, Nat.zero_add, Nat.add_zero, xfa_ref, run_ld, B0, reduceIte, reduceEqDiff]
  refine put1_eq (v := .int .i64 b_1.Known) rfl ?_
  simp only [run_bin, put1_some, xneq, run_ops_nil, run_cond, B0, reduceIte, reduceEqDiff]
  refine cond_split (t := (decide (a_0.Known ≠ b_1.Known))) (fun hc18 => ?_) (fun hc18 => ?_)
  · rw [iteT hc18] at hF15
    simp only [run_seq, run_reg, run_mv, run_ops_nil, run_ret, B0, reduceIte, reduceEqDiff]
    have he := some_inj hF15
    subst he
    simp only [end_ret1, B0, reduceIte, reduceEqDiff]
    exact rfl
  rw [iteF hc18] at hF15
  simp only [run_skip, run_seq, run_reg, run_mv, run_ops_nil, run_ret, B0, reduceIte, reduceEqDiff]
  have he := some_inj hF15
  subst he
  simp only [end_ret1, B0, reduceIte, reduceEqDiff]
  exact rfl
theorem laws_eqReplicaS_x {W : Nat → Bool} {h : Heap} (hW : ∀ b,
    h.length ≤ b → W b = true) (k : Nat) (a_0 : List Replica) (b_1 : List Replica) (r : Bool) (hF : laws_eqReplicaS k a_0 b_1 = some r) : Ret E W 57 [lst Replica.cells a_0,
    lst Replica.cells b_1] h (fun v h' => cut h.length h' E.sz false 9 v = some (.bool r)) := by
  refine Ret.of (fn := x57) rfl (Run.of ?_)
  unfold laws_eqReplicaS at hF
  have zf0 : argFr [lst Replica.cells a_0, lst Replica.cells b_1] 0 = lst Replica.cells a_0 := rfl
  have zf1 : argFr [lst Replica.cells a_0, lst Replica.cells b_1] 1 = lst Replica.cells b_1 := rfl
  generalize argFr [lst Replica.cells a_0, lst Replica.cells b_1] = fr0 at zf0 zf1 ⊢
  have hS : Sep h h.length [] := Sep.nil h
  simp only [x57, run_seq, run_reg, run_mv, run_ops_nil, x57_7, zf0, run_len, put1_some, xlen_lst, zf1, run_bin, xneq, run_cond, B0, reduceIte, reduceEqDiff]
  refine cond_split (t := (decide ((List.length a_0 : Int) ≠ (List.length b_1 : Int)))) (fun hc1 => ?_) (fun hc1 => ?_)
  · rw [iteT hc1] at hF
    simp only [run_seq, run_reg, run_mv, run_ops_nil, run_ret, B0, reduceIte, reduceEqDiff]
    have he := some_inj hF
    subst he
    simp only [end_ret1, B0, reduceIte, reduceEqDiff]
    exact rfl
  rw [iteF hc1] at hF
  simp only [run_skip, x57_6, run_seq, run_reg, run_mv, run_ops_nil, B0, reduceIte, reduceEqDiff]
  obtain ⟨oc6, hX8, hk9⟩ := jn_some hF
  simp only [x57_5]
  refine loopF_j (σ := Int) (fun s41 => laws_eqReplicaS_b1 k a_0 b_1 s41)
      (fun s fr' h' => fr' 0 = lst Replica.cells a_0 ∧ fr' 1 = lst Replica.cells b_1 ∧ fr' 5 = .int .i64 s ∧ Sep h' h.length ([])) hX8 ⟨by simp only [zf0, B0, reduceIte,
      reduceEqDiff], by simp only [zf1, B0, reduceIte, reduceEqDiff], by simp only [B0, reduceIte, reduceEqDiff], hS⟩ (fun _ _ _ h => h) ?_ ?_
  · rintro s3 fr18 h19 ⟨f21, f22, f23, hS20⟩ oc7 hF10 hr11 Q12 hN13 hK14 hR15 hE16
    unfold laws_eqReplicaS_b1 at hF10
    simp only [x57_3, run_seq, run_reg, f23, run_mv, f21, run_len, put1_some, xlen_lst, run_bin, xlss, run_ops_nil, run_cond, B0, reduceIte, reduceEqDiff]
    refine cond_split (t := (decide (s3 < (List.length a_0 : Int)))) (fun hc25 => ?_) (fun hc25 => ?_)
    · rw [iteT hc25] at hF10
      obtain ⟨x26, hx27, hF28⟩ := bind_some' hF10
      simp only [run_skip, x57_2, run_seq, run_block, x57_1, run_draw, f21, d4_mv, put1d_some, f23, d4_ia, B0, reduceIte, reduceEqDiff]
      refine put1d_eq (v := .ref (Replica.cells x26) 0) (xia_lst hx27 rfl) ?_
      simp only [d4_ld, B0, reduceIte, reduceEqDiff]
      refine put1d_eq (v := .agg [lst Row.cells x26.Log, .int .i64 x26.Epoch, .int .i64 x26.Known]) rfl ?_
      obtain ⟨x29, hx30, hF31⟩ := bind_some' hF28
      simp only [f22, d4_mv, put1d_some, f23, d4_ia, B0, reduceIte, reduceEqDiff]
      refine put1d_eq (v := .ref (Replica.cells x29) 0) (xia_lst hx30 rfl) ?_
      simp only [d4_ld, B0, reduceIte, reduceEqDiff]
      refine put1d_eq (v := .agg [lst Row.cells x29.Log, .int .i64 x29.Epoch, .int .i64 x29.Known]) rfl ?_
      obtain ⟨v32, hx33, hF34⟩ := bind_some' hF31
      simp only [run_d3_call, B0, reduceIte, reduceEqDiff]
      refine call1d rfl (mapM1 (snap_agg (mapM1 snap_lst (mapM1 snap_int (mapM1 snap_int mapM0)))) (mapM1 (snap_agg (mapM1 snap_lst (mapM1 snap_int
          (mapM1 snap_int mapM0)))) mapM0)) (laws_eqReplica_x (fun b hb => decide_eq_true hb) k x26 x29 v32 hx33) ?_
      simp only [d4_un, put1d_some, xnot, run_draw_nil, run_cond, B0, reduceIte, reduceEqDiff]
      refine cond_split (t := (!v32)) (fun hc35 => ?_) (fun hc35 => ?_)
      · rw [iteT hc35] at hF34
        simp only [run_seq, run_reg, run_mv, run_ops_nil, run_ret, B0, reduceIte, reduceEqDiff]
        have e36 := some_inj hF34
        subst e36
        have ho37 := hr11 _ rfl
        have hk38 := hk9
        rw [ho37] at hk38
        dsimp only [jnO] at hk38
        apply hR15
        have he := some_inj hk38
        subst he
        simp only [end_ret1, B0, reduceIte, reduceEqDiff]
        exact rfl
      rw [iteF hc35] at hF34
      simp only [run_skip, run_blk, run_reg, f23, run_mv, run_bin, put1_some, xadd, run_ops_nil, run_nil, B0, reduceIte, reduceEqDiff]
      have e39 := some_inj hF34
      exact hN13 _ _ _ e39.symm ⟨by simp only [f21, B0, reduceIte, reduceEqDiff], by simp only [f22, B0, reduceIte, reduceEqDiff], by simp only [B0, reduceIte, reduceEqDiff], hS20⟩
    rw [iteF hc25] at hF10
    simp only [run_exit, out_code, out_nil, B0, reduceIte, reduceEqDiff]
    have e40 := some_inj hF10
    exact hK14 _ _ _ e40.symm ⟨by simp only [f21, B0, reduceIte, reduceEqDiff], by simp only [f22, B0, reduceIte, reduceEqDiff], by simp only [f23, B0, reduceIte, reduceEqDiff],
        hS20⟩
  rintro s42 fr43 h44 rfl ⟨f46, f47, f48, hS45⟩
  dsimp only [jnO] at hk9
  unfold laws_eqReplicaS_j1 at hk9
  simp only [run_seq, run_reg, run_mv, run_ops_nil, run_ret, B0, reduceIte, reduceEqDiff]
  have he := some_inj hk9
  subst he
  simp only [end_ret1, B0, reduceIte, reduceEqDiff]
  exact rfl
theorem laws_eqGroup_x {W : Nat → Bool} {h : Heap} (hW : ∀ b,
    h.length ≤ b → W b = true) (k : Nat) (a_0 : Group) (b_1 : Group) (r : Bool) (hF : laws_eqGroup k a_0 b_1 = some r) : Ret E W 12 [.agg [.int .i64 a_0.Epoch,
    .int .i64 a_0.Leader, lst cI a_0.InStep, .int .i64 a_0.High, lst Replica.cells a_0.Replicas], .agg [.int .i64 b_1.Epoch, .int .i64 b_1.Leader, lst cI b_1.InStep,
    .int .i64 b_1.High, lst Replica.cells b_1.Replicas]] h (fun v h' => cut h.length h' E.sz false 9 v = some (.bool r)) := by
  refine Ret.of (fn := x12) rfl (Run.of ?_)
  unfold laws_eqGroup at hF
  have zf0 : argFr [.agg [.int .i64 a_0.Epoch, .int .i64 a_0.Leader, lst cI a_0.InStep, .int .i64 a_0.High, lst Replica.cells a_0.Replicas], .agg [.int .i64 b_1.Epoch,
      .int .i64 b_1.Leader, lst cI b_1.InStep, .int .i64 b_1.High, lst Replica.cells b_1.Replicas]] 0 = .agg [.int .i64 a_0.Epoch, .int .i64 a_0.Leader, lst cI a_0.InStep,
      .int .i64 a_0.High, lst Replica.cells a_0.Replicas] := rfl
  have zf1 : argFr [.agg [.int .i64 a_0.Epoch, .int .i64 a_0.Leader, lst cI a_0.InStep, .int .i64 a_0.High, lst Replica.cells a_0.Replicas], .agg [.int .i64 b_1.Epoch,
      .int .i64 b_1.Leader, lst cI b_1.InStep, .int .i64 b_1.High, lst Replica.cells b_1.Replicas]] 1 = .agg [.int .i64 b_1.Epoch, .int .i64 b_1.Leader, lst cI b_1.InStep,
      .int .i64 b_1.High, lst Replica.cells b_1.Replicas] := rfl
  generalize argFr [.agg [.int .i64 a_0.Epoch, .int .i64 a_0.Leader, lst cI a_0.InStep, .int .i64 a_0.High, lst Replica.cells a_0.Replicas], .agg [.int .i64 b_1.Epoch,
      .int .i64 b_1.Leader, lst cI b_1.InStep, .int .i64 b_1.High, lst Replica.cells b_1.Replicas]] = fr0 at zf0 zf1 ⊢
  have hS : Sep h h.length [] := Sep.nil h
  simp only [x12, run_seq, run_reg, run_box, zf0, B0, reduceIte, reduceEqDiff]
  refine put2_boxC (cs := [.int .i64 a_0.Epoch, .int .i64 a_0.Leader, lst cI a_0.InStep, .int .i64 a_0.High, lst Replica.cells a_0.Replicas]) hS rfl rfl rfl (fun b1 h2 hS3 => ?_)
  simp only [run_box, zf1, B0, reduceIte, reduceEqDiff]
  refine put2_boxC (cs := [.int .i64 b_1.Epoch, .int .i64 b_1.Leader, lst cI b_1.InStep, .int .i64 b_1.High, lst Replica.cells b_1.Replicas]) hS3 rfl rfl rfl (fun b5 h6 hS7 => ?_)
  simp only [run_mv, run_ops_nil, B0, reduceIte, reduceEqDiff]
  refine frz_stepC (Sep.m1 hS7) hW (by simp only [B0, reduceIte, reduceEqDiff]) (fun h9 hS10 => ?_)
  refine frz_stepC hS10 hW (by simp only [B0, reduceIte, reduceEqDiff]) (fun h11 hS12 => ?_)
  simp only [run_frz_nil, x12_5, run_seq, run_reg, run_fa, put1_some, Nat.reduceAdd, Nat.zero_add, Nat.add_zero, xfa_ref, run_ld, B0, reduceIte, reduceEqDiff]
  refine put1_eq (v := .int .i64 a_0.Epoch) rfl ?_
  simp only [run_fa, put1_some, Nat.reduceAdd, Nat.zero_add, Nat.add_zero, xfa_ref, run_ld, B0, reduceIte, reduceEqDiff]
  refine put1_eq (v := .int .i64 b_1.Epoch) rfl ?_
  simp only [run_bin, put1_some, xneq, run_ops_nil, run_cond, B0, reduceIte, reduceEqDiff]
  refine cond_split (t := (decide (a_0.Epoch ≠ b_1.Epoch))) (fun hc13 => ?_) (fun hc13 => ?_)
  · rw [iteT hc13] at hF
    simp only [run_seq, run_reg, run_mv, run_ops_nil, run_ret, B0, reduceIte, reduceEqDiff]
    have he := some_inj hF
    subst he
    simp only [end_ret1, B0, reduceIte, reduceEqDiff]
    exact rfl
  rw [iteF hc13] at hF
  simp only [run_skip, x12_4, run_seq, run_reg, run_fa, put1_some, Nat.reduceAdd, Nat.zero_add, Nat.add_zero, xfa_ref, run_ld, B0, reduceIte, reduceEqDiff]
  refine put1_eq (v := .int .i64 a_0.Leader) rfl ?_
  simp only [run_fa, put1_some, Nat.reduceAdd, Nat.zero_add, Nat.add_zero, xfa_ref, run_ld, B0, reduceIte, reduceEqDiff]
  refine put1_eq (v := .int .i64 b_1.Leader) rfl ?_
  simp only [run_bin, put1_some, xneq, run_ops_nil, run_cond, B0, reduceIte, reduceEqDiff]
  refine cond_split (t := (decide (a_0.Leader ≠ b_1.Leader))) (fun hc14 => ?_) (fun hc14 => ?_)
  · rw [iteT hc14] at hF
    simp only [run_seq, run_reg, run_mv, run_ops_nil, run_ret, B0, reduceIte, reduceEqDiff]
    have he := some_inj hF
    subst he
    simp only [end_ret1, B0, reduceIte, reduceEqDiff]
    exact rfl
  rw [iteF hc14] at hF
  simp only [run_skip, x12_3, run_seq, run_reg, run_fa, put1_some, Nat.reduceAdd, Nat.zero_add, Nat.add_zero, xfa_ref, run_ld, B0, reduceIte, reduceEqDiff]
  refine put1_eq (v := lst cI a_0.InStep) rfl ?_
  simp only [run_fa, put1_some, Nat.reduceAdd, Nat.zero_add, Nat.add_zero, xfa_ref, run_ld, B0, reduceIte, reduceEqDiff]
  refine put1_eq (v := lst cI b_1.InStep) rfl ?_
  obtain ⟨v15, hx16, hF17⟩ := bind_some' hF
  simp only [run_call, B0, reduceIte, reduceEqDiff]
  refine call1 rfl (mapM1 snap_lst (mapM1 snap_lst mapM0)) (laws_eqIntS_x (fun b hb => decide_eq_true hb) k a_0.InStep b_1.InStep v15 hx16) ?_
  simp only [run_un, put1_some, xnot, run_ops_nil, run_cond, B0, reduceIte, reduceEqDiff]
  refine cond_split (t := (!v15)) (fun hc18 => ?_) (fun hc18 => ?_)
  · rw [iteT hc18] at hF17
    simp only [run_seq, run_reg, run_mv, run_ops_nil, run_ret, B0, reduceIte, reduceEqDiff]
    have he := some_inj hF17
    subst he
    simp only [end_ret1, B0, reduceIte, reduceEqDiff]
    exact rfl
  rw [iteF hc18] at hF17
  simp only [run_skip, x12_2, run_seq, run_reg, run_fa, put1_some, Nat.reduceAdd, Nat.zero_add, Nat.add_zero, xfa_ref, run_ld, B0, reduceIte, reduceEqDiff]
  refine put1_eq (v := .int .i64 a_0.High) rfl ?_
  simp only [run_fa, put1_some, Nat.reduceAdd, Nat.zero_add, Nat.add_zero, xfa_ref, run_ld, B0, reduceIte, reduceEqDiff]
  refine put1_eq (v := .int .i64 b_1.High) rfl ?_
  simp only [run_bin, put1_some, xneq, run_ops_nil, run_cond, B0, reduceIte, reduceEqDiff]
  refine cond_split (t := (decide (a_0.High ≠ b_1.High))) (fun hc19 => ?_) (fun hc19 => ?_)
  · rw [iteT hc19] at hF17
    simp only [run_seq, run_reg, run_mv, run_ops_nil, run_ret, B0, reduceIte, reduceEqDiff]
    have he := some_inj hF17
    subst he
    simp only [end_ret1, B0, reduceIte, reduceEqDiff]
    exact rfl
  rw [iteF hc19] at hF17
  simp only [run_skip, x12_1, run_seq, run_reg, run_fa, put1_some, Nat.reduceAdd, Nat.zero_add, Nat.add_zero, xfa_ref, run_ld, B0, reduceIte, reduceEqDiff]
  refine put1_eq (v := lst Replica.cells a_0.Replicas) rfl ?_
  simp only [run_fa, put1_some, Nat.reduceAdd, Nat.zero_add, Nat.add_zero, xfa_ref, run_ld, B0, reduceIte, reduceEqDiff]
  refine put1_eq (v := lst Replica.cells b_1.Replicas) rfl ?_
  obtain ⟨v20, hx21, hF22⟩ := bind_some' hF17
  simp only [run_call, B0, reduceIte, reduceEqDiff]
  refine call1 rfl (mapM1 snap_lst (mapM1 snap_lst mapM0)) (laws_eqReplicaS_x (fun b hb => decide_eq_true hb) k a_0.Replicas b_1.Replicas v20 hx21) ?_
  simp only [run_un, put1_some, xnot, run_ops_nil, run_cond, B0, reduceIte, reduceEqDiff]
  refine cond_split (t := (!v20)) (fun hc23 => ?_) (fun hc23 => ?_)
  · rw [iteT hc23] at hF22
    simp only [run_seq, run_reg, run_mv, run_ops_nil, run_ret, B0, reduceIte, reduceEqDiff]
    have he := some_inj hF22
    subst he
    simp only [end_ret1, B0, reduceIte, reduceEqDiff]
    exact rfl
  rw [iteF hc23] at hF22
  simp only [run_skip, run_seq, run_reg, run_mv, run_ops_nil, run_ret, B0, reduceIte, reduceEqDiff]
  have he := some_inj hF22
  subst he
  simp only [end_ret1, B0, reduceIte, reduceEqDiff]
  exact rfl
theorem laws_markIntS_x {W : Nat → Bool} {h : Heap} {lo : Nat} {S0 : List Obj} (hW : ∀ b,
    lo ≤ b → W b = true) (k : Nat) (pv0 : XV) (pc0 : List Obj) (a_0 : List Int) (ph0 : SlF cI 1 3 pv0 a_0 pc0) (k_1 : Int) (r : Int × (List Int))
    (hF : laws_markIntS k a_0 k_1 = some r) (hS : Sep h lo (pc0 ++ (S0))) : Ret E W 58 [pv0, .int .i64 k_1] h (fun v h' => ∃ ic0,
    v = .int .i64 r.1 ∧ SlF cI 1 3 pv0 r.2 ic0 ∧ Sep h' lo (ic0 ++ (S0))) := by
  refine Ret.of (fn := x58) rfl (Run.of ?_)
  unfold laws_markIntS at hF
  have zf0 : argFr [pv0, .int .i64 k_1] 0 = pv0 := rfl
  have zf1 : argFr [pv0, .int .i64 k_1] 1 = .int .i64 k_1 := rfl
  generalize argFr [pv0, .int .i64 k_1] = fr0 at zf0 zf1 ⊢
  simp only [x58, run_seq, run_reg, run_mv, run_ops_nil, x58_6, B0, reduceIte, reduceEqDiff]
  obtain ⟨oc13, hX15, hk16⟩ := jn_some hF
  simp only [x58_5]
  refine loopF_j (σ := Int × Int × (List Int)) (fun s45 => laws_markIntS_b1 s45.1 s45.2.1 s45.2.2) (fun s fr' h' => ∃ c9,
      fr' 0 = pv0 ∧ fr' 1 = .int .i64 s.1 ∧ fr' 5 = .int .i64 s.2.1 ∧ SlF cI 1 3 pv0 s.2.2 c9 ∧ Sep h' lo (c9 ++ (S0))) hX15 ⟨pc0, by simp only [zf0, B0, reduceIte, reduceEqDiff],
      by simp only [zf1, B0, reduceIte, reduceEqDiff], by simp only [B0, reduceIte, reduceEqDiff], ph0, hS⟩ (fun _ _ _ h => h) ?_ ?_
  · rintro ⟨s6, s7, s8⟩ fr25 h26 ⟨c9, f28, f29, f30, hv10, hS27⟩ oc14 hF17 hr18 Q19 hN20 hK21 hR22 hE23
    dsimp only at *
    unfold laws_markIntS_b1 at hF17
    simp only [x58_3, run_seq, run_reg, f30, run_mv, f28, run_len, put1_some, SlF.plen hv10, run_bin, xlss, run_ops_nil, run_cond, B0, reduceIte, reduceEqDiff]
    refine cond_split (t := (decide (s7 < (List.length s8 : Int)))) (fun hc32 => ?_) (fun hc32 => ?_)
    · rw [iteT hc32] at hF17
      obtain ⟨x33, hx34, hF35⟩ := bind_some' hF17
      simp only [run_skip, x58_2, run_seq, run_block, x58_1, run_reg, f28, run_mv, f30, f29, run_ia, B0, reduceIte, reduceEqDiff]
      obtain ⟨b36, hb37⟩ := SlF.isrow hv10 (geti_ne hx34)
      refine put1_eq (SlF.ia hv10 hb37 hx34) ?_
      simp only [run_st, B0, reduceIte, reduceEqDiff]
      refine put2_stF (f := cI) (x' := s6) (o := 0) hv10 hS27 hW hb37 hx34 (fun _ => rfl) rfl rfl (Nat.le_of_ble_eq_true rfl) rfl (fun c40 h38 hv41 hS39 => ?_)
      have hx42 := geti_set (x' := s6) hx34
      simp only [run_ops_nil, run_reg, f29, run_mv, run_bin, put1_some, xadd, run_blk, f30, run_nil, B0, reduceIte, reduceEqDiff]
      have e43 := some_inj hF35
      exact hN20 _ _ _ e43.symm ⟨c40, by simp only [f28, B0, reduceIte, reduceEqDiff], by simp only [B0, reduceIte, reduceEqDiff], by simp only [B0, reduceIte, reduceEqDiff],
          hv41, hS39⟩
    rw [iteF hc32] at hF17
    simp only [run_exit, out_code, out_nil, B0, reduceIte, reduceEqDiff]
    have e44 := some_inj hF17
    exact hK21 _ _ _ e44.symm ⟨c9, by simp only [f28, B0, reduceIte, reduceEqDiff], by simp only [f29, B0, reduceIte, reduceEqDiff], by simp only [f30, B0, reduceIte,
        reduceEqDiff], hv10, hS27⟩
  rintro ⟨s46, s47, s48⟩ fr51 h52 rfl ⟨c49, f54, f55, f56, hv50, hS53⟩
  dsimp only [jnO] at hk16
  dsimp only at *
  unfold laws_markIntS_j1 at hk16
  simp only [run_seq, run_reg, f55, run_mv, run_ops_nil, run_ret, B0, reduceIte, reduceEqDiff]
  have he := some_inj hk16
  subst he
  simp only [end_ret1, B0, reduceIte, reduceEqDiff]
  exact ⟨c49, by first | trivial | rfl, hv50, hS53⟩
theorem laws_markRowS_x {W : Nat → Bool} {h : Heap} {lo : Nat} {S0 : List Obj} (hW : ∀ b,
    lo ≤ b → W b = true) (k : Nat) (pv0 : XV) (pc0 : List Obj) (a_0 : List Row) (ph0 : SlF Row.cells 2 98 pv0 a_0 pc0) (k_1 : Int) (r : Int × (List Row))
    (hF : laws_markRowS k a_0 k_1 = some r) (hS : Sep h lo (pc0 ++ (S0))) : Ret E W 84 [pv0, .int .i64 k_1] h (fun v h' => ∃ ic0,
    v = .int .i64 r.1 ∧ SlF Row.cells 2 98 pv0 r.2 ic0 ∧ Sep h' lo (ic0 ++ (S0))) := by
  refine Ret.of (fn := x84) rfl (Run.of ?_)
  unfold laws_markRowS at hF
  have zf0 : argFr [pv0, .int .i64 k_1] 0 = pv0 := rfl
  have zf1 : argFr [pv0, .int .i64 k_1] 1 = .int .i64 k_1 := rfl
  generalize argFr [pv0, .int .i64 k_1] = fr0 at zf0 zf1 ⊢
  simp only [x84, run_seq, run_reg, run_mv, run_ops_nil, x84_8, B0, reduceIte, reduceEqDiff]
  obtain ⟨oc13, hX15, hk16⟩ := jn_some hF
  simp only [x84_7]
  refine loopF_j (σ := Int × Int × (List Row)) (fun s50 => laws_markRowS_b1 s50.1 s50.2.1 s50.2.2) (fun s fr' h' => ∃ c9,
      fr' 0 = pv0 ∧ fr' 1 = .int .i64 s.1 ∧ fr' 5 = .int .i64 s.2.1 ∧ SlF Row.cells 2 98 pv0 s.2.2 c9 ∧ Sep h' lo (c9 ++ (S0))) hX15 ⟨pc0, by simp only [zf0, B0, reduceIte,
      reduceEqDiff], by simp only [zf1, B0, reduceIte, reduceEqDiff], by simp only [B0, reduceIte, reduceEqDiff], ph0, hS⟩ (fun _ _ _ h => h) ?_ ?_
  · rintro ⟨s6, s7, s8⟩ fr25 h26 ⟨c9, f28, f29, f30, hv10, hS27⟩ oc14 hF17 hr18 Q19 hN20 hK21 hR22 hE23
    dsimp only at *
    unfold laws_markRowS_b1 at hF17
    simp only [x84_5, run_seq, run_reg, f30, run_mv, f28, run_len, put1_some, SlF.plen hv10, run_bin, xlss, run_ops_nil, run_cond, B0, reduceIte, reduceEqDiff]
    refine cond_split (t := (decide (s7 < (List.length s8 : Int)))) (fun hc32 => ?_) (fun hc32 => ?_)
    · rw [iteT hc32] at hF17
      obtain ⟨x33, hx34, hF35⟩ := bind_some' hF17
      simp only [run_skip, x84_4, run_seq, run_block, x84_3, run_reg, f28, run_mv, f30, f29, run_ia, B0, reduceIte, reduceEqDiff]
      obtain ⟨b36, hb37⟩ := SlF.isrow hv10 (geti_ne hx34)
      refine put1_eq (SlF.ia hv10 hb37 hx34) ?_
      simp only [run_fa, put1_some, Nat.reduceAdd, Nat.zero_add, Nat.add_zero, xfa_ptr, run_st, B0, reduceIte, reduceEqDiff]
      refine put2_stF (f := Row.cells) (x' := (Row.mk s6 x33.Value)) (o := 0) hv10 hS27 hW hb37 hx34 (fun _ => rfl) rfl rfl (Nat.le_of_ble_eq_true rfl) rfl
          (fun c40 h38 hv41 hS39 => ?_)
      have hx42 := geti_set (x' := (Row.mk s6 x33.Value)) hx34
      simp only [run_ops_nil, x84_2, run_seq, run_reg, f29, run_mv, run_bin, put1_some, xadd, x84_1, f28, f30, run_ia, B0, reduceIte, reduceEqDiff]
      refine put1_eq (SlF.ia hv41 hb37 hx42) ?_
      simp only [run_fa, put1_some, Nat.reduceAdd, Nat.zero_add, Nat.add_zero, xfa_ptr, run_st, B0, reduceIte, reduceEqDiff]
      refine put2_stF (f := Row.cells) (x' := (Row.mk s6 (IntKind.wrap .i64 (s6 + 1)))) (o := 1) hv41 hS39 hW hb37 hx42 (fun _ => rfl) rfl rfl (Nat.le_of_ble_eq_true rfl) rfl
          (fun c45 h43 hv46 hS44 => ?_)
      rw [List.set_set] at hv46
      have hx47 := geti_set (x' := (Row.mk s6 (IntKind.wrap .i64 (s6 + 1)))) hx34
      simp only [run_ops_nil, run_reg, run_mv, run_bin, put1_some, xadd, run_blk, f30, run_nil, B0, reduceIte, reduceEqDiff]
      have e48 := some_inj hF35
      exact hN20 _ _ _ e48.symm ⟨c45, by simp only [f28, B0, reduceIte, reduceEqDiff], by simp only [B0, reduceIte, reduceEqDiff], by simp only [B0, reduceIte, reduceEqDiff],
          hv46, hS44⟩
    rw [iteF hc32] at hF17
    simp only [run_exit, out_code, out_nil, B0, reduceIte, reduceEqDiff]
    have e49 := some_inj hF17
    exact hK21 _ _ _ e49.symm ⟨c9, by simp only [f28, B0, reduceIte, reduceEqDiff], by simp only [f29, B0, reduceIte, reduceEqDiff], by simp only [f30, B0, reduceIte,
        reduceEqDiff], hv10, hS27⟩
  rintro ⟨s51, s52, s53⟩ fr56 h57 rfl ⟨c54, f59, f60, f61, hv55, hS58⟩
  dsimp only [jnO] at hk16
  dsimp only at *
  unfold laws_markRowS_j1 at hk16
  simp only [run_seq, run_reg, f60, run_mv, run_ops_nil, run_ret, B0, reduceIte, reduceEqDiff]
  have he := some_inj hk16
  subst he
  simp only [end_ret1, B0, reduceIte, reduceEqDiff]
  exact ⟨c54, by first | trivial | rfl, hv55, hS58⟩
theorem laws_markReplicaS_x {W : Nat → Bool} {h : Heap} {lo : Nat} {S0 : List Obj} (hW : ∀ b,
    lo ≤ b → W b = true) (k : Nat) (pv0 : XV) (pc0 : List Obj) (a_0 : List Replica) (ph0 : SlN Replica.R 3 51 pv0 a_0 pc0) (k_1 : Int) (r : Int × (List Replica))
    (hF : laws_markReplicaS k a_0 k_1 = some r) (hS : Sep h lo (pc0 ++ (S0))) : Ret E W 59 [pv0, .int .i64 k_1] h (fun v h' => ∃ ic0,
    v = .int .i64 r.1 ∧ SlN Replica.R 3 51 pv0 r.2 ic0 ∧ Sep h' lo (ic0 ++ (S0))) := by
  refine Ret.of (fn := x59) rfl (Run.of ?_)
  unfold laws_markReplicaS at hF
  have zf0 : argFr [pv0, .int .i64 k_1] 0 = pv0 := rfl
  have zf1 : argFr [pv0, .int .i64 k_1] 1 = .int .i64 k_1 := rfl
  generalize argFr [pv0, .int .i64 k_1] = fr0 at zf0 zf1 ⊢
  simp only [x59, run_seq, run_reg, run_mv, run_ops_nil, x59_9, B0, reduceIte, reduceEqDiff]
  obtain ⟨oc13, hX15, hk16⟩ := jn_some hF
  simp only [x59_8]
  refine loopF_j (σ := Int × Int × (List Replica)) (fun s71 => laws_markReplicaS_b1 k s71.1 s71.2.1 s71.2.2) (fun s fr' h' => ∃ c9,
      fr' 0 = pv0 ∧ fr' 1 = .int .i64 s.1 ∧ fr' 5 = .int .i64 s.2.1 ∧ SlN Replica.R 3 51 pv0 s.2.2 c9 ∧ Sep h' lo (c9 ++ (S0))) hX15 ⟨pc0, by simp only [zf0, B0, reduceIte,
      reduceEqDiff], by simp only [zf1, B0, reduceIte, reduceEqDiff], by simp only [B0, reduceIte, reduceEqDiff], ph0, hS⟩ (fun _ _ _ h => h) ?_ ?_
  · rintro ⟨s6, s7, s8⟩ fr25 h26 ⟨c9, f28, f29, f30, hv10, hS27⟩ oc14 hF17 hr18 Q19 hN20 hK21 hR22 hE23
    dsimp only at *
    unfold laws_markReplicaS_b1 at hF17
    simp only [x59_6, run_seq, run_reg, f30, run_mv, f28, run_len, put1_some, SlN.len hv10, run_bin, xlss, run_ops_nil, run_cond, B0, reduceIte, reduceEqDiff]
    refine cond_split (t := (decide (s7 < (List.length s8 : Int)))) (fun hc32 => ?_) (fun hc32 => ?_)
    · rw [iteT hc32] at hF17
      obtain ⟨x33, hx34, hF35⟩ := bind_some' hF17
      simp only [run_skip, x59_5, run_seq, run_block, x59_4, run_reg, f28, run_mv, f30, run_ia, B0, reduceIte, reduceEqDiff]
      obtain ⟨b36, hb37⟩ := SlN.isrow hv10 (geti_ne hx34)
      refine put1_eq (SlN.ia hv10 hb37 hx34) ?_
      obtain ⟨c38, cs39, os40, hv41, hR42, hS43⟩ := SlG.opn (SlN.toG hv10 hb37 Replica.RO.len) hx34 hk_nil Replica.RO.len hS27
      obtain ⟨v45, c46, hv47, rfl, rfl⟩ := hR42
      have hS44 := Sep.no1 hS43
      simp only [run_fa, put1_some, Nat.reduceAdd, Nat.zero_add, Nat.add_zero, xfa_ptr, run_ld, B0, reduceIte, reduceEqDiff]
      refine put1_eq (v := v45) ((SlG.ld (o := 0) hv41 rfl hx34 hS44 (Nat.le_of_ble_eq_true rfl)).trans rfl) ?_
      obtain ⟨v49, hx50, hF51⟩ := bind_some' hF35
      simp only [f29, run_mv, run_call, B0, reduceIte, reduceEqDiff]
      refine call0 rfl (laws_markRowS_x hW k v45 c46 x33.Log hv47 s6 v49 hx50 (Sep.m1 hS44)) ?_
      rintro _ h54 ⟨c52, rfl, hv53, hS55⟩
      simp only [run_mv, run_ops_nil, x59_3, run_seq, run_reg, f28, f30, run_ia, B0, reduceIte, reduceEqDiff]
      refine put1_eq (SlG.ia hv41 hx34) ?_
      simp only [run_fa, put1_some, Nat.reduceAdd, Nat.zero_add, Nat.add_zero, xfa_ptr, run_st, B0, reduceIte, reduceEqDiff]
      refine put2_stGx (us := [.int .i64 v49.1]) (o := 1) (cs' := [v45, .int .i64 v49.1,
          .int .i64 x33.Known]) rfl hv41 rfl hx34 (Sep.m1 hS55) hW rfl rfl (Nat.le_of_ble_eq_true rfl) rfl (fun c58 h56 hv59 hS57 => ?_)
      simp only [run_ops_nil, x59_2, run_seq, run_reg, run_mv, run_bin, put1_some, xadd, x59_1, f28, f30, run_ia, B0, reduceIte, reduceEqDiff]
      refine put1_eq (SlG.ia hv59 hx34) ?_
      simp only [run_fa, put1_some, Nat.reduceAdd, Nat.zero_add, Nat.add_zero, xfa_ptr, run_st, B0, reduceIte, reduceEqDiff]
      refine put2_stGx (us := [.int .i64 (IntKind.wrap .i64 (v49.1 + 1))]) (o := 2) (cs' := [v45, .int .i64 v49.1,
          .int .i64 (IntKind.wrap .i64 (v49.1 + 1))]) rfl hv59 rfl hx34 hS57 hW rfl rfl (Nat.le_of_ble_eq_true rfl) rfl (fun c62 h60 hv63 hS61 => ?_)
      simp only [run_ops_nil, run_reg, run_mv, run_bin, put1_some, xadd, run_blk, f30, run_nil, B0, reduceIte, reduceEqDiff]
      obtain ⟨c64, hv65, hS66⟩ := SlG.cls (e' := (Replica.mk v49.2 v49.1 (IntKind.wrap .i64 (v49.1 + 1)))) (c := c62) (os := c52) hv63 rfl hx34 hk_nil (Replica.RI (x :=
          (Replica.mk v49.2 v49.1 (IntKind.wrap .i64 (v49.1 + 1)))) hv53) (Sep.m1 (Sep.m1 hS61))
      have hx67 := geti_set (x' := (Replica.mk v49.2 v49.1 (IntKind.wrap .i64 (v49.1 + 1)))) hx34
      have hv68 := SlG.toN hv65
      have e69 := some_inj hF51
      exact hN20 _ _ _ e69.symm ⟨c64, by simp only [f28, B0, reduceIte, reduceEqDiff], by simp only [B0, reduceIte, reduceEqDiff], by simp only [B0, reduceIte, reduceEqDiff],
          hv68, hS66⟩
    rw [iteF hc32] at hF17
    simp only [run_exit, out_code, out_nil, B0, reduceIte, reduceEqDiff]
    have e70 := some_inj hF17
    exact hK21 _ _ _ e70.symm ⟨c9, by simp only [f28, B0, reduceIte, reduceEqDiff], by simp only [f29, B0, reduceIte, reduceEqDiff], by simp only [f30, B0, reduceIte,
        reduceEqDiff], hv10, hS27⟩
  rintro ⟨s72, s73, s74⟩ fr77 h78 rfl ⟨c75, f80, f81, f82, hv76, hS79⟩
  dsimp only [jnO] at hk16
  dsimp only at *
  unfold laws_markReplicaS_j1 at hk16
  simp only [run_seq, run_reg, f81, run_mv, run_ops_nil, run_ret, B0, reduceIte, reduceEqDiff]
  have he := some_inj hk16
  subst he
  simp only [end_ret1, B0, reduceIte, reduceEqDiff]
  exact ⟨c75, by first | trivial | rfl, hv76, hS79⟩
end Go.Proofs.Ytefgfcalgjmhjaa.X
