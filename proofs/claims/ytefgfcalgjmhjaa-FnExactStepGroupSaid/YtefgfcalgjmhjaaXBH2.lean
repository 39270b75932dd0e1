/- The functions' code comes to what the plain functions say (2). -/
import Derived.Test.YtefgfcalgjmhjaaXBH1
set_option linter.unusedVariables false
set_option linter.unusedSimpArgs false
set_option maxRecDepth 100000
namespace Go.Proofs.Ytefgfcalgjmhjaa.X
open Go
open Nat (reduceEqDiff)
theorem slices_Index_int_x {W : Nat → Bool} {h : Heap} (hW : ∀ b,
    (geL h.length) b → W b = true) (s_0 : List Int) (v_1 : Int) (r : Int) (hF : slices_Index_int s_0 v_1 = some r) : Ret E W 94 [lst cI s_0,
    .int .i64 v_1] h (fun v h' => cut h.length h' E.sz false 9 v = some (.int .i64 r)) := by
  refine Ret.of (fn := x94) rfl (Run.of ?_)
  unfold slices_Index_int at hF
  have zf0 : argFr [lst cI s_0, .int .i64 v_1] 0 = lst cI s_0 := rfl
  have zf1 : argFr [lst cI s_0, .int .i64 v_1] 1 = .int .i64 v_1 := rfl
  generalize argFr [lst cI s_0, .int .i64 v_1] = fr0 at zf0 zf1 ⊢
  have hS : Sep h (geL h.length) [] := Sep.nil h
  simp only [x94, run_seq, run_reg, run_mv, run_ops_nil, x94_6, zf0, run_len, put1_some, xlen_lst, B0, reduceIte, reduceEqDiff]
  obtain ⟨oc3, hX5, hk6⟩ := jn_some hF
  simp only [x94_5]
  refine rangeL_j (σ := Unit) s_0 (fun i1 x2 _ => slices_Index_int_b1 v_1 i1 x2 ) (fun s fr' h' => fr' 0 = lst cI s_0 ∧ fr' 1 = .int .i64 v_1 ∧ Sep h' (geL h.length)
      ([])) hX5 ⟨zf0, zf1, hS⟩ (by simp only [B0, reduceIte, reduceEqDiff]) (by simp only [B0, reduceIte,
      reduceEqDiff]) (fun _ _ _ h => h) rfl rfl (fun _ _ _ _ h => h) (fun _ _ _ _ h => h) (fun _ _ _ _ h => h) (by decide) ?_ ?_
  · rintro i1 x2 _ fr15 h16 hx20 ⟨f18, f19, hS17⟩ f21 f22 oc4 hF7 hr8 Q9 hN10 hB14 hK11 hR12 hE13
    unfold slices_Index_int_b1 at hF7
    simp only [x94_3, run_seq, run_reg, f21, run_mv, run_ops_nil, x94_2, f19, f18, run_ia, B0, reduceIte, reduceEqDiff]
    refine put1_eq (v := .ref (cI x2) 0) (xia_lstN hx20 rfl) ?_
    simp only [run_ld, B0, reduceIte, reduceEqDiff]
    refine put1_eq (v := .int .i64 x2) rfl ?_
    simp only [run_bin, put1_some, xeql, run_ops_nil, x94_1, run_cond, B0, reduceIte, reduceEqDiff]
    refine cond_split (t := (decide (v_1 = x2))) (fun hc23 => ?_) (fun hc23 => ?_)
    · rw [iteT hc23] at hF7
      simp only [run_seq, run_reg, run_mv, run_ops_nil, run_ret, B0, reduceIte, reduceEqDiff]
      have e24 := some_inj hF7
      subst e24
      have ho25 := hr8 _ rfl
      have hk26 := hk6
      rw [ho25] at hk26
      dsimp only [jnO] at hk26
      apply hR12
      have he := some_inj hk26
      subst he
      simp only [end_ret1, B0, reduceIte, reduceEqDiff]
      exact rfl
    rw [iteF hc23] at hF7
    simp only [run_skip, run_nil, B0, reduceIte, reduceEqDiff]
    have e27 := some_inj hF7
    exact hN10 _ _ _ e27.symm ⟨f18, f19, hS17⟩ (f21) (f22)
  rintro _ fr29 h30 rfl ⟨f32, f33, hS31⟩
  dsimp only [jnO] at hk6
  unfold slices_Index_int_j1 at hk6
  simp only [run_seq, run_reg, run_mv, run_ops_nil, run_ret, B0, reduceIte, reduceEqDiff]
  have he := some_inj hk6
  subst he
  simp only [end_ret1, B0, reduceIte, reduceEqDiff]
  exact rfl
theorem slices_Contains_int_x {W : Nat → Bool} {h : Heap} (hW : ∀ b,
    (geL h.length) b → W b = true) (s_0 : List Int) (v_1 : Int) (r : Bool) (hF : slices_Contains_int s_0 v_1 = some r) : Ret E W 81 [lst cI s_0,
    .int .i64 v_1] h (fun v h' => cut h.length h' E.sz false 9 v = some (.bool r)) := by
  refine Ret.of (fn := x81) rfl (Run.of ?_)
  unfold slices_Contains_int at hF
  have zf0 : argFr [lst cI s_0, .int .i64 v_1] 0 = lst cI s_0 := rfl
  have zf1 : argFr [lst cI s_0, .int .i64 v_1] 1 = .int .i64 v_1 := rfl
  generalize argFr [lst cI s_0, .int .i64 v_1] = fr0 at zf0 zf1 ⊢
  have hS : Sep h (geL h.length) [] := Sep.nil h
  obtain ⟨v1, hx2, hF3⟩ := bind_some' hF
  simp only [x81, run_seq, run_reg, run_mv, run_ops_nil, x81_1, zf0, zf1, run_call, B0, reduceIte, reduceEqDiff]
  refine call1 rfl (mapM1 snap_lst (mapM1 snap_int mapM0)) (slices_Index_int_x (fun b hb => decide_eq_true hb) s_0 v_1 v1 hx2) ?_
  simp only [run_bin, put1_some, xgeq, run_mv, run_ops_nil, run_ret, B0, reduceIte, reduceEqDiff]
  have he := some_inj hF3
  subst he
  simp only [end_ret1, B0, reduceIte, reduceEqDiff]
  exact rfl
theorem impl_isRows_x {W : Nat → Bool} {h : Heap} (hW : ∀ b,
    (geL h.length) b → W b = true) (l_0 : List Row) (most_1 : Int) (r : Bool) (hF : impl_isRows l_0 most_1 = some r) : Ret E W 82 [lst Row.cells l_0,
    .int .i64 most_1] h (fun v h' => cut h.length h' E.sz false 9 v = some (.bool r)) := by
  refine Ret.of (fn := x82) rfl (Run.of ?_)
  unfold impl_isRows at hF
  have zf0 : argFr [lst Row.cells l_0, .int .i64 most_1] 0 = lst Row.cells l_0 := rfl
  have zf1 : argFr [lst Row.cells l_0, .int .i64 most_1] 1 = .int .i64 most_1 := rfl
  generalize argFr [lst Row.cells l_0, .int .i64 most_1] = fr0 at zf0 zf1 ⊢
  have hS : Sep h (geL h.length) [] := Sep.nil h
  simp only [x82, run_seq, run_reg, run_mv, run_ops_nil, x82_7, x82_6, zf0, run_len, put1_some, xlen_lst, B0, reduceIte, reduceEqDiff]
  obtain ⟨oc5, hX7, hk8⟩ := jn_some hF
  simp only [x82_4]
  refine rangeL_j (σ := Int) l_0 (fun i3 x4 s53 => impl_isRows_b1 most_1 i3 x4 s53)
      (fun s fr' h' => fr' 0 = lst Row.cells l_0 ∧ fr' 1 = .int .i64 most_1 ∧ fr' 5 = .int .i64 s ∧ fr' 8 = lst Row.cells l_0 ∧ Sep h' (geL h.length) ([])) hX7 ⟨zf0, zf1, rfl,
      rfl, hS⟩ (by simp only [B0, reduceIte, reduceEqDiff]) (by simp only [B0, reduceIte,
      reduceEqDiff]) (fun _ _ _ h => h) rfl rfl (fun _ _ _ _ h => h) (fun _ _ _ _ h => h) (fun _ _ _ _ h => h) (by decide) ?_ ?_
  · rintro i3 x4 s2 fr17 h18 hx24 ⟨f20, f21, f22, f23, hS19⟩ f25 f26 oc6 hF9 hr10 Q11 hN12 hB16 hK13 hR14 hE15
    unfold impl_isRows_b1 at hF9
    simp only [x82_2, run_seq, run_reg, f23, f25, run_ia, B0, reduceIte, reduceEqDiff]
    refine put1_eq (v := .ref (Row.cells x4) 0) (xia_lstN hx24 rfl) ?_
    simp only [run_ld, B0, reduceIte, reduceEqDiff]
    refine put1_eq (v := .agg [.int .i64 x4.Epoch, .int .i64 x4.Value]) rfl ?_
    simp only [run_new, B0, reduceIte, reduceEqDiff]
    refine put2_newC hS19 (fun b27 h28 hS29 => ?_)
    simp only [run_st, B0, reduceIte, reduceEqDiff]
    refine put2_stCx (us := [.int .i64 x4.Epoch, .int .i64 x4.Value]) rfl (cs' := [.int .i64 x4.Epoch,
        .int .i64 x4.Value]) hS29 hW rfl rfl (Nat.le_of_ble_eq_true rfl) rfl (fun h31 hS32 => ?_)
    simp only [run_ops_nil, B0, reduceIte, reduceEqDiff]
    refine frz_stepC hS32 hW (by simp only [B0, reduceIte, reduceEqDiff]) (fun h33 hS34 => ?_)
    simp only [run_frz_nil, x82_1, run_seq, run_reg, run_fa, put1_some, Nat.reduceAdd, Nat.zero_add, Nat.add_zero, xfa_ref, run_ld, B0, reduceIte, reduceEqDiff]
    refine put1_eq (v := .int .i64 x4.Epoch) rfl ?_
    simp only [f22, run_mv, f21, run_call, B0, reduceIte, reduceEqDiff]
    refine call1 rfl (mapM1 snap_int (mapM1 snap_int (mapM1 snap_int mapM0))) (impl_in_x (fun b hb => decide_eq_true hb) x4.Epoch s2 most_1 _ rfl) ?_
    simp only [run_un, put1_some, xnot, run_mv, B0, reduceIte, reduceEqDiff]
    refine ops_j 5 (fun fr' h' => Sep h' (geL h.length) ([]) ∧ fr' 25 = .bool ((!(impl_in x4.Epoch s2 most_1)) ||
        (!(impl_in x4.Value 0 99))) ∧ fr' 0 = lst Row.cells l_0 ∧ fr' 1 = .int .i64 most_1 ∧ fr' 7 = .ref [.int .i64 x4.Epoch,
        .int .i64 x4.Value] 0 ∧ fr' 8 = lst Row.cells l_0 ∧ fr' 9 = .int .i64 (List.length l_0 : Int) ∧ fr' 10 = .int .i64 (i3 : Int)) (fun Q35 hN36 => ?_) ?_
    · simp only [List.take_succ_cons, List.take_zero]
      simp only [run_guard (g := 20), B0, reduceIte, reduceEqDiff]
      refine guard_split (t := (!(impl_in x4.Epoch s2 most_1))) (fun hg37 => ?_) (fun hg37 => ?_)
      · simp only [hg37, run_guard (g := 20), guard_off', run_pick, put1_some, xpick_t, run_ops_nil, run_nil, B0, reduceIte, reduceEqDiff]
        exact hN36 _ _ ⟨hS34, by rw [orT hg37]; simp only [B0, reduceIte, reduceEqDiff], f20, f21, rfl, f23, f26, f25⟩
      · simp only [hg37, run_guard (g := 20), guard_false, run_fa, put1_some, Nat.reduceAdd, Nat.zero_add, Nat.add_zero, xfa_ref, run_ld, B0, reduceIte, reduceEqDiff]
        refine put1_eq (v := .int .i64 x4.Value) rfl ?_
        simp only [hg37, run_guard (g := 20), guard_false, run_call, B0, reduceIte, reduceEqDiff]
        refine call1 rfl (mapM1 snap_int (mapM1 snap_int (mapM1 snap_int mapM0))) (impl_in_x (fun b hb => decide_eq_true hb) x4.Value 0 99 _ rfl) ?_
        simp only [hg37, run_guard (g := 20), guard_false, run_un, put1_some, xnot, run_pick, xpick_f, run_ops_nil, run_nil, B0, reduceIte, reduceEqDiff]
        exact hN36 _ _ ⟨hS34, by rw [orF hg37]; simp only [B0, reduceIte, reduceEqDiff], f20, f21, rfl, f23, f26, f25⟩
    rintro fr38 h46 ⟨hS47, f39, f40, f41, f42, f43, f44, f45⟩
    simp only [List.drop_succ_cons, List.drop_zero]
    simp only [run_ops_nil, f39, run_cond, B0, reduceIte, reduceEqDiff]
    refine cond_split (t := ((!(impl_in x4.Epoch s2 most_1)) || (!(impl_in x4.Value 0 99)))) (fun hc48 => ?_) (fun hc48 => ?_)
    · rw [iteT hc48] at hF9
      simp only [run_seq, run_reg, run_mv, run_ops_nil, run_ret, B0, reduceIte, reduceEqDiff]
      have e49 := some_inj hF9
      subst e49
      have ho50 := hr10 _ rfl
      have hk51 := hk8
      rw [ho50] at hk51
      dsimp only [jnO] at hk51
      apply hR14
      have he := some_inj hk51
      subst he
      simp only [end_ret1, B0, reduceIte, reduceEqDiff]
      exact rfl
    rw [iteF hc48] at hF9
    simp only [run_skip, run_reg, f42, run_fa, put1_some, Nat.reduceAdd, Nat.zero_add, Nat.add_zero, xfa_ref, run_ld, B0, reduceIte, reduceEqDiff]
    refine put1_eq (v := .int .i64 x4.Epoch) rfl ?_
    simp only [run_mv, run_ops_nil, run_nil, B0, reduceIte, reduceEqDiff]
    have e52 := some_inj hF9
    exact hN12 _ _ _ e52.symm ⟨f40, f41, rfl, f43, hS47⟩ (f45) (f44)
  rintro s54 fr55 h56 rfl ⟨f58, f59, f60, f61, hS57⟩
  dsimp only [jnO] at hk8
  unfold impl_isRows_j1 at hk8
  simp only [x82_5, run_seq, run_reg, f58, run_mv, run_len, put1_some, xlen_lst, run_bin, xleq, run_ops_nil, run_ret, B0, reduceIte, reduceEqDiff]
  have he := some_inj hk8
  subst he
  simp only [end_ret1, B0, reduceIte, reduceEqDiff]
  exact rfl
theorem impl_isGroup_x {W : Nat → Bool} {h : Heap} (hW : ∀ b,
    (geL h.length) b → W b = true) (k : Nat) (v_0 : Group) (r : Bool) (hF : impl_isGroup k v_0 = some r) : Ret E W 52 [.agg [.int .i64 v_0.Epoch, .int .i64 v_0.Leader,
    lst cI v_0.InStep, .int .i64 v_0.High, lst Replica.cells v_0.Replicas]] h (fun v h' => cut h.length h' E.sz false 9 v = some (.bool r)) := by
  refine Ret.of (fn := x52) rfl (Run.of ?_)
  unfold impl_isGroup at hF
  have zf0 : argFr [.agg [.int .i64 v_0.Epoch, .int .i64 v_0.Leader, lst cI v_0.InStep, .int .i64 v_0.High, lst Replica.cells v_0.Replicas]] 0 = .agg [.int .i64 v_0.Epoch,
      .int .i64 v_0.Leader, lst cI v_0.InStep, .int .i64 v_0.High, lst Replica.cells v_0.Replicas] := rfl
  generalize argFr [.agg [.int .i64 v_0.Epoch, .int .i64 v_0.Leader, lst cI v_0.InStep, .int .i64 v_0.High, lst Replica.cells v_0.Replicas]] = fr0 at zf0 ⊢
  have hS : Sep h (geL h.length) [] := Sep.nil h
  simp only [x52, run_seq, run_reg, run_box, zf0, B0, reduceIte, reduceEqDiff]
  refine put2_boxC (cs := [.int .i64 v_0.Epoch, .int .i64 v_0.Leader, lst cI v_0.InStep, .int .i64 v_0.High, lst Replica.cells v_0.Replicas]) hS rfl rfl rfl (fun b1 h2 hS3 => ?_)
  simp only [run_mv, run_ops_nil, B0, reduceIte, reduceEqDiff]
  refine frz_stepC hS3 hW (by simp only [B0, reduceIte, reduceEqDiff]) (fun h5 hS6 => ?_)
  simp only [run_frz_nil, x52_8, run_seq, run_reg, run_fa, put1_some, Nat.reduceAdd, Nat.zero_add, Nat.add_zero, xfa_ref, run_ld, B0, reduceIte, reduceEqDiff]
  refine put1_eq (v := lst Replica.cells v_0.Replicas) rfl ?_
  simp only [run_len, put1_some, xlen_lst, run_mv, run_ops_nil, x52_7, run_seq, run_reg, run_call, B0, reduceIte, reduceEqDiff]
  refine call1 rfl (mapM1 snap_int (mapM1 snap_int (mapM1 snap_int mapM0))) (impl_in_x (fun b hb => decide_eq_true hb) (List.length v_0.Replicas : Int) 2 4 _ rfl) ?_
  simp only [run_un, put1_some, xnot, run_mv, B0, reduceIte, reduceEqDiff]
  refine ops_j 5 (fun fr' h' => Sep h' (geL h.length) ([]) ∧ fr' 17 = .bool ((!(impl_in (List.length v_0.Replicas : Int) 2 4)) ||
      (!(impl_in v_0.Epoch 0 100))) ∧ fr' 1 = .ref [.int .i64 v_0.Epoch, .int .i64 v_0.Leader, lst cI v_0.InStep, .int .i64 v_0.High,
      lst Replica.cells v_0.Replicas] 0 ∧ fr' 3 = .int .i64 (List.length v_0.Replicas : Int)) (fun Q7 hN8 => ?_) ?_
  · simp only [List.take_succ_cons, List.take_zero]
    simp only [run_guard (g := 12), B0, reduceIte, reduceEqDiff]
    refine guard_split (t := (!(impl_in (List.length v_0.Replicas : Int) 2 4))) (fun hg9 => ?_) (fun hg9 => ?_)
    · simp only [hg9, run_guard (g := 12), guard_off', run_pick, put1_some, xpick_t, run_ops_nil, run_nil, B0, reduceIte, reduceEqDiff]
      exact hN8 _ _ ⟨hS6, by rw [orT hg9]; simp only [B0, reduceIte, reduceEqDiff], rfl, rfl⟩
    · simp only [hg9, run_guard (g := 12), guard_false, run_fa, put1_some, Nat.reduceAdd, Nat.zero_add, Nat.add_zero, xfa_ref, run_ld, B0, reduceIte, reduceEqDiff]
      refine put1_eq (v := .int .i64 v_0.Epoch) rfl ?_
      simp only [hg9, run_guard (g := 12), guard_false, run_call, B0, reduceIte, reduceEqDiff]
      refine call1 rfl (mapM1 snap_int (mapM1 snap_int (mapM1 snap_int mapM0))) (impl_in_x (fun b hb => decide_eq_true hb) v_0.Epoch 0 100 _ rfl) ?_
      simp only [hg9, run_guard (g := 12), guard_false, run_un, put1_some, xnot, run_pick, xpick_f, run_ops_nil, run_nil, B0, reduceIte, reduceEqDiff]
      exact hN8 _ _ ⟨hS6, by rw [orF hg9]; simp only [B0, reduceIte, reduceEqDiff], rfl, rfl⟩
  rintro fr10 h14 ⟨hS15, f11, f12, f13⟩
  simp only [List.drop_succ_cons, List.drop_zero]
  simp only [f11, run_mv, B0, reduceIte, reduceEqDiff]
  refine ops_j 7 (fun fr' h' => Sep h' (geL h.length) ([]) ∧ fr' 25 = .bool (((!(impl_in (List.length v_0.Replicas : Int) 2 4)) || (!(impl_in v_0.Epoch 0 100))) ||
      (!(impl_in v_0.Leader 0 (IntKind.wrap .i64 ((List.length v_0.Replicas : Int) - 1))))) ∧ fr' 1 = .ref [.int .i64 v_0.Epoch, .int .i64 v_0.Leader, lst cI v_0.InStep,
      .int .i64 v_0.High, lst Replica.cells v_0.Replicas] 0 ∧ fr' 3 = .int .i64 (List.length v_0.Replicas : Int)) (fun Q16 hN17 => ?_) ?_
  · simp only [List.take_succ_cons, List.take_zero]
    simp only [run_guard (g := 18), B0, reduceIte, reduceEqDiff]
    refine guard_split (t := ((!(impl_in (List.length v_0.Replicas : Int) 2 4)) || (!(impl_in v_0.Epoch 0 100)))) (fun hg18 => ?_) (fun hg18 => ?_)
    · simp only [hg18, run_guard (g := 18), guard_off', run_pick, put1_some, xpick_t, run_ops_nil, run_nil, B0, reduceIte, reduceEqDiff]
      exact hN17 _ _ ⟨hS15, by rw [orT hg18]; simp only [B0, reduceIte, reduceEqDiff], f12, f13⟩
    · simp only [hg18, run_guard (g := 18), guard_false, f12, run_fa, put1_some, Nat.reduceAdd, Nat.zero_add, Nat.add_zero, xfa_ref, run_ld, B0, reduceIte, reduceEqDiff]
      refine put1_eq (v := .int .i64 v_0.Leader) rfl ?_
      simp only [hg18, run_guard (g := 18), guard_false, f13, run_mv, run_bin, put1_some, xsub, run_call, B0, reduceIte, reduceEqDiff]
      refine call1 rfl (mapM1 snap_int (mapM1 snap_int (mapM1 snap_int mapM0))) (impl_in_x (fun b hb => decide_eq_true hb) v_0.Leader 0 (IntKind.wrap .i64
          ((List.length v_0.Replicas : Int) - 1)) _ rfl) ?_
      simp only [hg18, run_guard (g := 18), guard_false, run_un, put1_some, xnot, run_pick, xpick_f, run_ops_nil, run_nil, B0, reduceIte, reduceEqDiff]
      exact hN17 _ _ ⟨hS15, by rw [orF hg18]; simp only [B0, reduceIte, reduceEqDiff], f12, f13⟩
  rintro fr19 h23 ⟨hS24, f20, f21, f22⟩
  simp only [List.drop_succ_cons, List.drop_zero]
  simp only [f20, run_mv, B0, reduceIte, reduceEqDiff]
  obtain ⟨v28, hx29, hF30⟩ := bind_some' hF
  refine ops_j 6 (fun fr' h' => Sep h' (geL h.length) ([]) ∧ fr' 32 = .bool v28 ∧ fr' 1 = .ref [.int .i64 v_0.Epoch, .int .i64 v_0.Leader, lst cI v_0.InStep, .int .i64 v_0.High,
      lst Replica.cells v_0.Replicas] 0) (fun Q25 hN26 => ?_) ?_
  · simp only [List.take_succ_cons, List.take_zero]
    simp only [run_guard (g := 26), B0, reduceIte, reduceEqDiff]
    refine guard_split (t := (((!(impl_in (List.length v_0.Replicas : Int) 2 4)) || (!(impl_in v_0.Epoch 0 100))) || (!(impl_in v_0.Leader 0 (IntKind.wrap .i64
        ((List.length v_0.Replicas : Int) - 1)))))) (fun hg27 => ?_) (fun hg27 => ?_)
    · rw [iteT hg27] at hx29
      simp only [hg27, run_guard (g := 26), guard_off', run_pick, put1_some, xpick_t, run_ops_nil, run_nil, B0, reduceIte, reduceEqDiff]
      have e31 := some_inj hx29
      exact hN26 _ _ ⟨hS24, by rw [← e31]; simp only [B0, reduceIte, reduceEqDiff], f21⟩
    · rw [iteF hg27] at hx29
      simp only [hg27, run_guard (g := 26), guard_false, f21, run_fa, put1_some, Nat.reduceAdd, Nat.zero_add, Nat.add_zero, xfa_ref, run_ld, B0, reduceIte, reduceEqDiff]
      refine put1_eq (v := lst cI v_0.InStep) rfl ?_
      obtain ⟨v32, hx33, hF34⟩ := bind_some' hx29
      simp only [hg27, run_guard (g := 26), guard_false, f22, run_mv, run_call, B0, reduceIte, reduceEqDiff]
      refine call1 rfl (mapM1 snap_lst (mapM1 snap_int mapM0)) (impl_areMembers_x (fun b hb => decide_eq_true hb) v_0.InStep (List.length v_0.Replicas : Int) v32 hx33) ?_
      simp only [hg27, run_guard (g := 26), guard_false, run_un, put1_some, xnot, run_pick, xpick_f, run_ops_nil, run_nil, B0, reduceIte, reduceEqDiff]
      have e35 := some_inj hF34
      exact hN26 _ _ ⟨hS24, by rw [← e35]; simp only [B0, reduceIte, reduceEqDiff], f21⟩
  rintro fr36 h39 ⟨hS40, f37, f38⟩
  simp only [List.drop_succ_cons, List.drop_zero]
  simp only [f37, run_mv, B0, reduceIte, reduceEqDiff]
  obtain ⟨v44, hx45, hF46⟩ := bind_some' hF30
  refine ops_j 7 (fun fr' h' => Sep h' (geL h.length) ([]) ∧ fr' 40 = .bool v44 ∧ fr' 1 = .ref [.int .i64 v_0.Epoch, .int .i64 v_0.Leader, lst cI v_0.InStep, .int .i64 v_0.High,
      lst Replica.cells v_0.Replicas] 0) (fun Q41 hN42 => ?_) ?_
  · simp only [List.take_succ_cons, List.take_zero]
    simp only [run_guard (g := 33), B0, reduceIte, reduceEqDiff]
    refine guard_split (t := v28) (fun hg43 => ?_) (fun hg43 => ?_)
    · rw [iteT hg43] at hx45
      simp only [hg43, run_guard (g := 33), guard_off', run_pick, put1_some, xpick_t, run_ops_nil, run_nil, B0, reduceIte, reduceEqDiff]
      have e47 := some_inj hx45
      exact hN42 _ _ ⟨hS40, by rw [← e47]; simp only [B0, reduceIte, reduceEqDiff], f38⟩
    · rw [iteF hg43] at hx45
      simp only [hg43, run_guard (g := 33), guard_false, f38, run_fa, put1_some, Nat.reduceAdd, Nat.zero_add, Nat.add_zero, xfa_ref, run_ld, B0, reduceIte, reduceEqDiff]
      refine put1_eq (v := lst cI v_0.InStep) rfl ?_
      simp only [hg43, run_guard (g := 33), guard_false, f38, run_fa, put1_some, Nat.reduceAdd, Nat.zero_add, Nat.add_zero, xfa_ref, run_ld, B0, reduceIte, reduceEqDiff]
      refine put1_eq (v := .int .i64 v_0.Leader) rfl ?_
      obtain ⟨v48, hx49, hF50⟩ := bind_some' hx45
      simp only [hg43, run_guard (g := 33), guard_false, run_call, B0, reduceIte, reduceEqDiff]
      refine call1 rfl (mapM1 snap_lst (mapM1 snap_int mapM0)) (slices_Contains_int_x (fun b hb => decide_eq_true hb) v_0.InStep v_0.Leader v48 hx49) ?_
      simp only [hg43, run_guard (g := 33), guard_false, run_un, put1_some, xnot, run_pick, xpick_f, run_ops_nil, run_nil, B0, reduceIte, reduceEqDiff]
      have e51 := some_inj hF50
      exact hN42 _ _ ⟨hS40, by rw [← e51]; simp only [B0, reduceIte, reduceEqDiff], f38⟩
  rintro fr52 h55 ⟨hS56, f53, f54⟩
  simp only [List.drop_succ_cons, List.drop_zero]
  simp only [f53, run_mv, B0, reduceIte, reduceEqDiff]
  refine ops_j 4 (fun fr' h' => Sep h' (geL h.length) ([]) ∧ fr' 45 = .bool (v44 || (decide (v_0.High < 0))) ∧ fr' 1 = .ref [.int .i64 v_0.Epoch, .int .i64 v_0.Leader,
      lst cI v_0.InStep, .int .i64 v_0.High, lst Replica.cells v_0.Replicas] 0) (fun Q57 hN58 => ?_) ?_
  · simp only [List.take_succ_cons, List.take_zero]
    simp only [run_guard (g := 41), B0, reduceIte, reduceEqDiff]
    refine guard_split (t := v44) (fun hg59 => ?_) (fun hg59 => ?_)
    · simp only [hg59, run_guard (g := 41), guard_off', run_pick, put1_some, xpick_t, run_ops_nil, run_nil, B0, reduceIte, reduceEqDiff]
      exact hN58 _ _ ⟨hS56, by rw [orT hg59]; simp only [B0, reduceIte, reduceEqDiff], f54⟩
    · simp only [hg59, run_guard (g := 41), guard_false, f54, run_fa, put1_some, Nat.reduceAdd, Nat.zero_add, Nat.add_zero, xfa_ref, run_ld, B0, reduceIte, reduceEqDiff]
      refine put1_eq (v := .int .i64 v_0.High) rfl ?_
      simp only [hg59, run_guard (g := 41), guard_false, run_bin, put1_some, xlss, run_pick, xpick_f, run_ops_nil, run_nil, B0, reduceIte, reduceEqDiff]
      exact hN58 _ _ ⟨hS56, by rw [orF hg59]; simp only [B0, reduceIte, reduceEqDiff], f54⟩
  rintro fr60 h63 ⟨hS64, f61, f62⟩
  simp only [List.drop_succ_cons, List.drop_zero]
  simp only [run_ops_nil, f61, run_cond, B0, reduceIte, reduceEqDiff]
  refine cond_split (t := (v44 || (decide (v_0.High < 0)))) (fun hc65 => ?_) (fun hc65 => ?_)
  · rw [iteT hc65] at hF46
    simp only [run_seq, run_reg, run_mv, run_ops_nil, run_ret, B0, reduceIte, reduceEqDiff]
    have he := some_inj hF46
    subst he
    simp only [end_ret1, B0, reduceIte, reduceEqDiff]
    exact rfl
  rw [iteF hc65] at hF46
  simp only [run_skip, x52_6, run_seq, run_reg, f62, run_fa, put1_some, Nat.reduceAdd, Nat.zero_add, Nat.add_zero, xfa_ref, run_ld, B0, reduceIte, reduceEqDiff]
  refine put1_eq (v := lst Replica.cells v_0.Replicas) rfl ?_
  simp only [run_len, put1_some, xlen_lst, run_mv, run_ops_nil, B0, reduceIte, reduceEqDiff]
  obtain ⟨oc68, hX70, hk71⟩ := jn_some hF46
  simp only [x52_5]
  refine rangeL_j (σ := Unit) v_0.Replicas (fun i66 x67 _ => impl_isGroup_b1 k v_0 i66 x67 ) (fun s fr' h' => fr' 1 = .ref [.int .i64 v_0.Epoch, .int .i64 v_0.Leader,
      lst cI v_0.InStep, .int .i64 v_0.High, lst Replica.cells v_0.Replicas] 0 ∧ fr' 47 = lst Replica.cells v_0.Replicas ∧ Sep h' (geL h.length) ([])) hX70 ⟨f62, rfl,
      hS64⟩ (by simp only [B0, reduceIte, reduceEqDiff]) (by simp only [B0, reduceIte,
      reduceEqDiff]) (fun _ _ _ h => h) rfl rfl (fun _ _ _ _ h => h) (fun _ _ _ _ h => h) (fun _ _ _ _ h => h) (by decide) ?_ ?_
  · rintro i66 x67 _ fr80 h81 hx85 ⟨f83, f84, hS82⟩ f86 f87 oc69 hF72 hr73 Q74 hN75 hB79 hK76 hR77 hE78
    unfold impl_isGroup_b1 at hF72
    simp only [x52_3, run_seq, run_reg, f86, run_mv, f84, run_ia, B0, reduceIte, reduceEqDiff]
    refine put1_eq (v := .ref (Replica.cells x67) 0) (xia_lstN hx85 rfl) ?_
    simp only [run_ld, B0, reduceIte, reduceEqDiff]
    refine put1_eq (v := .agg [lst Row.cells x67.Log, .int .i64 x67.Epoch, .int .i64 x67.Known]) rfl ?_
    simp only [run_new, B0, reduceIte, reduceEqDiff]
    refine put2_newC hS82 (fun b88 h89 hS90 => ?_)
    simp only [run_mv, run_st, B0, reduceIte, reduceEqDiff]
    refine put2_stCx (us := [lst Row.cells x67.Log, .int .i64 x67.Epoch, .int .i64 x67.Known]) rfl (cs' := [lst Row.cells x67.Log, .int .i64 x67.Epoch,
        .int .i64 x67.Known]) hS90 hW rfl rfl (Nat.le_of_ble_eq_true rfl) rfl (fun h92 hS93 => ?_)
    simp only [run_ops_nil, B0, reduceIte, reduceEqDiff]
    refine frz_stepC hS93 hW (by simp only [B0, reduceIte, reduceEqDiff]) (fun h94 hS95 => ?_)
    simp only [run_frz_nil, x52_2, run_seq, run_draw, d4_fa, put1d_some, Nat.reduceAdd, Nat.zero_add, Nat.add_zero, xfa_ref, d4_ld, B0, reduceIte, reduceEqDiff]
    refine put1d_eq (v := lst Row.cells x67.Log) rfl ?_
    simp only [f83, d4_fa, put1d_some, Nat.reduceAdd, Nat.zero_add, Nat.add_zero, xfa_ref, d4_ld, B0, reduceIte, reduceEqDiff]
    refine put1d_eq (v := .int .i64 v_0.Epoch) rfl ?_
    obtain ⟨v96, hx97, hF98⟩ := bind_some' hF72
    simp only [run_d3_call, B0, reduceIte, reduceEqDiff]
    refine call1d rfl (mapM1 snap_lst (mapM1 snap_int mapM0)) (impl_isRows_x (fun b hb => decide_eq_true hb) x67.Log v_0.Epoch v96 hx97) ?_
    simp only [d4_un, put1d_some, xnot, d4_mv, B0, reduceIte, reduceEqDiff]
    simp only [run_guardd (g := 60), B0, reduceIte, reduceEqDiff]
    refine guardd_split (t := (!v96)) (fun hg99 => ?_) (fun hg99 => ?_)
    · rw [iteT hg99] at hF98
      simp only [hg99, run_guardd (g := 60), guardd_off', d4_pick, put1d_some, xpick_t, d4_mv, run_guardd (g := 68), run_guardd (g := 77), run_guardd (g := 83), guardd_tup,
          run_draw_nil, run_cond, cond_true, run_seq, run_reg, run_mv, run_ops_nil, run_ret, B0, reduceIte, reduceEqDiff]
      have e100 := some_inj hF98
      subst e100
      have ho101 := hr73 _ rfl
      have hk102 := hk71
      rw [ho101] at hk102
      dsimp only [jnO] at hk102
      apply hR77
      have he := some_inj hk102
      subst he
      simp only [end_ret1, B0, reduceIte, reduceEqDiff]
      exact rfl
    rw [iteF hg99] at hF98
    simp only [hg99, run_guardd (g := 60), guardd_false, d4_fa, put1d_some, Nat.reduceAdd, Nat.zero_add, Nat.add_zero, xfa_ref, d4_ld, B0, reduceIte, reduceEqDiff]
    refine put1d_eq (v := .int .i64 x67.Epoch) rfl ?_
    simp only [hg99, run_guardd (g := 60), guardd_false, f83, d4_fa, put1d_some, Nat.reduceAdd, Nat.zero_add, Nat.add_zero, xfa_ref, d4_ld, B0, reduceIte, reduceEqDiff]
    refine put1d_eq (v := .int .i64 v_0.Epoch) rfl ?_
    simp only [hg99, run_guardd (g := 60), guardd_false, run_d3_call, B0, reduceIte, reduceEqDiff]
    refine call1d rfl (mapM1 snap_int (mapM1 snap_int (mapM1 snap_int mapM0))) (impl_in_x (fun b hb => decide_eq_true hb) x67.Epoch 0 v_0.Epoch _ rfl) ?_
    simp only [hg99, run_guardd (g := 60), guardd_false, d4_un, put1d_some, xnot, d4_pick, xpick_f, d4_mv, B0, reduceIte, reduceEqDiff]
    simp only [run_guardd (g := 68), B0, reduceIte, reduceEqDiff]
    refine guardd_split (t := (!(impl_in x67.Epoch 0 v_0.Epoch))) (fun hg103 => ?_) (fun hg103 => ?_)
    · rw [iteT hg103] at hF98
      simp only [hg103, run_guardd (g := 68), guardd_off', d4_pick, put1d_some, xpick_t, d4_mv, run_guardd (g := 77), run_guardd (g := 83), guardd_tup, run_draw_nil, run_cond,
          cond_true, run_seq, run_reg, run_mv, run_ops_nil, run_ret, B0, reduceIte, reduceEqDiff]
      have e104 := some_inj hF98
      subst e104
      have ho105 := hr73 _ rfl
      have hk106 := hk71
      rw [ho105] at hk106
      dsimp only [jnO] at hk106
      apply hR77
      have he := some_inj hk106
      subst he
      simp only [end_ret1, B0, reduceIte, reduceEqDiff]
      exact rfl
    rw [iteF hg103] at hF98
    simp only [hg103, run_guardd (g := 68), guardd_false, d4_fa, put1d_some, Nat.reduceAdd, Nat.zero_add, Nat.add_zero, xfa_ref, d4_ld, B0, reduceIte, reduceEqDiff]
    refine put1d_eq (v := .int .i64 x67.Known) rfl ?_
    simp only [hg103, run_guardd (g := 68), guardd_false, d4_fa, put1d_some, Nat.reduceAdd, Nat.zero_add, Nat.add_zero, xfa_ref, d4_ld, B0, reduceIte, reduceEqDiff]
    refine put1d_eq (v := lst Row.cells x67.Log) rfl ?_
    simp only [hg103, run_guardd (g := 68), guardd_false, d4_len, put1d_some, xlen_lst, run_d3_call, B0, reduceIte, reduceEqDiff]
    refine call1d rfl (mapM1 snap_int (mapM1 snap_int (mapM1 snap_int mapM0))) (impl_in_x (fun b hb => decide_eq_true hb) x67.Known 0 (List.length x67.Log : Int) _ rfl) ?_
    simp only [hg103, run_guardd (g := 68), guardd_false, d4_un, put1d_some, xnot, d4_pick, xpick_f, d4_mv, B0, reduceIte, reduceEqDiff]
    simp only [run_guardd (g := 77), B0, reduceIte, reduceEqDiff]
    refine guardd_split (t := (!(impl_in x67.Known 0 (List.length x67.Log : Int)))) (fun hg107 => ?_) (fun hg107 => ?_)
    · rw [iteT hg107] at hF98
      simp only [hg107, run_guardd (g := 77), guardd_off', run_guardd (g := 83), guardd_tup, d4_pick, put1d_some, xpick_t, run_draw_nil, run_cond, cond_true, run_seq, run_reg,
          run_mv, run_ops_nil, run_ret, B0, reduceIte, reduceEqDiff]
      have e108 := some_inj hF98
      subst e108
      have ho109 := hr73 _ rfl
      have hk110 := hk71
      rw [ho109] at hk110
      dsimp only [jnO] at hk110
      apply hR77
      have he := some_inj hk110
      subst he
      simp only [end_ret1, B0, reduceIte, reduceEqDiff]
      exact rfl
    rw [iteF hg107] at hF98
    simp only [hg107, run_guardd (g := 77), guardd_false, d4_fa, put1d_some, Nat.reduceAdd, Nat.zero_add, Nat.add_zero, xfa_ref, d4_ld, B0, reduceIte, reduceEqDiff]
    refine put1d_eq (v := .int .i64 x67.Epoch) rfl ?_
    simp only [hg107, run_guardd (g := 77), guardd_false, f83, d4_fa, put1d_some, Nat.reduceAdd, Nat.zero_add, Nat.add_zero, xfa_ref, d4_ld, B0, reduceIte, reduceEqDiff]
    refine put1d_eq (v := .int .i64 v_0.Epoch) rfl ?_
    simp only [hg107, run_guardd (g := 77), guardd_false, d4_bin, put1d_some, xeql, d4_mv, B0, reduceIte, reduceEqDiff]
    simp only [run_guardd (g := 83), B0, reduceIte, reduceEqDiff]
    refine guardd_split (t := (decide (x67.Epoch = v_0.Epoch))) (fun hg111 => ?_) (fun hg111 => ?_)
    · rw [iteT hg111] at hF98
      simp only [hg111, run_guardd (g := 83), guardd_true, d1_fa, put1d_some, Nat.reduceAdd, Nat.zero_add, Nat.add_zero, xfa_ref, d1_ld, ldd_ref, B0, reduceIte, reduceEqDiff]
      refine put1d_eq (v := .int .i64 x67.Known) rfl ?_
      simp only [hg111, run_guardd (g := 83), guardd_true, f83, d4_ld, B0, reduceIte, reduceEqDiff]
      refine put1d_eq (v := .agg [.int .i64 v_0.Epoch, .int .i64 v_0.Leader, lst cI v_0.InStep, .int .i64 v_0.High, lst Replica.cells v_0.Replicas]) rfl ?_
      obtain ⟨v112, hx113, hF114⟩ := bind_some' hF98
      simp only [hg111, run_guardd (g := 83), guardd_true, d4_mv, put1d_some, run_d2_call, B0, reduceIte, reduceEqDiff]
      refine call1q rfl (mapM1 (snap_agg (mapM1 snap_int (mapM1 snap_int (mapM1 snap_lst (mapM1 snap_int (mapM1 snap_lst mapM0)))))) (mapM1 snap_int mapM0)) (impl_Group_shared_x
          (fun b hb => decide_eq_true hb) k v_0 (i66 : Int) v112 hx113) ?_
      simp only [hg111, run_guardd (g := 83), guardd_true, d4_bin, put1d_some, xgtr, hg107, run_guardd (g := 77), guardd_false, d4_pick, xpick_t, xpick_f, run_draw_nil, run_cond,
          B0, reduceIte, reduceEqDiff]
      refine cond_split (t := (decide (v112 < x67.Known))) (fun hc115 => ?_) (fun hc115 => ?_)
      · rw [iteT hc115] at hF114
        simp only [run_seq, run_reg, run_mv, run_ops_nil, run_ret, B0, reduceIte, reduceEqDiff]
        have e116 := some_inj hF114
        subst e116
        have ho117 := hr73 _ rfl
        have hk118 := hk71
        rw [ho117] at hk118
        dsimp only [jnO] at hk118
        apply hR77
        have he := some_inj hk118
        subst he
        simp only [end_ret1, B0, reduceIte, reduceEqDiff]
        exact rfl
      rw [iteF hc115] at hF114
      simp only [run_skip, x52_1, run_seq, run_draw, f83, d4_fa, put1d_some, Nat.reduceAdd, Nat.zero_add, Nat.add_zero, xfa_ref, d4_ld, B0, reduceIte, reduceEqDiff]
      refine put1d_eq (v := lst cI v_0.InStep) rfl ?_
      obtain ⟨v119, hx120, hF121⟩ := bind_some' hF114
      simp only [d4_mv, put1d_some, run_d3_call, B0, reduceIte, reduceEqDiff]
      refine call1d rfl (mapM1 snap_lst (mapM1 snap_int mapM0)) (slices_Contains_int_x (fun b hb => decide_eq_true hb) v_0.InStep (i66 : Int) v119 hx120) ?_
      simp only [d4_mv, put1d_some, B0, reduceIte, reduceEqDiff]
      simp only [run_guardd (g := 96), B0, reduceIte, reduceEqDiff]
      refine guardd_split (t := v119) (fun hg122 => ?_) (fun hg122 => ?_)
      · rw [iteT hg122] at hF121
        simp only [hg122, run_guardd (g := 96), guardd_true, f83, d1_fa, put1d_some, Nat.reduceAdd, Nat.zero_add, Nat.add_zero, xfa_ref, d1_ld, ldd_ref, B0, reduceIte,
            reduceEqDiff]
        refine put1d_eq (v := .int .i64 v_0.High) rfl ?_
        simp only [hg122, run_guardd (g := 96), guardd_true, f83, d4_ld, B0, reduceIte, reduceEqDiff]
        refine put1d_eq (v := .agg [.int .i64 v_0.Epoch, .int .i64 v_0.Leader, lst cI v_0.InStep, .int .i64 v_0.High, lst Replica.cells v_0.Replicas]) rfl ?_
        obtain ⟨v123, hx124, hF125⟩ := bind_some' hF121
        simp only [hg122, run_guardd (g := 96), guardd_true, d4_mv, put1d_some, run_d2_call, B0, reduceIte, reduceEqDiff]
        refine call1q rfl (mapM1 (snap_agg (mapM1 snap_int (mapM1 snap_int (mapM1 snap_lst (mapM1 snap_int (mapM1 snap_lst mapM0)))))) (mapM1 snap_int mapM0))
            (impl_Group_shared_x (fun b hb => decide_eq_true hb) k v_0 (i66 : Int) v123 hx124) ?_
        simp only [hg122, run_guardd (g := 96), guardd_true, d4_bin, put1d_some, xgtr, d4_pick, xpick_t, run_draw_nil, run_cond, B0, reduceIte, reduceEqDiff]
        refine cond_split (t := (decide (v123 < v_0.High))) (fun hc126 => ?_) (fun hc126 => ?_)
        · rw [iteT hc126] at hF125
          simp only [run_seq, run_reg, run_mv, run_ops_nil, run_ret, B0, reduceIte, reduceEqDiff]
          have e127 := some_inj hF125
          subst e127
          have ho128 := hr73 _ rfl
          have hk129 := hk71
          rw [ho128] at hk129
          dsimp only [jnO] at hk129
          apply hR77
          have he := some_inj hk129
          subst he
          simp only [end_ret1, B0, reduceIte, reduceEqDiff]
          exact rfl
        rw [iteF hc126] at hF125
        simp only [run_skip, run_nil, B0, reduceIte, reduceEqDiff]
        have e130 := some_inj hF125
        exact hN75 _ _ _ e130.symm ⟨f83, f84, hS95⟩ (f86) (f87)
      rw [iteF hg122] at hF121
      simp only [hg122, run_guardd (g := 96), guardd_off, d4_pick, put1d_some, xpick_f, run_draw_nil, run_cond, cond_false, run_skip, run_nil, B0, reduceIte, reduceEqDiff]
      have e131 := some_inj hF121
      exact hN75 _ _ _ e131.symm ⟨f83, f84, hS95⟩ (f86) (f87)
    rw [iteF hg111] at hF98
    simp only [hg111, run_guardd (g := 83), guardd_off, hg107, run_guardd (g := 77), guardd_false, d4_pick, put1d_some, xpick_f, run_draw_nil, run_cond, cond_false, run_skip,
        x52_1, run_seq, run_draw, f83, d4_fa, Nat.reduceAdd, Nat.zero_add, Nat.add_zero, xfa_ref, d4_ld, B0, reduceIte, reduceEqDiff]
    refine put1d_eq (v := lst cI v_0.InStep) rfl ?_
    obtain ⟨v132, hx133, hF134⟩ := bind_some' hF98
    simp only [d4_mv, put1d_some, run_d3_call, B0, reduceIte, reduceEqDiff]
    refine call1d rfl (mapM1 snap_lst (mapM1 snap_int mapM0)) (slices_Contains_int_x (fun b hb => decide_eq_true hb) v_0.InStep (i66 : Int) v132 hx133) ?_
    simp only [d4_mv, put1d_some, B0, reduceIte, reduceEqDiff]
    simp only [run_guardd (g := 96), B0, reduceIte, reduceEqDiff]
    refine guardd_split (t := v132) (fun hg135 => ?_) (fun hg135 => ?_)
    · rw [iteT hg135] at hF134
      simp only [hg135, run_guardd (g := 96), guardd_true, f83, d1_fa, put1d_some, Nat.reduceAdd, Nat.zero_add, Nat.add_zero, xfa_ref, d1_ld, ldd_ref, B0, reduceIte, reduceEqDiff]
      refine put1d_eq (v := .int .i64 v_0.High) rfl ?_
      simp only [hg135, run_guardd (g := 96), guardd_true, f83, d4_ld, B0, reduceIte, reduceEqDiff]
      refine put1d_eq (v := .agg [.int .i64 v_0.Epoch, .int .i64 v_0.Leader, lst cI v_0.InStep, .int .i64 v_0.High, lst Replica.cells v_0.Replicas]) rfl ?_
      obtain ⟨v136, hx137, hF138⟩ := bind_some' hF134
      simp only [hg135, run_guardd (g := 96), guardd_true, d4_mv, put1d_some, run_d2_call, B0, reduceIte, reduceEqDiff]
      refine call1q rfl (mapM1 (snap_agg (mapM1 snap_int (mapM1 snap_int (mapM1 snap_lst (mapM1 snap_int (mapM1 snap_lst mapM0)))))) (mapM1 snap_int mapM0)) (impl_Group_shared_x
          (fun b hb => decide_eq_true hb) k v_0 (i66 : Int) v136 hx137) ?_
      simp only [hg135, run_guardd (g := 96), guardd_true, d4_bin, put1d_some, xgtr, d4_pick, xpick_t, run_draw_nil, run_cond, B0, reduceIte, reduceEqDiff]
      refine cond_split (t := (decide (v136 < v_0.High))) (fun hc139 => ?_) (fun hc139 => ?_)
      · rw [iteT hc139] at hF138
        simp only [run_seq, run_reg, run_mv, run_ops_nil, run_ret, B0, reduceIte, reduceEqDiff]
        have e140 := some_inj hF138
        subst e140
        have ho141 := hr73 _ rfl
        have hk142 := hk71
        rw [ho141] at hk142
        dsimp only [jnO] at hk142
        apply hR77
        have he := some_inj hk142
        subst he
        simp only [end_ret1, B0, reduceIte, reduceEqDiff]
        exact rfl
      rw [iteF hc139] at hF138
      simp only [run_skip, run_nil, B0, reduceIte, reduceEqDiff]
      have e143 := some_inj hF138
      exact hN75 _ _ _ e143.symm ⟨f83, f84, hS95⟩ (f86) (f87)
    rw [iteF hg135] at hF134
    simp only [hg135, run_guardd (g := 96), guardd_off, d4_pick, put1d_some, xpick_f, run_draw_nil, run_cond, cond_false, run_skip, run_nil, B0, reduceIte, reduceEqDiff]
    have e144 := some_inj hF134
    exact hN75 _ _ _ e144.symm ⟨f83, f84, hS95⟩ (f86) (f87)
  rintro _ fr146 h147 rfl ⟨f149, f150, hS148⟩
  dsimp only [jnO] at hk71
  unfold impl_isGroup_j1 at hk71
  simp only [run_seq, run_reg, run_mv, run_ops_nil, run_ret, B0, reduceIte, reduceEqDiff]
  have he := some_inj hk71
  subst he
  simp only [end_ret1, B0, reduceIte, reduceEqDiff]
  exact rfl
theorem impl_copyGroup_x {W : Nat → Bool} {h : Heap} (hW : ∀ b,
    (geL h.length) b → W b = true) (g_0 : Group) (r : Group) (hF : impl_copyGroup g_0 = some r) : Ret E W 53 [.agg [.int .i64 g_0.Epoch, .int .i64 g_0.Leader, lst cI g_0.InStep,
    .int .i64 g_0.High, lst Replica.cells g_0.Replicas]] h (fun v h' => ∃ rv0_2 rc0_2 rv0_4 rc0_4, v = .agg [.int .i64 r.Epoch, .int .i64 r.Leader, rv0_2, .int .i64 r.High,
    rv0_4] ∧ SlF cI 1 3 rv0_2 r.InStep rc0_2 ∧ SlN Replica.R 3 51 rv0_4 r.Replicas rc0_4 ∧ Sep h' (geL h.length) (rc0_2 ++ (rc0_4 ++ ([])))) := by
  refine Ret.of (fn := x53) rfl (Run.of ?_)
  unfold impl_copyGroup at hF
  have zf0 : argFr [.agg [.int .i64 g_0.Epoch, .int .i64 g_0.Leader, lst cI g_0.InStep, .int .i64 g_0.High, lst Replica.cells g_0.Replicas]] 0 = .agg [.int .i64 g_0.Epoch,
      .int .i64 g_0.Leader, lst cI g_0.InStep, .int .i64 g_0.High, lst Replica.cells g_0.Replicas] := rfl
  generalize argFr [.agg [.int .i64 g_0.Epoch, .int .i64 g_0.Leader, lst cI g_0.InStep, .int .i64 g_0.High, lst Replica.cells g_0.Replicas]] = fr0 at zf0 ⊢
  have hS : Sep h (geL h.length) [] := Sep.nil h
  simp only [x53, run_seq, run_reg, run_box, zf0, B0, reduceIte, reduceEqDiff]
  refine put2_boxC (cs := [.int .i64 g_0.Epoch, .int .i64 g_0.Leader, lst cI g_0.InStep, .int .i64 g_0.High, lst Replica.cells g_0.Replicas]) hS rfl rfl rfl (fun b1 h2 hS3 => ?_)
  simp only [run_new, B0, reduceIte, reduceEqDiff]
  refine put2_newC hS3 (fun b5 h6 hS7 => ?_)
  simp only [run_ops_nil, B0, reduceIte, reduceEqDiff]
  refine frz_stepC (Sep.m1 hS7) hW (by simp only [B0, reduceIte, reduceEqDiff]) (fun h9 hS10 => ?_)
  simp only [run_frz_nil, x53_7, run_seq, run_draw, d4_buildS, evp, B0, reduceIte, reduceEqDiff]
  refine put2d_buildSF (n := 1) (f := cI) ([] : List Int) hS10 rfl rfl (fun v11 c12 h13 hv14 hS15 => ?_)
  simp only [d1_new, B0, reduceIte, reduceEqDiff]
  refine put2d_newC hS15 (fun b17 h18 hS19 => ?_)
  simp only [d1_fa, put1d_some, Nat.reduceAdd, Nat.zero_add, Nat.add_zero, xfa_ref, d1_ld, ldd_ref, B0, reduceIte, reduceEqDiff]
  refine put1d_eq (v := .int .i64 g_0.Epoch) rfl ?_
  simp only [d1_fa, put1d_some, Nat.reduceAdd, Nat.zero_add, Nat.add_zero, xfa_ref, d1_ld, ldd_ref, B0, reduceIte, reduceEqDiff]
  refine put1d_eq (v := .int .i64 g_0.Leader) rfl ?_
  simp only [d4_fa, put1d_some, Nat.reduceAdd, Nat.zero_add, Nat.add_zero, xfa_ref, d4_ld, B0, reduceIte, reduceEqDiff]
  refine put1d_eq (v := lst cI g_0.InStep) rfl ?_
  simp only [d2_appQ, B0, reduceIte, reduceEqDiff]
  obtain ⟨l21, hx22, hF23⟩ := bind_some' hF
  refine q_app disjR0 ?_
  refine put2d_appF (f := cI) hv14 (Sep.m1 hS19) hW (fun _ => rfl) (fun _ => rfl) (firstOf_lst (fun _ => rfl)) hx22 (fun v24 c25 h26 hv27 hS28 => ?_)
  simp only [d1_fa, put1d_some, Nat.reduceAdd, Nat.zero_add, Nat.add_zero, xfa_ref, d1_ld, ldd_ref, B0, reduceIte, reduceEqDiff]
  refine put1d_eq (v := .int .i64 g_0.High) rfl ?_
  simp only [d4_build, evp, B0, reduceIte, reduceEqDiff]
  refine put1d_eq (v := .agg [.int .i64 g_0.Epoch, .int .i64 g_0.Leader, v24, .int .i64 g_0.High,
      .nil]) (pbuild_some (fill1 (us := [.int .i64 g_0.Epoch]) (vs := [.int .i64 g_0.Epoch, .int .i64 0, .nil, .int .i64 0,
      .nil]) rfl rfl (Nat.le_of_ble_eq_true rfl) rfl rfl (fill1 (us := [.int .i64 g_0.Leader]) (vs := [.int .i64 g_0.Epoch, .int .i64 g_0.Leader, .nil, .int .i64 0,
      .nil]) rfl rfl (Nat.le_of_ble_eq_true rfl) rfl rfl (fill1 (us := [v24]) (vs := [.int .i64 g_0.Epoch, .int .i64 g_0.Leader, v24, .int .i64 0,
      .nil]) (cells_one (SlF.one hv27)) rfl (Nat.le_of_ble_eq_true rfl) (all_c (SlF.one hv27) all_n) rfl (fill1 (us := [.int .i64 g_0.High]) (vs := [.int .i64 g_0.Epoch,
      .int .i64 g_0.Leader, v24, .int .i64 g_0.High, .nil]) rfl rfl (Nat.le_of_ble_eq_true rfl) rfl rfl fill0))))) ?_
  simp only [d3_st, B0, reduceIte, reduceEqDiff]
  refine put2d_stCx (us := [.int .i64 g_0.Epoch, .int .i64 g_0.Leader, v24, .int .i64 g_0.High, .nil]) rfl (cs' := [.int .i64 g_0.Epoch, .int .i64 g_0.Leader, v24,
      .int .i64 g_0.High, .nil]) (Sep.m1 hS28) hW rfl (all_c rfl (all_c rfl (all_c (SlF.one hv27) (all_c rfl (all_c rfl all_n))))) (Nat.le_of_ble_eq_true rfl) rfl
      (fun h30 hS31 => ?_)
  simp only [run_draw_nil, x53_6, run_seq, run_reg, run_fa, put1_some, Nat.reduceAdd, Nat.zero_add, Nat.add_zero, xfa_ref, run_ld, B0, reduceIte, reduceEqDiff]
  refine put1_eq (v := lst Replica.cells g_0.Replicas) rfl ?_
  simp only [run_len, put1_some, xlen_lst, run_mv, run_ops_nil, B0, reduceIte, reduceEqDiff]
  obtain ⟨oc44, hX46, hk47⟩ := jn_some hF23
  simp only [x53_5]
  refine rangeL_j (σ := Group) g_0.Replicas (fun i42 x43 s106 => impl_copyGroup_b1 l21 i42 x43 s106) (fun s fr' h' => ∃ v39 c40,
      fr' 2 = .ptr b5 0 ∧ fr' 3 = .ptr b17 0 ∧ fr' 18 = lst Replica.cells g_0.Replicas ∧ SlN Replica.R 3 51 v39 s.Replicas c40 ∧ Sep h' (geL h.length) ([Blk1 b5 [.int .i64 0,
      .int .i64 0, .nil, .int .i64 0, .nil] 29] ++ ([Blk1 b17 [.int .i64 s.Epoch, .int .i64 s.Leader, v24, .int .i64 s.High, v39] 29] ++ (c25 ++ (c40 ++ ([])))))) hX46 ⟨.nil, [],
      rfl, rfl, rfl, SlN.nil, ((Sep.m2 (Sep.m1 (Sep.m1 hS31))) : Sep _ (geL h.length) ([Blk1 b5 [.int .i64 0, .int .i64 0, .nil, .int .i64 0,
      .nil] 29] ++ ([Blk1 b17 [.int .i64 g_0.Epoch, .int .i64 g_0.Leader, v24, .int .i64 g_0.High, .nil] 29] ++ (c25 ++ ([])))))⟩ (by simp only [B0, reduceIte,
      reduceEqDiff]) (by simp only [B0, reduceIte, reduceEqDiff]) (fun _ _ _ h => h) rfl rfl (fun _ _ _ _ h => h) (fun _ _ _ _ h => h) (fun _ _ _ _ h => h) (by decide) ?_ ?_
  · rintro i42 x43 s37 fr56 h57 hx62 ⟨v39, c40, f59, f60, f61, hv41, hS58⟩ f63 f64 oc45 hF48 hr49 Q50 hN51 hB55 hK52 hR53 hE54
    unfold impl_copyGroup_b1 at hF48
    simp only [x53_3, run_seq, run_reg, f61, f63, run_ia, B0, reduceIte, reduceEqDiff]
    refine put1_eq (v := .ref (Replica.cells x43) 0) (xia_lstN hx62 rfl) ?_
    simp only [run_ld, B0, reduceIte, reduceEqDiff]
    refine put1_eq (v := .agg [lst Row.cells x43.Log, .int .i64 x43.Epoch, .int .i64 x43.Known]) rfl ?_
    simp only [run_new, B0, reduceIte, reduceEqDiff]
    refine put2_newC hS58 (fun b65 h66 hS67 => ?_)
    simp only [run_st, B0, reduceIte, reduceEqDiff]
    refine put2_stCx (us := [lst Row.cells x43.Log, .int .i64 x43.Epoch, .int .i64 x43.Known]) rfl (cs' := [lst Row.cells x43.Log, .int .i64 x43.Epoch,
        .int .i64 x43.Known]) hS67 hW rfl rfl (Nat.le_of_ble_eq_true rfl) rfl (fun h69 hS70 => ?_)
    simp only [run_ops_nil, x53_2, run_seq, run_reg, run_buildS, evp, B0, reduceIte, reduceEqDiff]
    refine put2_buildSF (n := 2) (f := Row.cells) ([] : List Row) hS70 rfl rfl (fun v71 c72 h73 hv74 hS75 => ?_)
    simp only [run_fa, put1_some, Nat.reduceAdd, Nat.zero_add, Nat.add_zero, xfa_ptr, run_ld, B0, reduceIte, reduceEqDiff]
    refine put1_eq (v := lst Row.cells x43.Log) ((xld_b (Sep.bk _ _ _ (Sep.m1 hS75))).trans rfl) ?_
    simp only [run_app, B0, reduceIte, reduceEqDiff]
    obtain ⟨l77, hx78, hF79⟩ := bind_some' hF48
    refine put2_appF (f := Row.cells) hv74 hS75 hW (fun _ => rfl) (fun _ => rfl) (firstOf_lst (fun _ => rfl)) hx78 (fun v80 c81 h82 hv83 hS84 => ?_)
    simp only [run_fa, put1_some, Nat.reduceAdd, Nat.zero_add, Nat.add_zero, xfa_ptr, run_st, B0, reduceIte, reduceEqDiff]
    refine put2_stCx (us := [v80]) (cells_one (SlF.one hv83)) (cs' := [v80, .int .i64 x43.Epoch,
        .int .i64 x43.Known]) (Sep.m1 hS84) hW rfl (all_c (SlF.one hv83) all_n) (Nat.le_of_ble_eq_true rfl) rfl (fun h86 hS87 => ?_)
    simp only [run_ops_nil, x53_1, run_reg, f60, run_fa, put1_some, Nat.reduceAdd, Nat.zero_add, Nat.add_zero, xfa_ptr, run_ld, B0, reduceIte, reduceEqDiff]
    refine put1_eq (v := v39) ((xld_b (Sep.bk _ _ _ (Sep.m3 hS87))).trans rfl) ?_
    simp only [run_ld, B0, reduceIte, reduceEqDiff]
    refine put1_eq (v := .agg [v80, .int .i64 x43.Epoch, .int .i64 x43.Known]) ((xld_bs (Sep.bk _ _ _ hS87)).trans rfl) ?_
    simp only [run_buildS, evp, B0, reduceIte, reduceEqDiff]
    refine put2_buildSN (R := Replica.R) (n := 3) (cs := [v80, .int .i64 x43.Epoch, .int .i64 x43.Known]) (os := c81) (Sep.m1 hS87) (fill1 (us := [v80, .int .i64 x43.Epoch,
        .int .i64 x43.Known]) (vs := [v80, .int .i64 x43.Epoch,
        .int .i64 x43.Known]) rfl rfl (Nat.le_of_ble_eq_true rfl) (all_c (SlF.one hv83) (all_c rfl (all_c rfl all_n))) rfl fill0) (Replica.RI (x :=
        (Replica.mk l77 x43.Epoch x43.Known)) hv83) rfl (fun v88 c89 h90 hv91 hS92 => ?_)
    simp only [run_app, B0, reduceIte, reduceEqDiff]
    obtain ⟨l94, hx95, hF96⟩ := bind_some' hF79
    refine put2_appN (R := Replica.R) (c := c40) hv41 hv91 (Sep.m5 hS92) hW Replica.RO.len Replica.RO.one hx95 (fun v97 c98 h99 hv100 hS101 => ?_)
    simp only [f60, run_fa, put1_some, Nat.reduceAdd, Nat.zero_add, Nat.add_zero, xfa_ptr, run_st, B0, reduceIte, reduceEqDiff]
    refine put2_stCx (us := [v97]) (cells_one (SlN.one hv100)) (cs' := [.int .i64 s37.Epoch, .int .i64 s37.Leader, v24, .int .i64 s37.High,
        v97]) (Sep.m3 hS101) hW rfl (all_c (SlN.one hv100) all_n) (Nat.le_of_ble_eq_true rfl) rfl (fun h103 hS104 => ?_)
    simp only [run_ops_nil, run_nil, B0, reduceIte, reduceEqDiff]
    have e105 := some_inj hF96
    exact hN51 _ _ _ e105.symm ⟨v97, c98, f59, f60, f61, hv100, (Sep.m3 (Sep.m2 (Sep.m3 (Sep.m1 (Sep.dc (Sep.m2 hS104))))))⟩ (f63) (f64)
  rintro s107 fr112 h113 rfl ⟨v109, c110, f115, f116, f117, hv111, hS114⟩
  dsimp only [jnO] at hk47
  unfold impl_copyGroup_j1 at hk47
  simp only [run_seq, run_reg, f116, run_ld, B0, reduceIte, reduceEqDiff]
  refine put1_eq (v := .agg [.int .i64 s107.Epoch, .int .i64 s107.Leader, v24, .int .i64 s107.High, v109]) ((xld_bs (Sep.bk _ _ _ (Sep.m1 hS114))).trans rfl) ?_
  simp only [f115, run_st, B0, reduceIte, reduceEqDiff]
  refine put2_stCx (us := [.int .i64 s107.Epoch, .int .i64 s107.Leader, v24, .int .i64 s107.High, v109]) rfl (cs' := [.int .i64 s107.Epoch, .int .i64 s107.Leader, v24,
      .int .i64 s107.High, v109]) hS114 hW rfl (all_c rfl (all_c rfl (all_c (SlF.one hv27) (all_c rfl (all_c (SlN.one hv111) all_n))))) (Nat.le_of_ble_eq_true rfl) rfl
      (fun h118 hS119 => ?_)
  simp only [run_ops_nil, run_ret, B0, reduceIte, reduceEqDiff]
  have he := some_inj hk47
  subst he
  refine end_ret_cell (bb := b5) (oo := 0) (v := .agg [.int .i64 s107.Epoch, .int .i64 s107.Leader, v24, .int .i64 s107.High, v109]) (by simp only [f115, B0, reduceIte,
      reduceEqDiff]) ((xld_bs (Sep.bk _ _ _ hS119)).trans rfl) ?_
  exact ⟨v24, c25, v109, c110, by first | trivial | rfl, hv27, hv111, (Sep.m1 (Sep.m1 (Sep.dc ((Sep.dc (hS119))))))⟩
theorem impl_Group_know_x {W : Nat → Bool} {h : Heap} {lo : Nat → Prop} {S0 : List Obj} (hW : ∀ b,
    lo b → W b = true) (pb0 : Nat) (g_0 : Group) (pv0_2 : XV) (pc0_2 : List Obj) (ph0_2 : SlF cI 1 3 pv0_2 g_0.InStep pc0_2) (pv0_4 : XV) (pc0_4 : List Obj)
    (ph0_4 : SlN Replica.R 3 51 pv0_4 g_0.Replicas pc0_4) (k_1 : Int) (r : Group) (hF : impl_Group_know g_0 k_1 = some r) (hS : Sep h lo ([Blk1 pb0 [.int .i64 g_0.Epoch,
    .int .i64 g_0.Leader, pv0_2, .int .i64 g_0.High, pv0_4] 29] ++ (pc0_2 ++ (pc0_4 ++ (S0))))) : Ret E W 54 [.ptr pb0 0, .int .i64 k_1] h (fun v h' => ∃ ic0_2 ic0_4,
    v = .tup [] ∧ SlF cI 1 3 pv0_2 r.InStep ic0_2 ∧ SlN Replica.R 3 51 pv0_4 r.Replicas ic0_4 ∧ Sep h' lo ([Blk1 pb0 [.int .i64 r.Epoch, .int .i64 r.Leader, pv0_2,
    .int .i64 r.High, pv0_4] 29] ++ (ic0_2 ++ (ic0_4 ++ (S0))))) := by
  refine Ret.of (fn := x54) rfl (Run.of ?_)
  unfold impl_Group_know at hF
  have zf0 : argFr [.ptr pb0 0, .int .i64 k_1] 0 = .ptr pb0 0 := rfl
  have zf1 : argFr [.ptr pb0 0, .int .i64 k_1] 1 = .int .i64 k_1 := rfl
  generalize argFr [.ptr pb0 0, .int .i64 k_1] = fr0 at zf0 zf1 ⊢
  simp only [x54, run_seq, run_draw, zf0, d4_mv, put1d_some, d4_chk, xchk_ptr, d4_fa, Nat.reduceAdd, Nat.zero_add, Nat.add_zero, xfa_ptr, d4_ld, B0, reduceIte, reduceEqDiff]
  refine put1d_eq (v := pv0_4) ((xld_b (Sep.bk _ _ _ hS)).trans rfl) ?_
  simp only [zf1, d4_mv, put1d_some, zf0, d4_chk, xchk_ptr, d4_fa, Nat.reduceAdd, Nat.zero_add, Nat.add_zero, xfa_ptr, d4_ld, B0, reduceIte, reduceEqDiff]
  refine put1d_eq (v := .int .i64 g_0.Epoch) ((xld_b (Sep.bk _ _ _ hS)).trans rfl) ?_
  obtain ⟨x1, hx2, hF3⟩ := bind_some' hF
  simp only [d4_ia, B0, reduceIte, reduceEqDiff]
  obtain ⟨b4, hb5⟩ := SlN.isrow ph0_4 (geti_ne hx2)
  refine put1d_eq (SlN.ia ph0_4 hb5 hx2) ?_
  obtain ⟨c8, cs9, os10, hv11, hR12, hS13⟩ := SlG.opn (SlN.toG ph0_4 hb5 Replica.RO.len) hx2 hk_nil Replica.RO.len (Sep.m2 hS)
  obtain ⟨v15, c16, hv17, rfl, rfl⟩ := hR12
  have hS14 := Sep.no1 hS13
  simp only [d4_fa, put1d_some, Nat.reduceAdd, Nat.zero_add, Nat.add_zero, xfa_ptr, d3_st, B0, reduceIte, reduceEqDiff]
  refine put2d_stGx (us := [.int .i64 g_0.Epoch]) (o := 1) (cs' := [v15, .int .i64 g_0.Epoch,
      .int .i64 x1.Known]) rfl hv11 rfl hx2 hS14 hW rfl rfl (Nat.le_of_ble_eq_true rfl) rfl (fun c19 h6 hv20 hS7 => ?_)
  simp only [run_draw_nil, x54_1, run_draw, zf0, d4_mv, put1d_some, d4_chk, xchk_ptr, d4_fa, Nat.reduceAdd, Nat.zero_add, Nat.add_zero, xfa_ptr, d4_ld, B0, reduceIte, reduceEqDiff]
  refine put1d_eq (v := pv0_4) ((xld_b (Sep.bk _ _ _ (Sep.m2 hS7))).trans rfl) ?_
  simp only [zf1, d4_mv, put1d_some, zf0, d4_chk, xchk_ptr, d4_fa, Nat.reduceAdd, Nat.zero_add, Nat.add_zero, xfa_ptr, d4_ld, B0, reduceIte, reduceEqDiff]
  refine put1d_eq (v := pv0_4) ((xld_b (Sep.bk _ _ _ (Sep.m2 hS7))).trans rfl) ?_
  simp only [zf1, d4_mv, put1d_some, d4_ia, B0, reduceIte, reduceEqDiff]
  refine put1d_eq (SlG.ia hv20 hx2) ?_
  simp only [d4_fa, put1d_some, Nat.reduceAdd, Nat.zero_add, Nat.add_zero, xfa_ptr, d4_ld, B0, reduceIte, reduceEqDiff]
  refine put1d_eq (v := v15) ((SlG.ld (o := 0) hv20 rfl hx2 hS7 (Nat.le_of_ble_eq_true rfl)).trans rfl) ?_
  simp only [d4_len, put1d_some, SlF.plen hv17, d4_ia, B0, reduceIte, reduceEqDiff]
  refine put1d_eq (SlG.ia hv20 hx2) ?_
  simp only [d4_fa, put1d_some, Nat.reduceAdd, Nat.zero_add, Nat.add_zero, xfa_ptr, d3_st, B0, reduceIte, reduceEqDiff]
  refine put2d_stGx (us := [.int .i64 (List.length x1.Log : Int)]) (o := 2) (cs' := [v15, .int .i64 g_0.Epoch,
      .int .i64 (List.length x1.Log : Int)]) rfl hv20 rfl hx2 hS7 hW rfl rfl (Nat.le_of_ble_eq_true rfl) rfl (fun c23 h21 hv24 hS22 => ?_)
  simp only [run_draw_nil, run_nil, B0, reduceIte, reduceEqDiff]
  obtain ⟨c25, hv26, hS27⟩ := SlG.cls (e' := (Replica.mk x1.Log g_0.Epoch (List.length x1.Log : Int))) (c := c23) (os := c16) hv24 rfl hx2 hk_nil (Replica.RI (x :=
      (Replica.mk x1.Log g_0.Epoch (List.length x1.Log : Int))) hv17) (Sep.m1 (Sep.m1 hS22))
  have hx28 := geti_set (x' := (Replica.mk x1.Log g_0.Epoch (List.length x1.Log : Int))) hx2
  have hv29 := SlG.toN hv26
  have he := some_inj hF3
  subst he
  simp only [end_nor0, B0, reduceIte, reduceEqDiff]
  exact ⟨pc0_2, c25, by first | trivial | rfl, ph0_2, hv29, (Sep.m2 (Sep.m2 hS27))⟩
theorem impl_Group_fetch_x {W : Nat → Bool} {h : Heap} {lo : Nat → Prop} {S0 : List Obj} (hW : ∀ b,
    lo b → W b = true) (k : Nat) (pb0 : Nat) (g_0 : Group) (pv0_2 : XV) (pc0_2 : List Obj) (ph0_2 : SlF cI 1 3 pv0_2 g_0.InStep pc0_2) (pv0_4 : XV) (pc0_4 : List Obj)
    (ph0_4 : SlN Replica.R 3 51 pv0_4 g_0.Replicas pc0_4) (k_1 : Int) (many_2 : Int) (r : Group) (hF : impl_Group_fetch k g_0 k_1 many_2 = some r) (hS : Sep h lo
    ([Blk1 pb0 [.int .i64 g_0.Epoch, .int .i64 g_0.Leader, pv0_2, .int .i64 g_0.High, pv0_4] 29] ++ (pc0_2 ++ (pc0_4 ++ (S0))))) : Ret E W 55 [.ptr pb0 0, .int .i64 k_1,
    .int .i64 many_2] h (fun v h' => ∃ ic0_2 ic0_4,
    v = .tup [] ∧ SlF cI 1 3 pv0_2 r.InStep ic0_2 ∧ SlN Replica.R 3 51 pv0_4 r.Replicas ic0_4 ∧ Sep h' lo ([Blk1 pb0 [.int .i64 r.Epoch, .int .i64 r.Leader, pv0_2,
    .int .i64 r.High, pv0_4] 29] ++ (ic0_2 ++ (ic0_4 ++ (S0))))) := by
  refine Ret.of (fn := x55) rfl (Run.of ?_)
  unfold impl_Group_fetch at hF
  have zf0 : argFr [.ptr pb0 0, .int .i64 k_1, .int .i64 many_2] 0 = .ptr pb0 0 := rfl
  have zf1 : argFr [.ptr pb0 0, .int .i64 k_1, .int .i64 many_2] 1 = .int .i64 k_1 := rfl
  have zf2 : argFr [.ptr pb0 0, .int .i64 k_1, .int .i64 many_2] 2 = .int .i64 many_2 := rfl
  generalize argFr [.ptr pb0 0, .int .i64 k_1, .int .i64 many_2] = fr0 at zf0 zf1 zf2 ⊢
  simp only [x55, run_seq, run_reg, zf0, run_mv, run_chk, put1_some, xchk_ptr, run_ld, B0, reduceIte, reduceEqDiff]
  refine put1_eq (v := .agg [.int .i64 g_0.Epoch, .int .i64 g_0.Leader, pv0_2, .int .i64 g_0.High, pv0_4]) ((xld_bs (Sep.bk _ _ _ hS)).trans rfl) ?_
  obtain ⟨v1, hx2, hF3⟩ := bind_some' hF
  simp only [zf1, run_mv, run_call, B0, reduceIte, reduceEqDiff]
  refine call1 rfl (mapM1 (snap_agg (mapM1 snap_int (mapM1 snap_int (mapM1 (SlF.snap ph0_2 (Sep.m1 hS) rfl (fun _ => rfl) (fun _ => rfl)) (mapM1 snap_int (mapM1 (SlN.snap ph0_4 _
      (Sep.m2 hS) rfl Replica.RO) mapM0)))))) (mapM1 snap_int mapM0)) (impl_Group_shared_x (fun b hb => decide_eq_true hb) k g_0 k_1 v1 hx2) ?_
  simp only [run_mv, run_ops_nil, x55_3, run_seq, run_draw, zf0, d4_mv, put1d_some, d4_chk, xchk_ptr, d4_fa, Nat.reduceAdd, Nat.zero_add, Nat.add_zero, xfa_ptr, d4_ld, B0,
      reduceIte, reduceEqDiff]
  refine put1d_eq (v := pv0_4) ((xld_b (Sep.bk _ _ _ hS)).trans rfl) ?_
  simp only [zf0, d4_mv, put1d_some, d4_chk, xchk_ptr, d4_fa, Nat.reduceAdd, Nat.zero_add, Nat.add_zero, xfa_ptr, d4_ld, B0, reduceIte, reduceEqDiff]
  refine put1d_eq (v := .int .i64 g_0.Leader) ((xld_b (Sep.bk _ _ _ hS)).trans rfl) ?_
  obtain ⟨x4, hx5, hF6⟩ := bind_some' hF3
  simp only [d4_ia, B0, reduceIte, reduceEqDiff]
  obtain ⟨b7, hb8⟩ := SlN.isrow ph0_4 (geti_ne hx5)
  refine put1d_eq (SlN.ia ph0_4 hb8 hx5) ?_
  obtain ⟨c9, cs10, os11, hv12, hR13, hS14⟩ := SlG.opn (SlN.toG ph0_4 hb8 Replica.RO.len) hx5 hk_nil Replica.RO.len (Sep.m2 hS)
  obtain ⟨v16, c17, hv18, rfl, rfl⟩ := hR13
  have hS15 := Sep.no1 hS14
  simp only [d4_fa, put1d_some, Nat.reduceAdd, Nat.zero_add, Nat.add_zero, xfa_ptr, d4_ld, B0, reduceIte, reduceEqDiff]
  refine put1d_eq (v := v16) ((SlG.ld (o := 0) hv12 rfl hx5 hS15 (Nat.le_of_ble_eq_true rfl)).trans rfl) ?_
  obtain ⟨l20, hx21, hF22⟩ := bind_some' hF6
  simp only [d4_mv, put1d_some, d4_slc, Option.map_some, Option.map_none, B0, reduceIte, reduceEqDiff]
  obtain ⟨w23, i24, he25, hw26⟩ := SlF.win (f := Row.cells) (ty := 98) (some v1) none hv18 hx21 (Sep.m1 hS15)
  refine put1d_eq he25 ?_
  simp only [d4_mv, put1d_some, run_draw_nil, x55_2, run_seq, run_reg, zf0, run_mv, run_chk, put1_some, xchk_ptr, run_fa, Nat.reduceAdd, Nat.zero_add, Nat.add_zero, xfa_ptr,
      run_ld, B0, reduceIte, reduceEqDiff]
  refine put1_eq (v := pv0_4) ((xld_b (Sep.bk _ _ _ (Sep.m2 hS15))).trans rfl) ?_
  obtain ⟨x27, hx28, hF29⟩ := bind_some' hF22
  simp only [zf1, run_mv, run_ia, B0, reduceIte, reduceEqDiff]
  refine put1_eq (SlG.ia hv12 hx28) ?_
  simp only [run_mv, run_ops_nil, x55_1, run_seq, run_draw, d1_mv, put1d_some, d4_buildS, evp, B0, reduceIte, reduceEqDiff]
  refine put2d_buildSF (n := 2) (f := Row.cells) ([] : List Row) hS15 rfl rfl (fun v30 c31 h32 hv33 hS34 => ?_)
  obtain ⟨hp36, hF37⟩ := ck_some hF29
  have hn38 := tn_ne hp36 hx5 hx28
  obtain ⟨c39, cs40, os41, hv42, hR43, hS44⟩ := SlG.opn hv12 hx28 ((hk_ne hn38).trans hk_nil) Replica.RO.len (Sep.m1 hS34)
  obtain ⟨v46, c47, hv48, rfl, rfl⟩ := hR43
  have hS45 := Sep.no1 hS44
  simp only [d4_mv, put1d_some, d4_chk, xchk_ptr, d4_fa, Nat.reduceAdd, Nat.zero_add, Nat.add_zero, xfa_ptr, d4_ld, B0, reduceIte, reduceEqDiff]
  refine put1d_eq (v := v46) ((SlG.ld (o := 0) hv42 rfl hx28 hS45 (Nat.le_of_ble_eq_true rfl)).trans rfl) ?_
  obtain ⟨l50, hx51, hF52⟩ := bind_some' hF37
  simp only [d4_mv, put1d_some, d4_slc, Option.map_some, Option.map_none, B0, reduceIte, reduceEqDiff]
  obtain ⟨w53, i54, he55, hw56⟩ := SlF.win (f := Row.cells) (ty := 98) none (some v1) hv48 hx51 (Sep.m1 hS45)
  refine put1d_eq he55 ?_
  simp only [d3_app, B0, reduceIte, reduceEqDiff]
  obtain ⟨l57, hx58, hF59⟩ := bind_some' hF52
  refine put2d_appF (f := Row.cells) hv33 (Sep.m2 hS45) hW (fun _ => rfl) (fun _ => rfl) (SlW.first hw56 hv48 (Sep.m1 hS45) (fun _ => rfl)) hx58 (fun v60 c61 h62 hv63 hS64 => ?_)
  obtain ⟨l66, hx67, hF68⟩ := bind_some' hF59
  simp only [d1_mv, put1d_some, zf2, d1_len, SlW.plen hw26 hv18, d1_mnx, pminI, d1_slc, Option.map_some, Option.map_none, B0, reduceIte, reduceEqDiff]
  obtain ⟨w69, i70, he71, hw72⟩ := SlW.win (ty := 98) none (some (mnI many_2 (List.length l20 : Int))) hw26 hv18 hx67 (Sep.m3 hS64)
  refine put1d_eq he71 ?_
  simp only [d3_app, B0, reduceIte, reduceEqDiff]
  obtain ⟨l73, hx74, hF75⟩ := bind_some' hF68
  refine put2d_appF (f := Row.cells) hv63 hS64 hW (fun _ => rfl) (fun _ => rfl) (SlW.first hw72 hv18 (Sep.m3 hS64) (fun _ => rfl)) hx74 (fun v76 c77 h78 hv79 hS80 => ?_)
  simp only [d4_chk, put1d_some, xchk_ptr, d4_fa, Nat.reduceAdd, Nat.zero_add, Nat.add_zero, xfa_ptr, d3_st, B0, reduceIte, reduceEqDiff]
  refine put2d_stGx (us := [v76]) (o := 0) (cs' := [v76, .int .i64 x27.Epoch,
      .int .i64 x27.Known]) (cells_one (SlF.one hv79)) hv42 rfl hx28 (Sep.m1 hS80) hW rfl (all_c (SlF.one hv79) all_n) (Nat.le_of_ble_eq_true rfl) rfl (fun c84 h82 hv85 hS83 => ?_)
  obtain ⟨c86, hv87, hS88⟩ := SlG.cls (e' := (Replica.mk l73 x27.Epoch x27.Known)) (c := c84) (os := c77) hv85 rfl hx28 ((hk_ne hn38).trans hk_nil) (Replica.RI (x :=
      (Replica.mk l73 x27.Epoch x27.Known)) hv79) (Sep.m1 (Sep.m1 hS83))
  have hx89 := geti_set (x' := (Replica.mk l73 x27.Epoch x27.Known)) hx28
  have hx90 := geti_set_ne (e := (Replica.mk l73 x27.Epoch x27.Known)) hx5 (Ne.symm hn38)
  obtain ⟨c91, hv92, hS93⟩ := SlG.cls0 (c := c86) (os := c17) hv87 rfl hx90 hk_nil (Replica.RI (x := x4) hv18) (Sep.m1 (Sep.m2 hS88))
  have hv94 := SlG.toN hv92
  obtain ⟨v95, hx96, hF97⟩ := bind_some' hF75
  simp only [run_draw_nil, run_reg, zf0, run_mv, zf1, run_call, B0, reduceIte, reduceEqDiff]
  refine call0 rfl (impl_Group_know_x hW pb0 (Group.mk g_0.Epoch g_0.Leader g_0.InStep g_0.High (List.set g_0.Replicas k_1.toNat
      (Replica.mk l73 x27.Epoch x27.Known))) pv0_2 pc0_2 ph0_2 pv0_4 c91 hv94 k_1 v95 hx96 (Sep.m3 (Sep.m3 hS93))) ?_
  rintro _ h102 ⟨c98, c100, rfl, hv99, hv101, hS103⟩
  simp only [run_ops_nil, run_nil, B0, reduceIte, reduceEqDiff]
  have he := some_inj hF97
  subst he
  simp only [end_nor0, B0, reduceIte, reduceEqDiff]
  exact ⟨c98, c100, by first | trivial | rfl, hv99, hv101, (Sep.m2 (Sep.m2 (Sep.m2 (Sep.dc (Sep.m3 hS103)))))⟩
theorem cmp_isNaN_int_x {W : Nat → Bool} {h : Heap} (hW : ∀ b,
    (geL h.length) b → W b = true) (x_0 : Int) (r : Bool) (hF : some (cmp_isNaN_int x_0) = some r) : Ret E W 102 [.int .i64 x_0] h
    (fun v h' => cut h.length h' E.sz false 9 v = some (.bool r)) := by
  refine Ret.of (fn := x102) rfl (Run.of ?_)
  unfold cmp_isNaN_int at hF
  have zf0 : argFr [.int .i64 x_0] 0 = .int .i64 x_0 := rfl
  generalize argFr [.int .i64 x_0] = fr0 at zf0 ⊢
  have hS : Sep h (geL h.length) [] := Sep.nil h
  simp only [x102, run_seq, run_reg, run_mv, run_ops_nil, x102_1, zf0, run_bin, put1_some, xneq, run_ret, B0, reduceIte, reduceEqDiff]
  have he := some_inj hF
  subst he
  simp only [end_ret1, B0, reduceIte, reduceEqDiff]
  exact rfl
end Go.Proofs.Ytefgfcalgjmhjaa.X
namespace Go.Proofs.Ytefgfcalgjmhjaa.X
open Go
open Nat (reduceEqDiff)
theorem cmp_Less_int_x {W : Nat → Bool} {h : Heap} (hW : ∀ b,
    (geL h.length) b → W b = true) (x_0 : Int) (y_1 : Int) (r : Bool) (hF : some (cmp_Less_int x_0 y_1) = some r) : Ret E W 96 [.int .i64 x_0,
    .int .i64 y_1] h (fun v h' => cut h.length h' E.sz false 9 v = some (.bool r)) := by
  refine Ret.of (fn := x96) rfl (Run.of ?_)
  unfold cmp_Less_int at hF
  have zf0 : argFr [.int .i64 x_0, .int .i64 y_1] 0 = .int .i64 x_0 := rfl
  have zf1 : argFr [.int .i64 x_0, .int .i64 y_1] 1 = .int .i64 y_1 := rfl
  generalize argFr [.int .i64 x_0, .int .i64 y_1] = fr0 at zf0 zf1 ⊢
  have hS : Sep h (geL h.length) [] := Sep.nil h
  simp only [x96, run_seq, run_reg, run_mv, run_ops_nil, x96_1, zf0, run_call, B0, reduceIte, reduceEqDiff]
  refine call1 rfl (mapM1 snap_int mapM0) (cmp_isNaN_int_x (fun b hb => decide_eq_true hb) x_0 _ rfl) ?_
  simp only [run_mv, B0, reduceIte, reduceEqDiff]
  refine ops_j 4 (fun fr' h' => Sep h' (geL h.length) ([]) ∧ fr' 11 = .bool ((cmp_isNaN_int x_0) && (!(cmp_isNaN_int y_1))) ∧ fr' 0 = .int .i64 x_0 ∧ fr' 1 = .int .i64 y_1)
      (fun Q1 hN2 => ?_) ?_
  · simp only [List.take_succ_cons, List.take_zero]
    simp only [run_guard (g := 7), B0, reduceIte, reduceEqDiff]
    refine guard_split (t := (cmp_isNaN_int x_0)) (fun hg3 => ?_) (fun hg3 => ?_)
    · simp only [hg3, run_guard (g := 7), guard_true, zf1, run_mv, run_call, B0, reduceIte, reduceEqDiff]
      refine call1 rfl (mapM1 snap_int mapM0) (cmp_isNaN_int_x (fun b hb => decide_eq_true hb) y_1 _ rfl) ?_
      simp only [hg3, run_guard (g := 7), guard_true, run_un, put1_some, xnot, run_pick, xpick_t, run_ops_nil, run_nil, B0, reduceIte, reduceEqDiff]
      exact hN2 _ _ ⟨hS, by rw [andT hg3]; simp only [B0, reduceIte, reduceEqDiff], zf0, zf1⟩
    · simp only [hg3, run_guard (g := 7), guard_off, run_pick, put1_some, xpick_f, run_ops_nil, run_nil, B0, reduceIte, reduceEqDiff]
      exact hN2 _ _ ⟨hS, by rw [andF hg3]; simp only [B0, reduceIte, reduceEqDiff], zf0, zf1⟩
  rintro fr4 h8 ⟨hS9, f5, f6, f7⟩
  simp only [List.drop_succ_cons, List.drop_zero]
  simp only [f5, run_mv, B0, reduceIte, reduceEqDiff]
  refine ops_j 4 (fun fr' h' => Sep h' (geL h.length) ([]) ∧ fr' 16 = .bool (((cmp_isNaN_int x_0) && (!(cmp_isNaN_int y_1))) || (decide (x_0 < y_1)))) (fun Q10 hN11 => ?_) ?_
  · simp only [List.take_succ_cons, List.take_zero]
    simp only [run_guard (g := 12), B0, reduceIte, reduceEqDiff]
    refine guard_split (t := ((cmp_isNaN_int x_0) && (!(cmp_isNaN_int y_1)))) (fun hg12 => ?_) (fun hg12 => ?_)
    · simp only [hg12, run_guard (g := 12), guard_off', run_pick, put1_some, xpick_t, run_ops_nil, run_nil, B0, reduceIte, reduceEqDiff]
      exact hN11 _ _ ⟨hS9, by rw [orT hg12]; simp only [B0, reduceIte, reduceEqDiff]⟩
    · simp only [hg12, run_guard (g := 12), guard_false, f6, run_mv, f7, run_bin, put1_some, xlss, run_pick, xpick_f, run_ops_nil, run_nil, B0, reduceIte, reduceEqDiff]
      exact hN11 _ _ ⟨hS9, by rw [orF hg12]; simp only [B0, reduceIte, reduceEqDiff]⟩
  rintro fr13 h15 ⟨hS16, f14⟩
  simp only [List.drop_succ_cons, List.drop_zero]
  simp only [f14, run_mv, run_ops_nil, run_ret, B0, reduceIte, reduceEqDiff]
  have he := some_inj hF
  subst he
  simp only [end_ret1, B0, reduceIte, reduceEqDiff]
  exact rfl
theorem slices_isNaN_int_x {W : Nat → Bool} {h : Heap} (hW : ∀ b,
    (geL h.length) b → W b = true) (x_0 : Int) (r : Bool) (hF : some (slices_isNaN_int x_0) = some r) : Ret E W 97 [.int .i64 x_0] h
    (fun v h' => cut h.length h' E.sz false 9 v = some (.bool r)) := by
  refine Ret.of (fn := x97) rfl (Run.of ?_)
  unfold slices_isNaN_int at hF
  have zf0 : argFr [.int .i64 x_0] 0 = .int .i64 x_0 := rfl
  generalize argFr [.int .i64 x_0] = fr0 at zf0 ⊢
  have hS : Sep h (geL h.length) [] := Sep.nil h
  simp only [x97, run_seq, run_reg, run_mv, run_ops_nil, x97_1, zf0, run_bin, put1_some, xneq, run_ret, B0, reduceIte, reduceEqDiff]
  have he := some_inj hF
  subst he
  simp only [end_ret1, B0, reduceIte, reduceEqDiff]
  exact rfl
theorem slices_BinarySearch_int_x {W : Nat → Bool} {h : Heap} (hW : ∀ b,
    (geL h.length) b → W b = true) (k : Nat) (x_0 : List Int) (target_1 : Int) (r : Int × Bool) (hF : slices_BinarySearch_int k x_0 target_1 = some r) : Ret E W 89 [lst cI x_0,
    .int .i64 target_1] h (fun v h' => cut h.length h' E.sz false 9 v = some (.tup [.int .i64 r.1, .bool r.2])) := by
  refine Ret.of (fn := x89) rfl (Run.of ?_)
  unfold slices_BinarySearch_int at hF
  have zf0 : argFr [lst cI x_0, .int .i64 target_1] 0 = lst cI x_0 := rfl
  have zf1 : argFr [lst cI x_0, .int .i64 target_1] 1 = .int .i64 target_1 := rfl
  generalize argFr [lst cI x_0, .int .i64 target_1] = fr0 at zf0 zf1 ⊢
  have hS : Sep h (geL h.length) [] := Sep.nil h
  simp only [x89, run_seq, run_reg, run_mv, run_ops_nil, x89_10, zf0, run_len, put1_some, xlen_lst, x89_9, x89_8, B0, reduceIte, reduceEqDiff]
  obtain ⟨oc7, hX9, hk10⟩ := jn_some hF
  simp only [x89_6]
  refine loopF_j (σ := Int × Int) (fun s36 => slices_BinarySearch_int_b1 x_0 target_1 s36.1 s36.2)
      (fun s fr' h' => fr' 0 = lst cI x_0 ∧ fr' 1 = .int .i64 target_1 ∧ fr' 6 = .int .i64 (List.length x_0 : Int) ∧ fr' 7 = .int .i64 s.1 ∧ fr' 8 = .int .i64 s.2 ∧ Sep h'
      (geL h.length) ([])) hX9 ⟨zf0, zf1, rfl, rfl, rfl, hS⟩ (fun _ _ _ h => h) ?_ ?_
  · rintro ⟨s3, s4⟩ fr19 h20 ⟨f22, f23, f24, f25, f26, hS21⟩ oc8 hF11 hr12 Q13 hN14 hK15 hR16 hE17
    dsimp only at *
    unfold slices_BinarySearch_int_b1 at hF11
    simp only [x89_5, run_seq, run_reg, f25, run_mv, f26, run_bin, put1_some, xlss, run_ops_nil, run_cond, B0, reduceIte, reduceEqDiff]
    refine cond_split (t := (decide (s3 < s4))) (fun hc28 => ?_) (fun hc28 => ?_)
    · rw [iteT hc28] at hF11
      obtain ⟨x29, hx30, hF31⟩ := bind_some' hF11
      simp only [run_skip, x89_4, run_block, x89_3, run_seq, run_reg, f25, run_mv, f26, run_bin, put1_some, xadd, run_cvt, xcvt_i, xshr_nn (n := 1) (by decide), run_ops_nil,
          x89_2, f22, run_ia, B0, reduceIte, reduceEqDiff]
      refine put1_eq (v := .ref (cI x29) 0) (xia_lst hx30 rfl) ?_
      simp only [run_ld, B0, reduceIte, reduceEqDiff]
      refine put1_eq (v := .int .i64 x29) rfl ?_
      simp only [f23, run_mv, run_call, B0, reduceIte, reduceEqDiff]
      refine call1 rfl (mapM1 snap_int (mapM1 snap_int mapM0)) (cmp_Less_int_x (fun b hb => decide_eq_true hb) x29 target_1 _ rfl) ?_
      simp only [run_ops_nil, x89_1, run_cond, B0, reduceIte, reduceEqDiff]
      refine cond_split (t := (cmp_Less_int x29 target_1)) (fun hc32 => ?_) (fun hc32 => ?_)
      · rw [iteT hc32] at hF31
        simp only [run_reg, run_mv, run_bin, put1_some, xadd, run_ops_nil, run_blk, run_nil, B0, reduceIte, reduceEqDiff]
        have e33 := some_inj hF31
        exact hN14 _ _ _ e33.symm ⟨f22, f23, f24, rfl, f26, hS21⟩
      rw [iteF hc32] at hF31
      simp only [run_reg, run_mv, run_ops_nil, run_blk, run_nil, B0, reduceIte, reduceEqDiff]
      have e34 := some_inj hF31
      exact hN14 _ _ _ e34.symm ⟨f22, f23, f24, f25, rfl, hS21⟩
    rw [iteF hc28] at hF11
    simp only [run_exit, out_code, out_nil, B0, reduceIte, reduceEqDiff]
    have e35 := some_inj hF11
    exact hK15 _ _ _ e35.symm ⟨f22, f23, f24, f25, f26, hS21⟩
  rintro ⟨s37, s38⟩ fr39 h40 rfl ⟨f42, f43, f44, f45, f46, hS41⟩
  dsimp only [jnO] at hk10
  dsimp only at *
  unfold slices_BinarySearch_int_j1 at hk10
  simp only [x89_7, run_seq, run_reg, f45, run_mv, f44, run_bin, put1_some, xlss, B0, reduceIte, reduceEqDiff]
  obtain ⟨v50, hx51, hF52⟩ := bind_some' hk10
  refine ops_j 18 (fun fr' h' => Sep h' (geL h.length) ([]) ∧ fr' 53 = .bool v50 ∧ fr' 31 = .int .i64 s37) (fun Q47 hN48 => ?_) ?_
  · simp only [List.take_succ_cons, List.take_zero]
    simp only [run_guard (g := 35), B0, reduceIte, reduceEqDiff]
    refine guard_split (t := (decide (s37 < (List.length x_0 : Int)))) (fun hg49 => ?_) (fun hg49 => ?_)
    · rw [iteT hg49] at hx51
      obtain ⟨x53, hx54, hF55⟩ := bind_some' hx51
      simp only [hg49, run_guard (g := 35), guard_true, f42, run_mv, f45, run_ia, B0, reduceIte, reduceEqDiff]
      refine put1_eq (v := .ref (cI x53) 0) (xia_lst hx54 rfl) ?_
      simp only [hg49, run_guard (g := 35), guard_true, run_ld, B0, reduceIte, reduceEqDiff]
      refine put1_eq (v := .int .i64 x53) rfl ?_
      simp only [hg49, run_guard (g := 35), guard_true, f43, run_mv, run_bin, put1_some, xeql, B0, reduceIte, reduceEqDiff]
      obtain ⟨v59, hx60, hF61⟩ := bind_some' hF55
      refine ops_j 10 (fun fr' h' => Sep h' (geL h.length) ([]) ∧ fr' 52 = .bool v59 ∧ fr' 31 = .int .i64 s37 ∧ fr' 35 = .bool (decide (s37 < (List.length x_0 : Int))))
          (fun Q56 hN57 => ?_) ?_
      · simp only [List.take_succ_cons, List.take_zero]
        simp only [run_guard (g := 42), B0, reduceIte, reduceEqDiff]
        refine guard_split (t := (decide (x53 = target_1))) (fun hg58 => ?_) (fun hg58 => ?_)
        · rw [iteT hg58] at hx60
          simp only [hg58, run_guard (g := 42), guard_off', run_guard (g := 48), guard_tup, hg49, run_guard (g := 35), guard_true, run_pick, put1_some, xpick_t, run_ops_nil,
              run_nil, B0, reduceIte, reduceEqDiff]
          have e62 := some_inj hx60
          exact hN57 _ _ ⟨hS41, by rw [← e62]; simp only [B0, reduceIte, reduceEqDiff], rfl, by simp only [hg49, B0, reduceIte, reduceEqDiff]⟩
        · rw [iteF hg58] at hx60
          obtain ⟨x63, hx64, hF65⟩ := bind_some' hx60
          simp only [hg58, run_guard (g := 42), guard_false, f42, run_mv, f45, run_ia, B0, reduceIte, reduceEqDiff]
          refine put1_eq (v := .ref (cI x63) 0) (xia_lst hx64 rfl) ?_
          simp only [hg58, run_guard (g := 42), guard_false, run_ld, B0, reduceIte, reduceEqDiff]
          refine put1_eq (v := .int .i64 x63) rfl ?_
          simp only [hg58, run_guard (g := 42), guard_false, run_call, B0, reduceIte, reduceEqDiff]
          refine call1 rfl (mapM1 snap_int mapM0) (slices_isNaN_int_x (fun b hb => decide_eq_true hb) x63 _ rfl) ?_
          simp only [hg58, run_guard (g := 42), guard_false, run_mv, B0, reduceIte, reduceEqDiff]
          refine ops_j 3 (fun fr' h' => Sep h' (geL h.length) ([]) ∧ fr' 51 = .bool ((slices_isNaN_int x63) &&
              (slices_isNaN_int target_1)) ∧ fr' 31 = .int .i64 s37 ∧ fr' 35 = .bool (decide (s37 < (List.length x_0 : Int))) ∧ fr' 42 = .bool (decide (x53 = target_1)))
              (fun Q66 hN67 => ?_) ?_
          · simp only [List.take_succ_cons, List.take_zero]
            simp only [run_guard (g := 48), B0, reduceIte, reduceEqDiff]
            refine guard_split (t := (slices_isNaN_int x63)) (fun hg68 => ?_) (fun hg68 => ?_)
            · simp only [hg68, run_guard (g := 48), guard_true, f43, run_mv, run_call, B0, reduceIte, reduceEqDiff]
              refine call1 rfl (mapM1 snap_int mapM0) (slices_isNaN_int_x (fun b hb => decide_eq_true hb) target_1 _ rfl) ?_
              simp only [hg58, run_guard (g := 42), guard_false, hg68, run_pick, put1_some, xpick_t, run_ops_nil, run_nil, B0, reduceIte, reduceEqDiff]
              exact hN67 _ _ ⟨hS41, by rw [andT hg68]; simp only [B0, reduceIte, reduceEqDiff], rfl, by simp only [hg49, B0, reduceIte, reduceEqDiff], by simp only [hg58, B0,
                  reduceIte, reduceEqDiff]⟩
            · simp only [hg68, run_guard (g := 48), guard_off, hg58, run_guard (g := 42), guard_false, run_pick, put1_some, xpick_f, run_ops_nil, run_nil, B0, reduceIte,
                reduceEqDiff]
              exact hN67 _ _ ⟨hS41, by rw [andF hg68]; simp only [B0, reduceIte, reduceEqDiff], rfl, by simp only [hg49, B0, reduceIte, reduceEqDiff], by simp only [hg58, B0,
                  reduceIte, reduceEqDiff]⟩
          rintro fr69 h74 ⟨hS75, f70, f71, f72, f73⟩
          simp only [List.drop_succ_cons, List.drop_zero]
          simp only [f72, hg49, run_guard (g := 35), guard_true, f73, hg58, run_pick, put1_some, xpick_f, f70, run_ops_nil, run_nil, B0, reduceIte, reduceEqDiff]
          have e76 := some_inj hF65
          exact hN57 _ _ ⟨hS75, by rw [← e76]; simp only [B0, reduceIte, reduceEqDiff], f71, by simp only [f72, hg49, B0, reduceIte, reduceEqDiff]⟩
      rintro fr77 h81 ⟨hS82, f78, f79, f80⟩
      simp only [List.drop_succ_cons, List.drop_zero]
      simp only [f80, hg49, run_pick, put1_some, xpick_t, f78, run_ops_nil, run_nil, B0, reduceIte, reduceEqDiff]
      have e83 := some_inj hF61
      exact hN48 _ _ ⟨hS82, by rw [← e83]; simp only [B0, reduceIte, reduceEqDiff], f79⟩
    · rw [iteF hg49] at hx51
      simp only [hg49, run_guard (g := 35), guard_off, run_guard (g := 42), guard_tup, run_guard (g := 48), run_pick, put1_some, xpick_f, run_ops_nil, run_nil, B0, reduceIte,
          reduceEqDiff]
      have e84 := some_inj hx51
      exact hN48 _ _ ⟨hS41, by rw [← e84]; simp only [B0, reduceIte, reduceEqDiff], rfl⟩
  rintro fr85 h88 ⟨hS89, f86, f87⟩
  simp only [List.drop_succ_cons, List.drop_zero]
  simp only [f87, run_mv, f86, run_ops_nil, run_ret, B0, reduceIte, reduceEqDiff]
  have he := some_inj hF52
  subst he
  simp only [end_ret2, B0, reduceIte, reduceEqDiff]
  exact cut_tup (mapM1 rfl (mapM1 rfl mapM0))
theorem slices_Delete_int_x {W : Nat → Bool} {h : Heap} {lo : Nat → Prop} {S0 : List Obj} (hW : ∀ b,
    lo b → W b = true) (pv0 : XV) (pc0 : List Obj) (s_0 : List Int) (ph0 : SlF cI 1 3 pv0 s_0 pc0) (i_1 : Int) (j_2 : Int) (r : List Int)
    (hF : slices_Delete_int s_0 i_1 j_2 = some r) (hS : Sep h lo (pc0 ++ S0)) : Ret E W 90 [pv0, .int .i64 i_1, .int .i64 j_2] h (fun v h' => ∃ rv0 rc0,
    v = rv0 ∧ SlF cI 1 3 rv0 r rc0 ∧ Sep h' lo (rc0 ++ S0)) := delF_x (f := cI) (n := 1) (ty := 3) (bytes := 8) (z := [(.int .i64 0)]) rfl (fun _ => rfl)
    (fun _ => rfl) rfl rfl rfl hW ph0 hF hS
end Go.Proofs.Ytefgfcalgjmhjaa.X
