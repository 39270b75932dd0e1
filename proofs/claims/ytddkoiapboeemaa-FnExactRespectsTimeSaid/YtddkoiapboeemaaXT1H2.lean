/- The functions' code comes to what the plain functions say (2). -/
import Derived.Test.YtddkoiapboeemaaXT1H1
set_option linter.unusedVariables false
set_option linter.unusedSimpArgs false
set_option maxRecDepth 100000
namespace Go.Proofs.Ytddkoiapboeemaa.X
open Go
open Nat (reduceEqDiff)
theorem spec_l15Order_x {W : Nat → Bool} {h : Heap} (hW : ∀ b,
    (geL h.length) b → W b = true) (n_0 : Int) (order_1 : List Int) (r : Bool) (hF : spec_l15Order n_0 order_1 = some r) : Ret E W 52 [.int .i64 n_0,
    lst cI order_1] h (fun v h' => cut h.length h' E.sz false 9 v = some (.bool r)) := by
  refine Ret.of (fn := x52) rfl (Run.of ?_)
  unfold spec_l15Order at hF
  have zf0 : argFr [.int .i64 n_0, lst cI order_1] 0 = .int .i64 n_0 := rfl
  have zf1 : argFr [.int .i64 n_0, lst cI order_1] 1 = lst cI order_1 := rfl
  generalize argFr [.int .i64 n_0, lst cI order_1] = fr0 at zf0 zf1 ⊢
  have hS : Sep h (geL h.length) [] := Sep.nil h
  simp only [x52, run_seq, run_reg, run_mv, run_ops_nil, x52_6, zf1, run_len, put1_some, xlen_lst, B0, reduceIte, reduceEqDiff]
  obtain ⟨oc3, hX5, hk6⟩ := jn_some hF
  simp only [x52_4]
  refine rangeL_j (σ := Unit) order_1 (fun i1 x2 _ => spec_l15Order_b1 n_0 order_1 i1 x2 )
      (fun s fr' h' => fr' 0 = .int .i64 n_0 ∧ fr' 1 = lst cI order_1 ∧ fr' 7 = lst cI order_1 ∧ Sep h' (geL h.length) ([])) hX5 ⟨zf0, zf1, rfl, hS⟩ (by simp only [B0, reduceIte,
      reduceEqDiff]) (by simp only [B0, reduceIte, reduceEqDiff]) (fun _ _ _ h => h) rfl rfl (fun _ _ _ _ h => h) (fun _ _ _ _ h => h) (fun _ _ _ _ h => h) (by decide) ?_ ?_
  · rintro i1 x2 _ fr15 h16 hx21 ⟨f18, f19, f20, hS17⟩ f22 f23 oc4 hF7 hr8 Q9 hN10 hB14 hK11 hR12 hE13
    unfold spec_l15Order_b1 at hF7
    simp only [x52_2, run_seq, run_reg, f22, run_mv, f20, run_ia, B0, reduceIte, reduceEqDiff]
    refine put1_eq (v := .ref (cI x2) 0) (xia_lstN hx21 rfl) ?_
    simp only [run_ld, B0, reduceIte, reduceEqDiff]
    refine put1_eq (v := .int .i64 x2) rfl ?_
    simp only [run_mv, run_ops_nil, x52_1, run_seq, run_reg, run_bin, put1_some, xlss, B0, reduceIte, reduceEqDiff]
    refine ops_j 4 (fun fr' h' => Sep h' (geL h.length) ([]) ∧ fr' 20 = .bool ((decide (x2 < 0)) || (decide
        (n_0 ≤ x2))) ∧ fr' 0 = .int .i64 n_0 ∧ fr' 1 = lst cI order_1 ∧ fr' 5 = .int .i64 (i1 : Int) ∧ fr' 6 = .int .i64 x2 ∧ fr' 7 = lst cI order_1 ∧ fr' 8 = .int .i64
        (List.length order_1 : Int) ∧ fr' 9 = .int .i64 (i1 : Int)) (fun Q24 hN25 => ?_) ?_
    · simp only [List.take_succ_cons, List.take_zero]
      simp only [run_guard (g := 16), B0, reduceIte, reduceEqDiff]
      refine guard_split (t := (decide (x2 < 0))) (fun hg26 => ?_) (fun hg26 => ?_)
      · simp only [hg26, run_guard (g := 16), guard_off', run_pick, put1_some, xpick_t, run_ops_nil, run_nil, B0, reduceIte, reduceEqDiff]
        exact hN25 _ _ ⟨hS17, by rw [orT hg26]; simp only [B0, reduceIte, reduceEqDiff], f18, f19, rfl, rfl, f20, f23, f22⟩
      · simp only [hg26, run_guard (g := 16), guard_false, run_mv, f18, run_bin, put1_some, xgeq, run_pick, xpick_f, run_ops_nil, run_nil, B0, reduceIte, reduceEqDiff]
        exact hN25 _ _ ⟨hS17, by rw [orF hg26]; simp only [B0, reduceIte, reduceEqDiff], f18, f19, rfl, rfl, f20, f23, f22⟩
    rintro fr27 h36 ⟨hS37, f28, f29, f30, f31, f32, f33, f34, f35⟩
    simp only [List.drop_succ_cons, List.drop_zero]
    simp only [f28, run_mv, B0, reduceIte, reduceEqDiff]
    obtain ⟨v41, hx42, hF43⟩ := bind_some' hF7
    refine ops_j 6 (fun fr' h' => Sep h' (geL h.length) ([]) ∧ fr' 27 = .bool v41 ∧ fr' 0 = .int .i64 n_0 ∧ fr' 1 = lst cI order_1 ∧ fr' 7 = lst cI order_1 ∧ fr' 8 = .int .i64
        (List.length order_1 : Int) ∧ fr' 9 = .int .i64 (i1 : Int)) (fun Q38 hN39 => ?_) ?_
    · simp only [List.take_succ_cons, List.take_zero]
      simp only [run_guard (g := 21), B0, reduceIte, reduceEqDiff]
      refine guard_split (t := ((decide (x2 < 0)) || (decide (n_0 ≤ x2)))) (fun hg40 => ?_) (fun hg40 => ?_)
      · rw [iteT hg40] at hx42
        simp only [hg40, run_guard (g := 21), guard_off', run_pick, put1_some, xpick_t, run_ops_nil, run_nil, B0, reduceIte, reduceEqDiff]
        have e44 := some_inj hx42
        exact hN39 _ _ ⟨hS37, by rw [← e44]; simp only [B0, reduceIte, reduceEqDiff], f29, f30, f33, f34, f35⟩
      · rw [iteF hg40] at hx42
        obtain ⟨l45, hx46, hF47⟩ := bind_some' hx42
        simp only [hg40, run_guard (g := 21), guard_false, f30, run_mv, f31, run_slc, Option.map_some, Option.map_none, B0, reduceIte, reduceEqDiff]
        refine put1_eq (pslc_lst_hi hx46 (fun _ => rfl)) ?_
        obtain ⟨v48, hx49, hF50⟩ := bind_some' hF47
        simp only [hg40, run_guard (g := 21), guard_false, f32, run_mv, run_call, B0, reduceIte, reduceEqDiff]
        refine call1 rfl (mapM1 snap_lst (mapM1 snap_int mapM0)) (spec_l1Has_x (fun b hb => decide_eq_true hb) l45 x2 v48 hx49) ?_
        simp only [hg40, run_pick, put1_some, xpick_f, run_ops_nil, run_nil, B0, reduceIte, reduceEqDiff]
        have e51 := some_inj hF50
        exact hN39 _ _ ⟨hS37, by rw [← e51]; simp only [B0, reduceIte, reduceEqDiff], f29, f30, f33, f34, f35⟩
    rintro fr52 h59 ⟨hS60, f53, f54, f55, f56, f57, f58⟩
    simp only [List.drop_succ_cons, List.drop_zero]
    simp only [run_ops_nil, f53, run_cond, B0, reduceIte, reduceEqDiff]
    refine cond_split (t := v41) (fun hc61 => ?_) (fun hc61 => ?_)
    · rw [iteT hc61] at hF43
      simp only [run_seq, run_reg, run_mv, run_ops_nil, run_ret, B0, reduceIte, reduceEqDiff]
      have e62 := some_inj hF43
      subst e62
      have ho63 := hr8 _ rfl
      have hk64 := hk6
      rw [ho63] at hk64
      dsimp only [jnO] at hk64
      apply hR12
      have he := some_inj hk64
      subst he
      simp only [end_ret1, B0, reduceIte, reduceEqDiff]
      exact rfl
    rw [iteF hc61] at hF43
    simp only [run_skip, run_nil, B0, reduceIte, reduceEqDiff]
    have e65 := some_inj hF43
    exact hN10 _ _ _ e65.symm ⟨f54, f55, f56, hS60⟩ (f58) (f57)
  rintro _ fr67 h68 rfl ⟨f70, f71, f72, hS69⟩
  dsimp only [jnO] at hk6
  unfold spec_l15Order_j1 at hk6
  simp only [x52_5, run_seq, run_reg, f71, run_mv, run_len, put1_some, xlen_lst, f70, run_bin, xeql, run_ops_nil, run_ret, B0, reduceIte, reduceEqDiff]
  have he := some_inj hk6
  subst he
  simp only [end_ret1, B0, reduceIte, reduceEqDiff]
  exact rfl
theorem spec_l15Before_x {W : Nat → Bool} {h : Heap} (hW : ∀ b,
    (geL h.length) b → W b = true) (a_0 : Call) (b_1 : Call) (clients_2 : Bool) (r : Bool)
    (hF : spec_l15Before a_0 b_1 clients_2 = some r) : Ret E W 53 [.agg [.int .i64 a_0.Client, .int .i64 a_0.Object, .bool a_0.Write, .int .i64 a_0.Value, .int .i64 a_0.Begin,
    .int .i64 a_0.End], .agg [.int .i64 b_1.Client, .int .i64 b_1.Object, .bool b_1.Write, .int .i64 b_1.Value, .int .i64 b_1.Begin, .int .i64 b_1.End],
    .bool clients_2] h (fun v h' => cut h.length h' E.sz false 9 v = some (.bool r)) := by
  refine Ret.of (fn := x53) rfl (Run.of ?_)
  unfold spec_l15Before at hF
  have zf0 : argFr [.agg [.int .i64 a_0.Client, .int .i64 a_0.Object, .bool a_0.Write, .int .i64 a_0.Value, .int .i64 a_0.Begin, .int .i64 a_0.End], .agg [.int .i64 b_1.Client,
      .int .i64 b_1.Object, .bool b_1.Write, .int .i64 b_1.Value, .int .i64 b_1.Begin, .int .i64 b_1.End], .bool clients_2] 0 = .agg [.int .i64 a_0.Client, .int .i64 a_0.Object,
      .bool a_0.Write, .int .i64 a_0.Value, .int .i64 a_0.Begin, .int .i64 a_0.End] := rfl
  have zf1 : argFr [.agg [.int .i64 a_0.Client, .int .i64 a_0.Object, .bool a_0.Write, .int .i64 a_0.Value, .int .i64 a_0.Begin, .int .i64 a_0.End], .agg [.int .i64 b_1.Client,
      .int .i64 b_1.Object, .bool b_1.Write, .int .i64 b_1.Value, .int .i64 b_1.Begin, .int .i64 b_1.End], .bool clients_2] 1 = .agg [.int .i64 b_1.Client, .int .i64 b_1.Object,
      .bool b_1.Write, .int .i64 b_1.Value, .int .i64 b_1.Begin, .int .i64 b_1.End] := rfl
  have zf2 : argFr [.agg [.int .i64 a_0.Client, .int .i64 a_0.Object, .bool a_0.Write, .int .i64 a_0.Value, .int .i64 a_0.Begin, .int .i64 a_0.End], .agg [.int .i64 b_1.Client,
      .int .i64 b_1.Object, .bool b_1.Write, .int .i64 b_1.Value, .int .i64 b_1.Begin, .int .i64 b_1.End], .bool clients_2] 2 = .bool clients_2 := rfl
  generalize argFr [.agg [.int .i64 a_0.Client, .int .i64 a_0.Object, .bool a_0.Write, .int .i64 a_0.Value, .int .i64 a_0.Begin, .int .i64 a_0.End], .agg [.int .i64 b_1.Client,
      .int .i64 b_1.Object, .bool b_1.Write, .int .i64 b_1.Value, .int .i64 b_1.Begin, .int .i64 b_1.End], .bool clients_2] = fr0 at zf0 zf1 zf2 ⊢
  have hS : Sep h (geL h.length) [] := Sep.nil h
  simp only [x53, run_seq, run_reg, run_box, zf0, B0, reduceIte, reduceEqDiff]
  refine put2_boxC (cs := [.int .i64 a_0.Client, .int .i64 a_0.Object, .bool a_0.Write, .int .i64 a_0.Value, .int .i64 a_0.Begin,
      .int .i64 a_0.End]) hS rfl rfl rfl (fun b1 h2 hS3 => ?_)
  simp only [run_box, zf1, B0, reduceIte, reduceEqDiff]
  refine put2_boxC (cs := [.int .i64 b_1.Client, .int .i64 b_1.Object, .bool b_1.Write, .int .i64 b_1.Value, .int .i64 b_1.Begin,
      .int .i64 b_1.End]) hS3 rfl rfl rfl (fun b5 h6 hS7 => ?_)
  simp only [run_mv, run_ops_nil, B0, reduceIte, reduceEqDiff]
  refine frz_stepC (Sep.m1 hS7) hW (by simp only [B0, reduceIte, reduceEqDiff]) (fun h9 hS10 => ?_)
  refine frz_stepC hS10 hW (by simp only [B0, reduceIte, reduceEqDiff]) (fun h11 hS12 => ?_)
  simp only [run_frz_nil, x53_4, run_seq, run_reg, zf2, run_mv, run_ops_nil, x53_2, run_cond, B0, reduceIte, reduceEqDiff]
  refine cond_split (t := clients_2) (fun hc13 => ?_) (fun hc13 => ?_)
  · rw [iteT hc13] at hF
    simp only [x53_1, run_seq, run_reg, run_fa, put1_some, Nat.reduceAdd, Nat.zero_add, Nat.add_zero, xfa_ref, run_ld, B0, reduceIte, reduceEqDiff]
    refine put1_eq (v := .int .i64 a_0.Client) rfl ?_
    simp only [run_fa, put1_some, Nat.reduceAdd, Nat.zero_add, Nat.add_zero, xfa_ref, run_ld, B0, reduceIte, reduceEqDiff]
    refine put1_eq (v := .int .i64 b_1.Client) rfl ?_
    simp only [run_bin, put1_some, xeql, run_mv, B0, reduceIte, reduceEqDiff]
    refine ops_j 6 (fun fr' h' => Sep h' (geL h.length) ([]) ∧ fr' 19 = .bool ((decide (a_0.Client = b_1.Client)) && (decide (a_0.Begin < b_1.Begin)))) (fun Q14 hN15 => ?_) ?_
    · simp only [List.take_succ_cons, List.take_zero]
      simp only [run_guard (g := 13), B0, reduceIte, reduceEqDiff]
      refine guard_split (t := (decide (a_0.Client = b_1.Client))) (fun hg16 => ?_) (fun hg16 => ?_)
      · simp only [hg16, run_guard (g := 13), guard_true, run_fa, put1_some, Nat.reduceAdd, Nat.zero_add, Nat.add_zero, xfa_ref, run_ld, B0, reduceIte, reduceEqDiff]
        refine put1_eq (v := .int .i64 a_0.Begin) rfl ?_
        simp only [hg16, run_guard (g := 13), guard_true, run_fa, put1_some, Nat.reduceAdd, Nat.zero_add, Nat.add_zero, xfa_ref, run_ld, B0, reduceIte, reduceEqDiff]
        refine put1_eq (v := .int .i64 b_1.Begin) rfl ?_
        simp only [hg16, run_guard (g := 13), guard_true, run_bin, put1_some, xlss, run_pick, xpick_t, run_ops_nil, run_nil, B0, reduceIte, reduceEqDiff]
        exact hN15 _ _ ⟨hS12, by rw [andT hg16]; simp only [B0, reduceIte, reduceEqDiff]⟩
      · simp only [hg16, run_guard (g := 13), guard_off, run_pick, put1_some, xpick_f, run_ops_nil, run_nil, B0, reduceIte, reduceEqDiff]
        exact hN15 _ _ ⟨hS12, by rw [andF hg16]; simp only [B0, reduceIte, reduceEqDiff]⟩
    rintro fr17 h19 ⟨hS20, f18⟩
    simp only [List.drop_succ_cons, List.drop_zero]
    simp only [f18, run_mv, run_ops_nil, run_ret, B0, reduceIte, reduceEqDiff]
    have he := some_inj hF
    subst he
    simp only [end_ret1, B0, reduceIte, reduceEqDiff]
    exact rfl
  rw [iteF hc13] at hF
  simp only [run_skip, x53_3, run_seq, run_reg, run_fa, put1_some, Nat.reduceAdd, Nat.zero_add, Nat.add_zero, xfa_ref, run_ld, B0, reduceIte, reduceEqDiff]
  refine put1_eq (v := .int .i64 a_0.End) rfl ?_
  simp only [run_fa, put1_some, Nat.reduceAdd, Nat.zero_add, Nat.add_zero, xfa_ref, run_ld, B0, reduceIte, reduceEqDiff]
  refine put1_eq (v := .int .i64 b_1.Begin) rfl ?_
  simp only [run_bin, put1_some, xleq, run_mv, run_ops_nil, run_ret, B0, reduceIte, reduceEqDiff]
  have he := some_inj hF
  subst he
  simp only [end_ret1, B0, reduceIte, reduceEqDiff]
  exact rfl
theorem spec_RespectsTime_x {W : Nat → Bool} {h : Heap} (hW : ∀ b,
    (geL h.length) b → W b = true) (l_0 : List Call) (order_1 : List Int) (r : Bool × Bool) (hF : spec_RespectsTime l_0 order_1 = some r) : Ret E W 27 [lst Call.cells l_0,
    lst cI order_1] h (fun v h' => cut h.length h' E.sz false 9 v = some (.tup [.bool r.1, .bool r.2])) := by
  refine Ret.of (fn := x27) rfl (Run.of ?_)
  unfold spec_RespectsTime at hF
  have zf0 : argFr [lst Call.cells l_0, lst cI order_1] 0 = lst Call.cells l_0 := rfl
  have zf1 : argFr [lst Call.cells l_0, lst cI order_1] 1 = lst cI order_1 := rfl
  generalize argFr [lst Call.cells l_0, lst cI order_1] = fr0 at zf0 zf1 ⊢
  have hS : Sep h (geL h.length) [] := Sep.nil h
  obtain ⟨v1, hx2, hF3⟩ := bind_some' hF
  simp only [x27, run_seq, run_reg, run_mv, run_ops_nil, x27_12, zf0, run_call, B0, reduceIte, reduceEqDiff]
  refine call1 rfl (mapM1 snap_lst mapM0) (spec_GoodCalls_x (fun b hb => decide_eq_true hb) l_0 v1 hx2) ?_
  simp only [run_un, put1_some, xnot, run_mv, B0, reduceIte, reduceEqDiff]
  obtain ⟨v7, hx8, hF9⟩ := bind_some' hF3
  refine ops_j 6 (fun fr' h' => Sep h' (geL h.length) ([]) ∧ fr' 19 = .bool v7 ∧ fr' 0 = lst Call.cells l_0 ∧ fr' 1 = lst cI order_1) (fun Q4 hN5 => ?_) ?_
  · simp only [List.take_succ_cons, List.take_zero]
    simp only [run_guard (g := 13), B0, reduceIte, reduceEqDiff]
    refine guard_split (t := (!v1)) (fun hg6 => ?_) (fun hg6 => ?_)
    · rw [iteT hg6] at hx8
      simp only [hg6, run_guard (g := 13), guard_off', run_pick, put1_some, xpick_t, run_ops_nil, run_nil, B0, reduceIte, reduceEqDiff]
      have e10 := some_inj hx8
      exact hN5 _ _ ⟨hS, by rw [← e10]; simp only [B0, reduceIte, reduceEqDiff], zf0, zf1⟩
    · rw [iteF hg6] at hx8
      obtain ⟨v11, hx12, hF13⟩ := bind_some' hx8
      simp only [hg6, run_guard (g := 13), guard_false, zf0, run_mv, run_len, put1_some, xlen_lst, zf1, run_call, B0, reduceIte, reduceEqDiff]
      refine call1 rfl (mapM1 snap_int (mapM1 snap_lst mapM0)) (spec_l15Order_x (fun b hb => decide_eq_true hb) (List.length l_0 : Int) order_1 v11 hx12) ?_
      simp only [hg6, run_guard (g := 13), guard_false, run_un, put1_some, xnot, run_pick, xpick_f, run_ops_nil, run_nil, B0, reduceIte, reduceEqDiff]
      have e14 := some_inj hF13
      exact hN5 _ _ ⟨hS, by rw [← e14]; simp only [B0, reduceIte, reduceEqDiff], zf0, zf1⟩
  rintro fr15 h19 ⟨hS20, f16, f17, f18⟩
  simp only [List.drop_succ_cons, List.drop_zero]
  simp only [run_ops_nil, x27_1, f16, run_cond, B0, reduceIte, reduceEqDiff]
  refine cond_split (t := v7) (fun hc21 => ?_) (fun hc21 => ?_)
  · rw [iteT hc21] at hF9
    simp only [run_seq, run_reg, run_mv, run_ops_nil, run_ret, B0, reduceIte, reduceEqDiff]
    have he := some_inj hF9
    subst he
    simp only [end_ret2, B0, reduceIte, reduceEqDiff]
    exact cut_tup (mapM1 rfl (mapM1 rfl mapM0))
  rw [iteF hc21] at hF9
  simp only [run_skip, x27_11, run_seq, run_reg, f18, run_mv, run_len, put1_some, xlen_lst, run_ops_nil, B0, reduceIte, reduceEqDiff]
  obtain ⟨oc24, hX26, hk27⟩ := jn_some hF9
  simp only [x27_10]
  refine rangeL_j (σ := Unit) order_1 (fun i22 x23 _ => spec_RespectsTime_b2 l_0 order_1 i22 x23 )
      (fun s fr' h' => fr' 0 = lst Call.cells l_0 ∧ fr' 1 = lst cI order_1 ∧ fr' 20 = lst cI order_1 ∧ Sep h' (geL h.length) ([])) hX26 ⟨f17, f18, rfl, hS20⟩ (by simp only [B0,
      reduceIte, reduceEqDiff]) (by simp only [B0, reduceIte,
      reduceEqDiff]) (fun _ _ _ h => h) rfl rfl (fun _ _ _ _ h => h) (fun _ _ _ _ h => h) (fun _ _ _ _ h => h) (by decide) ?_ ?_
  · rintro i22 x23 _ fr36 h37 hx42 ⟨f39, f40, f41, hS38⟩ f43 f44 oc25 hF28 hr29 Q30 hN31 hB35 hK32 hR33 hE34
    unfold spec_RespectsTime_b2 at hF28
    simp only [x27_8, run_seq, run_reg, f43, run_mv, f41, run_ia, B0, reduceIte, reduceEqDiff]
    refine put1_eq (v := .ref (cI x23) 0) (xia_lstN hx42 rfl) ?_
    simp only [run_ld, B0, reduceIte, reduceEqDiff]
    refine put1_eq (v := .int .i64 x23) rfl ?_
    obtain ⟨l45, hx46, hF47⟩ := bind_some' hF28
    simp only [run_mv, run_ops_nil, x27_7, run_seq, run_reg, f40, run_bin, put1_some, xadd, run_slc, Option.map_some, Option.map_none, B0, reduceIte, reduceEqDiff]
    refine put1_eq (pslc_lst_lo hx46 (fun _ => rfl)) ?_
    simp only [run_len, put1_some, xlen_lst, run_mv, run_ops_nil, B0, reduceIte, reduceEqDiff]
    obtain ⟨oc50, hX52, hk53⟩ := jn_some hF47
    simp only [x27_6]
    refine rangeL_j (σ := Unit) l45 (fun i48 x49 _ => spec_RespectsTime_b1 l_0 x23 i48 x49 )
        (fun s fr' h' => fr' 0 = lst Call.cells l_0 ∧ fr' 1 = lst cI order_1 ∧ fr' 7 = .int .i64 x23 ∧ fr' 20 = lst cI order_1 ∧ fr' 21 = .int .i64
        (List.length order_1 : Int) ∧ fr' 22 = .int .i64 (i22 : Int) ∧ fr' 30 = lst cI l45 ∧ Sep h' (geL h.length) ([])) hX52 ⟨f39, f40, rfl, f41, f44, f43, rfl,
        hS38⟩ (by simp only [B0, reduceIte, reduceEqDiff]) (by simp only [B0, reduceIte,
        reduceEqDiff]) (fun _ _ _ h => h) rfl rfl (fun _ _ _ _ h => h) (fun _ _ _ _ h => h) (fun _ _ _ _ h => h) (by decide) ?_ ?_
    · rintro i48 x49 _ fr62 h63 hx72 ⟨f65, f66, f67, f68, f69, f70, f71, hS64⟩ f73 f74 oc51 hF54 hr55 Q56 hN57 hB61 hK58 hR59 hE60
      unfold spec_RespectsTime_b1 at hF54
      simp only [x27_4, run_seq, run_reg, f71, f73, run_ia, B0, reduceIte, reduceEqDiff]
      refine put1_eq (v := .ref (cI x49) 0) (xia_lstN hx72 rfl) ?_
      simp only [run_ld, B0, reduceIte, reduceEqDiff]
      refine put1_eq (v := .int .i64 x49) rfl ?_
      obtain ⟨x75, hx76, hF77⟩ := bind_some' hF54
      simp only [run_mv, run_ops_nil, x27_3, run_seq, run_draw, f65, d4_mv, put1d_some, d4_ia, B0, reduceIte, reduceEqDiff]
      refine put1d_eq (v := .ref (Call.cells x75) 0) (xia_lst hx76 rfl) ?_
      simp only [d4_ld, B0, reduceIte, reduceEqDiff]
      refine put1d_eq (v := .agg [.int .i64 x75.Client, .int .i64 x75.Object, .bool x75.Write, .int .i64 x75.Value, .int .i64 x75.Begin, .int .i64 x75.End]) rfl ?_
      obtain ⟨x78, hx79, hF80⟩ := bind_some' hF77
      simp only [f65, d4_mv, put1d_some, f67, d4_ia, B0, reduceIte, reduceEqDiff]
      refine put1d_eq (v := .ref (Call.cells x78) 0) (xia_lst hx79 rfl) ?_
      simp only [d4_ld, B0, reduceIte, reduceEqDiff]
      refine put1d_eq (v := .agg [.int .i64 x78.Client, .int .i64 x78.Object, .bool x78.Write, .int .i64 x78.Value, .int .i64 x78.Begin, .int .i64 x78.End]) rfl ?_
      obtain ⟨v81, hx82, hF83⟩ := bind_some' hF80
      simp only [run_d3_call, B0, reduceIte, reduceEqDiff]
      refine call1d rfl (mapM1 (snap_agg (mapM1 snap_int (mapM1 snap_int (mapM1 snap_bool (mapM1 snap_int (mapM1 snap_int (mapM1 snap_int mapM0))))))) (mapM1 (snap_agg
          (mapM1 snap_int (mapM1 snap_int (mapM1 snap_bool (mapM1 snap_int (mapM1 snap_int (mapM1 snap_int mapM0))))))) (mapM1 snap_bool mapM0))) (spec_l15Before_x
          (fun b hb => decide_eq_true hb) x75 x78 false v81 hx82) ?_
      simp only [run_draw_nil, x27_2, run_cond, B0, reduceIte, reduceEqDiff]
      refine cond_split (t := v81) (fun hc84 => ?_) (fun hc84 => ?_)
      · rw [iteT hc84] at hF83
        simp only [run_seq, run_reg, run_mv, run_ops_nil, run_ret, B0, reduceIte, reduceEqDiff]
        have e85 := some_inj hF83
        subst e85
        have ho86 := hr55 _ rfl
        have hk87 := hk53
        rw [ho86] at hk87
        dsimp only [jnO] at hk87
        apply hR59
        have e88 := some_inj hk87
        subst e88
        have ho89 := hr29 _ rfl
        have hk90 := hk27
        rw [ho89] at hk90
        dsimp only [jnO] at hk90
        apply hR33
        have he := some_inj hk90
        subst he
        simp only [end_ret2, B0, reduceIte, reduceEqDiff]
        exact cut_tup (mapM1 rfl (mapM1 rfl mapM0))
      rw [iteF hc84] at hF83
      simp only [run_skip, run_nil, B0, reduceIte, reduceEqDiff]
      have e91 := some_inj hF83
      exact hN57 _ _ _ e91.symm ⟨f65, f66, f67, f68, f69, f70, f71, hS64⟩ (f73) (f74)
    rintro _ fr93 h94 rfl ⟨f96, f97, f98, f99, f100, f101, f102, hS95⟩
    dsimp only [jnO] at hk53
    unfold spec_RespectsTime_j1 at hk53
    simp only [run_nil, B0, reduceIte, reduceEqDiff]
    have e103 := some_inj hk53
    exact hN31 _ _ _ e103.symm ⟨f96, f97, f99, hS95⟩ (f101) (f100)
  rintro _ fr106 h107 rfl ⟨f109, f110, f111, hS108⟩
  dsimp only [jnO] at hk27
  unfold spec_RespectsTime_j2 at hk27
  simp only [run_seq, run_reg, run_mv, run_ops_nil, run_ret, B0, reduceIte, reduceEqDiff]
  have he := some_inj hk27
  subst he
  simp only [end_ret2, B0, reduceIte, reduceEqDiff]
  exact cut_tup (mapM1 rfl (mapM1 rfl mapM0))
theorem laws_toIntS_x {W : Nat → Bool} {h : Heap} (hW : ∀ b,
    (geL h.length) b → W b = true) (k : Nat) (a_0 : List Int) (r : List Int) (hF : laws_toIntS k a_0 = some r) : Ret E W 28 [lst cI a_0] h (fun v h' => ∃ rv0 rc0,
    v = rv0 ∧ SlF cI 1 3 rv0 r rc0 ∧ Sep h' (geL h.length) (rc0 ++ ([]))) := by
  refine Ret.of (fn := x28) rfl (Run.of ?_)
  unfold laws_toIntS at hF
  have zf0 : argFr [lst cI a_0] 0 = lst cI a_0 := rfl
  generalize argFr [lst cI a_0] = fr0 at zf0 ⊢
  have hS : Sep h (geL h.length) [] := Sep.nil h
  obtain ⟨l1, hx2, hF3⟩ := bind_some' hF
  simp only [x28, run_seq, run_reg, run_mv, run_ops_nil, x28_7, zf0, run_len, put1_some, xlen_lst, run_mkS, B0, reduceIte, reduceEqDiff]
  refine put2_mkSF (f := cI) (z := (0 : Int)) hS hx2 rfl (fun v4 c5 h6 hv7 hS8 => ?_)
  simp only [run_mv, run_ops_nil, x28_6, run_seq, run_reg, B0, reduceIte, reduceEqDiff]
  obtain ⟨oc20, hX22, hk23⟩ := jn_some hF3
  simp only [x28_5]
  refine loopF_j (σ := Int × (List Int)) (fun s55 => laws_toIntS_b1 a_0 s55.1 s55.2) (fun s fr' h' => ∃ c16,
      fr' 0 = lst cI a_0 ∧ fr' 3 = v4 ∧ fr' 4 = .int .i64 s.1 ∧ SlF cI 1 3 v4 s.2 c16 ∧ Sep h' (geL h.length) (c16 ++ ([]))) hX22 ⟨c5, zf0, rfl, rfl, hv7,
      hS8⟩ (fun _ _ _ h => h) ?_ ?_
  · rintro ⟨s14, s15⟩ fr32 h33 ⟨c16, f35, f36, f37, hv17, hS34⟩ oc21 hF24 hr25 Q26 hN27 hK28 hR29 hE30
    dsimp only at *
    unfold laws_toIntS_b1 at hF24
    simp only [x28_3, run_seq, run_reg, f37, run_mv, f35, run_len, put1_some, xlen_lst, run_bin, xlss, run_ops_nil, run_cond, B0, reduceIte, reduceEqDiff]
    refine cond_split (t := (decide (s14 < (List.length a_0 : Int)))) (fun hc39 => ?_) (fun hc39 => ?_)
    · rw [iteT hc39] at hF24
      obtain ⟨x40, hx41, hF42⟩ := bind_some' hF24
      simp only [run_skip, x28_2, run_seq, run_block, x28_1, run_reg, f36, run_mv, f37, f35, run_ia, B0, reduceIte, reduceEqDiff]
      refine put1_eq (v := .ref (cI x40) 0) (xia_lst hx41 rfl) ?_
      simp only [run_ld, B0, reduceIte, reduceEqDiff]
      refine put1_eq (v := .int .i64 x40) rfl ?_
      obtain ⟨x43, hx44, hF45⟩ := bind_some' hF42
      simp only [run_ia, B0, reduceIte, reduceEqDiff]
      obtain ⟨b46, hb47⟩ := SlF.isrow hv17 (geti_ne hx44)
      refine put1_eq (SlF.ia hv17 hb47 hx44) ?_
      simp only [run_st, B0, reduceIte, reduceEqDiff]
      refine put2_stF (f := cI) (x' := x40) (o := 0) hv17 hS34 hW hb47 hx44 (fun _ => rfl) rfl rfl (nle rfl) rfl (fun c50 h48 hv51 hS49 => ?_)
      have hx52 := geti_set (x' := x40) hx44
      simp only [run_ops_nil, run_blk, run_reg, f37, run_mv, run_bin, put1_some, xadd, run_nil, B0, reduceIte, reduceEqDiff]
      have e53 := some_inj hF45
      exact hN27 _ _ _ e53.symm ⟨c50, f35, f36, rfl, hv51, hS49⟩
    rw [iteF hc39] at hF24
    simp only [run_exit, out_code, out_nil, B0, reduceIte, reduceEqDiff]
    have e54 := some_inj hF24
    exact hK28 _ _ _ e54.symm ⟨c16, f35, f36, f37, hv17, hS34⟩
  rintro ⟨s56, s57⟩ fr60 h61 rfl ⟨c58, f63, f64, f65, hv59, hS62⟩
  dsimp only [jnO] at hk23
  dsimp only at *
  unfold laws_toIntS_j1 at hk23
  simp only [run_seq, run_reg, f64, run_mv, run_ops_nil, run_ret, B0, reduceIte, reduceEqDiff]
  have he := some_inj hk23
  subst he
  simp only [end_ret1, B0, reduceIte, reduceEqDiff]
  exact ⟨v4, c58, by first | trivial | rfl, hv59, hS62⟩
theorem impl_in_x {W : Nat → Bool} {h : Heap} (hW : ∀ b,
    (geL h.length) b → W b = true) (n_0 : Int) (low_1 : Int) (high_2 : Int) (r : Bool) (hF : some (impl_in n_0 low_1 high_2) = some r) : Ret E W 44 [.int .i64 n_0,
    .int .i64 low_1, .int .i64 high_2] h (fun v h' => cut h.length h' E.sz false 9 v = some (.bool r)) := by
  refine Ret.of (fn := x44) rfl (Run.of ?_)
  unfold impl_in at hF
  have zf0 : argFr [.int .i64 n_0, .int .i64 low_1, .int .i64 high_2] 0 = .int .i64 n_0 := rfl
  have zf1 : argFr [.int .i64 n_0, .int .i64 low_1, .int .i64 high_2] 1 = .int .i64 low_1 := rfl
  have zf2 : argFr [.int .i64 n_0, .int .i64 low_1, .int .i64 high_2] 2 = .int .i64 high_2 := rfl
  generalize argFr [.int .i64 n_0, .int .i64 low_1, .int .i64 high_2] = fr0 at zf0 zf1 zf2 ⊢
  have hS : Sep h (geL h.length) [] := Sep.nil h
  simp only [x44, run_seq, run_reg, run_mv, run_ops_nil, x44_1, zf0, zf1, run_bin, put1_some, xgeq, B0, reduceIte, reduceEqDiff]
  refine ops_j 4 (fun fr' h' => Sep h' (geL h.length) ([]) ∧ fr' 14 = .bool ((decide (low_1 ≤ n_0)) && (decide (n_0 ≤ high_2)))) (fun Q1 hN2 => ?_) ?_
  · simp only [List.take_succ_cons, List.take_zero]
    simp only [run_guard (g := 10), B0, reduceIte, reduceEqDiff]
    refine guard_split (t := (decide (low_1 ≤ n_0))) (fun hg3 => ?_) (fun hg3 => ?_)
    · simp only [hg3, run_guard (g := 10), guard_true, zf0, run_mv, zf2, run_bin, put1_some, xleq, run_pick, xpick_t, run_ops_nil, run_nil, B0, reduceIte, reduceEqDiff]
      exact hN2 _ _ ⟨hS, by rw [andT hg3]; simp only [B0, reduceIte, reduceEqDiff]⟩
    · simp only [hg3, run_guard (g := 10), guard_off, run_pick, put1_some, xpick_f, run_ops_nil, run_nil, B0, reduceIte, reduceEqDiff]
      exact hN2 _ _ ⟨hS, by rw [andF hg3]; simp only [B0, reduceIte, reduceEqDiff]⟩
  rintro fr4 h6 ⟨hS7, f5⟩
  simp only [List.drop_succ_cons, List.drop_zero]
  simp only [f5, run_mv, run_ops_nil, run_ret, B0, reduceIte, reduceEqDiff]
  have he := some_inj hF
  subst he
  simp only [end_ret1, B0, reduceIte, reduceEqDiff]
  exact rfl
theorem impl_areCalls_x {W : Nat → Bool} {h : Heap} (hW : ∀ b,
    (geL h.length) b → W b = true) (v_0 : List Call) (r : Bool) (hF : impl_areCalls v_0 = some r) : Ret E W 43 [lst Call.cells v_0] h
    (fun v h' => cut h.length h' E.sz false 9 v = some (.bool r)) := by
  refine Ret.of (fn := x43) rfl (Run.of ?_)
  unfold impl_areCalls at hF
  have zf0 : argFr [lst Call.cells v_0] 0 = lst Call.cells v_0 := rfl
  generalize argFr [lst Call.cells v_0] = fr0 at zf0 ⊢
  have hS : Sep h (geL h.length) [] := Sep.nil h
  simp only [x43, run_seq, run_reg, run_mv, run_ops_nil, x43_13, zf0, run_len, put1_some, xlen_lst, B0, reduceIte, reduceEqDiff]
  obtain ⟨oc3, hX5, hk6⟩ := jn_some hF
  simp only [x43_11]
  refine rangeL_j (σ := Unit) v_0 (fun i1 x2 _ => impl_areCalls_b2 v_0 i1 x2 ) (fun s fr' h' => fr' 0 = lst Call.cells v_0 ∧ fr' 8 = lst Call.cells v_0 ∧ Sep h' (geL h.length)
      ([])) hX5 ⟨zf0, rfl, hS⟩ (by simp only [B0, reduceIte, reduceEqDiff]) (by simp only [B0, reduceIte,
      reduceEqDiff]) (fun _ _ _ h => h) rfl rfl (fun _ _ _ _ h => h) (fun _ _ _ _ h => h) (fun _ _ _ _ h => h) (by decide) ?_ ?_
  · rintro i1 x2 _ fr15 h16 hx20 ⟨f18, f19, hS17⟩ f21 f22 oc4 hF7 hr8 Q9 hN10 hB14 hK11 hR12 hE13
    unfold impl_areCalls_b2 at hF7
    simp only [x43_9, run_seq, run_reg, f21, run_mv, f19, run_ia, B0, reduceIte, reduceEqDiff]
    refine put1_eq (v := .ref (Call.cells x2) 0) (xia_lstN hx20 rfl) ?_
    simp only [run_ld, B0, reduceIte, reduceEqDiff]
    refine put1_eq (v := .agg [.int .i64 x2.Client, .int .i64 x2.Object, .bool x2.Write, .int .i64 x2.Value, .int .i64 x2.Begin, .int .i64 x2.End]) rfl ?_
    simp only [run_new, B0, reduceIte, reduceEqDiff]
    refine put2_newC hS17 (fun b23 h24 hS25 => ?_)
    simp only [run_mv, run_st, B0, reduceIte, reduceEqDiff]
    refine put2_stCx (us := [.int .i64 x2.Client, .int .i64 x2.Object, .bool x2.Write, .int .i64 x2.Value, .int .i64 x2.Begin, .int .i64 x2.End]) rfl (cs' := [.int .i64 x2.Client,
        .int .i64 x2.Object, .bool x2.Write, .int .i64 x2.Value, .int .i64 x2.Begin, .int .i64 x2.End]) hS25 hW rfl rfl (nle rfl) rfl (fun h27 hS28 => ?_)
    simp only [run_ops_nil, B0, reduceIte, reduceEqDiff]
    refine frz_stepC hS28 hW (by simp only [B0, reduceIte, reduceEqDiff]) (fun h29 hS30 => ?_)
    simp only [run_frz_nil, x43_8, run_seq, run_reg, run_mv, run_ops_nil, x43_7, run_fa, put1_some, Nat.reduceAdd, Nat.zero_add, Nat.add_zero, xfa_ref, run_ld, B0, reduceIte,
        reduceEqDiff]
    refine put1_eq (v := .bool x2.Write) rfl ?_
    simp only [run_ops_nil, run_cond, B0, reduceIte, reduceEqDiff]
    obtain ⟨s31, hX33, hk34⟩ := bind_some' hF7
    refine cond_j (t := x2.Write) (fun fr' h' => fr' 0 = lst Call.cells v_0 ∧ fr' 3 = .int .i64 (i1 : Int) ∧ fr' 4 = .ref [.int .i64 x2.Client, .int .i64 x2.Object,
        .bool x2.Write, .int .i64 x2.Value, .int .i64 x2.Begin,
        .int .i64 x2.End] 0 ∧ fr' 5 = .int .i64 s31 ∧ fr' 8 = lst Call.cells v_0 ∧ fr' 9 = .int .i64 (List.length v_0 : Int) ∧ fr' 10 = .int .i64 (i1 : Int) ∧ Sep h'
        (geL h.length) ([])) (fun Q35 hN36 hR37 hE38 => ⟨fun hc39 => ?_, fun hc39 => ?_⟩) ?_
    · rw [iteT hc39] at hX33
      simp only [run_reg, run_mv, run_ops_nil, run_nil, B0, reduceIte, reduceEqDiff]
      have e40 := some_inj hX33
      subst e40
      exact hN36 _ _ ⟨f18, rfl, rfl, rfl, f19, f22, f21, hS30⟩
    · rw [iteF hc39] at hX33
      simp only [run_skip, run_nil, B0, reduceIte, reduceEqDiff]
      have e41 := some_inj hX33
      subst e41
      exact hN36 _ _ ⟨f18, rfl, rfl, rfl, f19, f22, f21, hS30⟩
    rintro fr42 h43 ⟨f45, f46, f47, f48, f49, f50, f51, hS44⟩
    unfold impl_areCalls_j1 at hk34
    simp only [x43_6, run_seq, run_reg, f47, run_fa, put1_some, Nat.reduceAdd, Nat.zero_add, Nat.add_zero, xfa_ref, run_ld, B0, reduceIte, reduceEqDiff]
    refine put1_eq (v := .int .i64 x2.Client) rfl ?_
    simp only [run_call, B0, reduceIte, reduceEqDiff]
    refine call1 rfl (mapM1 snap_int (mapM1 snap_int (mapM1 snap_int mapM0))) (impl_in_x (fun b hb => decide_eq_true hb) x2.Client 0 3 _ rfl) ?_
    simp only [run_un, put1_some, xnot, run_mv, B0, reduceIte, reduceEqDiff]
    refine ops_j 5 (fun fr' h' => Sep h' (geL h.length) ([]) ∧ fr' 26 = .bool ((!(impl_in x2.Client 0 3)) ||
        (!(impl_in x2.Object 0 2))) ∧ fr' 0 = lst Call.cells v_0 ∧ fr' 3 = .int .i64 (i1 : Int) ∧ fr' 4 = .ref [.int .i64 x2.Client, .int .i64 x2.Object, .bool x2.Write,
        .int .i64 x2.Value, .int .i64 x2.Begin,
        .int .i64 x2.End] 0 ∧ fr' 5 = .int .i64 s31 ∧ fr' 8 = lst Call.cells v_0 ∧ fr' 9 = .int .i64 (List.length v_0 : Int) ∧ fr' 10 = .int .i64 (i1 : Int))
        (fun Q52 hN53 => ?_) ?_
    · simp only [List.take_succ_cons, List.take_zero]
      simp only [run_guard (g := 21), B0, reduceIte, reduceEqDiff]
      refine guard_split (t := (!(impl_in x2.Client 0 3))) (fun hg54 => ?_) (fun hg54 => ?_)
      · simp only [hg54, run_guard (g := 21), guard_off', run_pick, put1_some, xpick_t, run_ops_nil, run_nil, B0, reduceIte, reduceEqDiff]
        exact hN53 _ _ ⟨hS44, by rw [orT hg54]; simp only [B0, reduceIte, reduceEqDiff], f45, f46, f47, f48, f49, f50, f51⟩
      · simp only [hg54, run_guard (g := 21), guard_false, f47, run_fa, put1_some, Nat.reduceAdd, Nat.zero_add, Nat.add_zero, xfa_ref, run_ld, B0, reduceIte, reduceEqDiff]
        refine put1_eq (v := .int .i64 x2.Object) rfl ?_
        simp only [hg54, run_guard (g := 21), guard_false, run_call, B0, reduceIte, reduceEqDiff]
        refine call1 rfl (mapM1 snap_int (mapM1 snap_int (mapM1 snap_int mapM0))) (impl_in_x (fun b hb => decide_eq_true hb) x2.Object 0 2 _ rfl) ?_
        simp only [hg54, run_guard (g := 21), guard_false, run_un, put1_some, xnot, run_pick, xpick_f, run_ops_nil, run_nil, B0, reduceIte, reduceEqDiff]
        exact hN53 _ _ ⟨hS44, by rw [orF hg54]; simp only [B0, reduceIte, reduceEqDiff], f45, f46, f47, f48, f49, f50, f51⟩
    rintro fr55 h64 ⟨hS65, f56, f57, f58, f59, f60, f61, f62, f63⟩
    simp only [List.drop_succ_cons, List.drop_zero]
    simp only [f56, run_mv, B0, reduceIte, reduceEqDiff]
    refine ops_j 6 (fun fr' h' => Sep h' (geL h.length) ([]) ∧ fr' 33 = .bool (((!(impl_in x2.Client 0 3)) || (!(impl_in x2.Object 0 2))) ||
        (!(impl_in x2.Value s31 9))) ∧ fr' 0 = lst Call.cells v_0 ∧ fr' 3 = .int .i64 (i1 : Int) ∧ fr' 4 = .ref [.int .i64 x2.Client, .int .i64 x2.Object, .bool x2.Write,
        .int .i64 x2.Value, .int .i64 x2.Begin,
        .int .i64 x2.End] 0 ∧ fr' 8 = lst Call.cells v_0 ∧ fr' 9 = .int .i64 (List.length v_0 : Int) ∧ fr' 10 = .int .i64 (i1 : Int)) (fun Q66 hN67 => ?_) ?_
    · simp only [List.take_succ_cons, List.take_zero]
      simp only [run_guard (g := 27), B0, reduceIte, reduceEqDiff]
      refine guard_split (t := ((!(impl_in x2.Client 0 3)) || (!(impl_in x2.Object 0 2)))) (fun hg68 => ?_) (fun hg68 => ?_)
      · simp only [hg68, run_guard (g := 27), guard_off', run_pick, put1_some, xpick_t, run_ops_nil, run_nil, B0, reduceIte, reduceEqDiff]
        exact hN67 _ _ ⟨hS65, by rw [orT hg68]; simp only [B0, reduceIte, reduceEqDiff], f57, f58, f59, f61, f62, f63⟩
      · simp only [hg68, run_guard (g := 27), guard_false, f59, run_fa, put1_some, Nat.reduceAdd, Nat.zero_add, Nat.add_zero, xfa_ref, run_ld, B0, reduceIte, reduceEqDiff]
        refine put1_eq (v := .int .i64 x2.Value) rfl ?_
        simp only [hg68, run_guard (g := 27), guard_false, f60, run_mv, run_call, B0, reduceIte, reduceEqDiff]
        refine call1 rfl (mapM1 snap_int (mapM1 snap_int (mapM1 snap_int mapM0))) (impl_in_x (fun b hb => decide_eq_true hb) x2.Value s31 9 _ rfl) ?_
        simp only [hg68, run_guard (g := 27), guard_false, run_un, put1_some, xnot, run_pick, xpick_f, run_ops_nil, run_nil, B0, reduceIte, reduceEqDiff]
        exact hN67 _ _ ⟨hS65, by rw [orF hg68]; simp only [B0, reduceIte, reduceEqDiff], f57, f58, f59, f61, f62, f63⟩
    rintro fr69 h77 ⟨hS78, f70, f71, f72, f73, f74, f75, f76⟩
    simp only [List.drop_succ_cons, List.drop_zero]
    simp only [f70, run_mv, B0, reduceIte, reduceEqDiff]
    refine ops_j 5 (fun fr' h' => Sep h' (geL h.length) ([]) ∧ fr' 39 = .bool ((((!(impl_in x2.Client 0 3)) || (!(impl_in x2.Object 0 2))) || (!(impl_in x2.Value s31 9))) ||
        (!(impl_in x2.Begin 0 100))) ∧ fr' 0 = lst Call.cells v_0 ∧ fr' 3 = .int .i64 (i1 : Int) ∧ fr' 4 = .ref [.int .i64 x2.Client, .int .i64 x2.Object, .bool x2.Write,
        .int .i64 x2.Value, .int .i64 x2.Begin,
        .int .i64 x2.End] 0 ∧ fr' 8 = lst Call.cells v_0 ∧ fr' 9 = .int .i64 (List.length v_0 : Int) ∧ fr' 10 = .int .i64 (i1 : Int)) (fun Q79 hN80 => ?_) ?_
    · simp only [List.take_succ_cons, List.take_zero]
      simp only [run_guard (g := 34), B0, reduceIte, reduceEqDiff]
      refine guard_split (t := (((!(impl_in x2.Client 0 3)) || (!(impl_in x2.Object 0 2))) || (!(impl_in x2.Value s31 9)))) (fun hg81 => ?_) (fun hg81 => ?_)
      · simp only [hg81, run_guard (g := 34), guard_off', run_pick, put1_some, xpick_t, run_ops_nil, run_nil, B0, reduceIte, reduceEqDiff]
        exact hN80 _ _ ⟨hS78, by rw [orT hg81]; simp only [B0, reduceIte, reduceEqDiff], f71, f72, f73, f74, f75, f76⟩
      · simp only [hg81, run_guard (g := 34), guard_false, f73, run_fa, put1_some, Nat.reduceAdd, Nat.zero_add, Nat.add_zero, xfa_ref, run_ld, B0, reduceIte, reduceEqDiff]
        refine put1_eq (v := .int .i64 x2.Begin) rfl ?_
        simp only [hg81, run_guard (g := 34), guard_false, run_call, B0, reduceIte, reduceEqDiff]
        refine call1 rfl (mapM1 snap_int (mapM1 snap_int (mapM1 snap_int mapM0))) (impl_in_x (fun b hb => decide_eq_true hb) x2.Begin 0 100 _ rfl) ?_
        simp only [hg81, run_guard (g := 34), guard_false, run_un, put1_some, xnot, run_pick, xpick_f, run_ops_nil, run_nil, B0, reduceIte, reduceEqDiff]
        exact hN80 _ _ ⟨hS78, by rw [orF hg81]; simp only [B0, reduceIte, reduceEqDiff], f71, f72, f73, f74, f75, f76⟩
    rintro fr82 h90 ⟨hS91, f83, f84, f85, f86, f87, f88, f89⟩
    simp only [List.drop_succ_cons, List.drop_zero]
    simp only [f83, run_mv, B0, reduceIte, reduceEqDiff]
    refine ops_j 5 (fun fr' h' => Sep h' (geL h.length) ([]) ∧ fr' 45 = .bool (((((!(impl_in x2.Client 0 3)) || (!(impl_in x2.Object 0 2))) || (!(impl_in x2.Value s31 9))) ||
        (!(impl_in x2.Begin 0 100))) || (!(impl_in x2.End 0 100))) ∧ fr' 0 = lst Call.cells v_0 ∧ fr' 3 = .int .i64 (i1 : Int) ∧ fr' 4 = .ref [.int .i64 x2.Client,
        .int .i64 x2.Object, .bool x2.Write, .int .i64 x2.Value, .int .i64 x2.Begin,
        .int .i64 x2.End] 0 ∧ fr' 8 = lst Call.cells v_0 ∧ fr' 9 = .int .i64 (List.length v_0 : Int) ∧ fr' 10 = .int .i64 (i1 : Int)) (fun Q92 hN93 => ?_) ?_
    · simp only [List.take_succ_cons, List.take_zero]
      simp only [run_guard (g := 40), B0, reduceIte, reduceEqDiff]
      refine guard_split (t := ((((!(impl_in x2.Client 0 3)) || (!(impl_in x2.Object 0 2))) || (!(impl_in x2.Value s31 9))) || (!(impl_in x2.Begin 0 100)))) (fun hg94 => ?_)
          (fun hg94 => ?_)
      · simp only [hg94, run_guard (g := 40), guard_off', run_pick, put1_some, xpick_t, run_ops_nil, run_nil, B0, reduceIte, reduceEqDiff]
        exact hN93 _ _ ⟨hS91, by rw [orT hg94]; simp only [B0, reduceIte, reduceEqDiff], f84, f85, f86, f87, f88, f89⟩
      · simp only [hg94, run_guard (g := 40), guard_false, f86, run_fa, put1_some, Nat.reduceAdd, Nat.zero_add, Nat.add_zero, xfa_ref, run_ld, B0, reduceIte, reduceEqDiff]
        refine put1_eq (v := .int .i64 x2.End) rfl ?_
        simp only [hg94, run_guard (g := 40), guard_false, run_call, B0, reduceIte, reduceEqDiff]
        refine call1 rfl (mapM1 snap_int (mapM1 snap_int (mapM1 snap_int mapM0))) (impl_in_x (fun b hb => decide_eq_true hb) x2.End 0 100 _ rfl) ?_
        simp only [hg94, run_guard (g := 40), guard_false, run_un, put1_some, xnot, run_pick, xpick_f, run_ops_nil, run_nil, B0, reduceIte, reduceEqDiff]
        exact hN93 _ _ ⟨hS91, by rw [orF hg94]; simp only [B0, reduceIte, reduceEqDiff], f84, f85, f86, f87, f88, f89⟩
    rintro fr95 h103 ⟨hS104, f96, f97, f98, f99, f100, f101, f102⟩
    simp only [List.drop_succ_cons, List.drop_zero]
    simp only [f96, run_mv, B0, reduceIte, reduceEqDiff]
    refine ops_j 6 (fun fr' h' => Sep h' (geL h.length) ([]) ∧ fr' 52 = .bool ((((((!(impl_in x2.Client 0 3)) || (!(impl_in x2.Object 0 2))) || (!(impl_in x2.Value s31 9))) ||
        (!(impl_in x2.Begin 0 100))) || (!(impl_in x2.End 0 100))) || (decide (x2.End ≤ x2.Begin))) ∧ fr' 0 = lst Call.cells v_0 ∧ fr' 3 = .int .i64
        (i1 : Int) ∧ fr' 4 = .ref [.int .i64 x2.Client, .int .i64 x2.Object, .bool x2.Write, .int .i64 x2.Value, .int .i64 x2.Begin,
        .int .i64 x2.End] 0 ∧ fr' 8 = lst Call.cells v_0 ∧ fr' 9 = .int .i64 (List.length v_0 : Int) ∧ fr' 10 = .int .i64 (i1 : Int)) (fun Q105 hN106 => ?_) ?_
    · simp only [List.take_succ_cons, List.take_zero]
      simp only [run_guard (g := 46), B0, reduceIte, reduceEqDiff]
      refine guard_split (t := (((((!(impl_in x2.Client 0 3)) || (!(impl_in x2.Object 0 2))) || (!(impl_in x2.Value s31 9))) || (!(impl_in x2.Begin 0 100))) ||
          (!(impl_in x2.End 0 100)))) (fun hg107 => ?_) (fun hg107 => ?_)
      · simp only [hg107, run_guard (g := 46), guard_off', run_pick, put1_some, xpick_t, run_ops_nil, run_nil, B0, reduceIte, reduceEqDiff]
        exact hN106 _ _ ⟨hS104, by rw [orT hg107]; simp only [B0, reduceIte, reduceEqDiff], f97, f98, f99, f100, f101, f102⟩
      · simp only [hg107, run_guard (g := 46), guard_false, f99, run_fa, put1_some, Nat.reduceAdd, Nat.zero_add, Nat.add_zero, xfa_ref, run_ld, B0, reduceIte, reduceEqDiff]
        refine put1_eq (v := .int .i64 x2.Begin) rfl ?_
        simp only [hg107, run_guard (g := 46), guard_false, f99, run_fa, put1_some, Nat.reduceAdd, Nat.zero_add, Nat.add_zero, xfa_ref, run_ld, B0, reduceIte, reduceEqDiff]
        refine put1_eq (v := .int .i64 x2.End) rfl ?_
        simp only [hg107, run_guard (g := 46), guard_false, run_bin, put1_some, xgeq, run_pick, xpick_f, run_ops_nil, run_nil, B0, reduceIte, reduceEqDiff]
        exact hN106 _ _ ⟨hS104, by rw [orF hg107]; simp only [B0, reduceIte, reduceEqDiff], f97, f98, f99, f100, f101, f102⟩
    rintro fr108 h116 ⟨hS117, f109, f110, f111, f112, f113, f114, f115⟩
    simp only [List.drop_succ_cons, List.drop_zero]
    simp only [run_ops_nil, f109, run_cond, B0, reduceIte, reduceEqDiff]
    refine cond_split (t := ((((((!(impl_in x2.Client 0 3)) || (!(impl_in x2.Object 0 2))) || (!(impl_in x2.Value s31 9))) || (!(impl_in x2.Begin 0 100))) ||
        (!(impl_in x2.End 0 100))) || (decide (x2.End ≤ x2.Begin)))) (fun hc118 => ?_) (fun hc118 => ?_)
    · rw [iteT hc118] at hk34
      simp only [run_seq, run_reg, run_mv, run_ops_nil, run_ret, B0, reduceIte, reduceEqDiff]
      have e119 := some_inj hk34
      subst e119
      have ho120 := hr8 _ rfl
      have hk121 := hk6
      rw [ho120] at hk121
      dsimp only [jnO] at hk121
      apply hR12
      have he := some_inj hk121
      subst he
      simp only [end_ret1, B0, reduceIte, reduceEqDiff]
      exact rfl
    rw [iteF hc118] at hk34
    obtain ⟨l122, hx123, hF124⟩ := bind_some' hk34
    simp only [run_skip, x43_5, run_seq, run_reg, f110, run_mv, f111, run_slc, Option.map_some, Option.map_none, B0, reduceIte, reduceEqDiff]
    refine put1_eq (pslc_lst_hi hx123 (fun _ => rfl)) ?_
    simp only [run_len, put1_some, xlen_lst, run_mv, run_ops_nil, B0, reduceIte, reduceEqDiff]
    obtain ⟨oc127, hX129, hk130⟩ := jn_some hF124
    simp only [x43_4]
    refine rangeL_j (σ := Unit) l122 (fun i125 x126 _ => impl_areCalls_b1 x2 i125 x126 ) (fun s fr' h' => fr' 0 = lst Call.cells v_0 ∧ fr' 4 = .ref [.int .i64 x2.Client,
        .int .i64 x2.Object, .bool x2.Write, .int .i64 x2.Value, .int .i64 x2.Begin,
        .int .i64 x2.End] 0 ∧ fr' 8 = lst Call.cells v_0 ∧ fr' 9 = .int .i64 (List.length v_0 : Int) ∧ fr' 10 = .int .i64 (i1 : Int) ∧ fr' 55 = lst Call.cells l122 ∧ Sep h'
        (geL h.length) ([])) hX129 ⟨f110, f112, f113, f114, f115, rfl, hS117⟩ (by simp only [B0, reduceIte, reduceEqDiff]) (by simp only [B0, reduceIte,
        reduceEqDiff]) (fun _ _ _ h => h) rfl rfl (fun _ _ _ _ h => h) (fun _ _ _ _ h => h) (fun _ _ _ _ h => h) (by decide) ?_ ?_
    · rintro i125 x126 _ fr139 h140 hx148 ⟨f142, f143, f144, f145, f146, f147, hS141⟩ f149 f150 oc128 hF131 hr132 Q133 hN134 hB138 hK135 hR136 hE137
      unfold impl_areCalls_b1 at hF131
      simp only [x43_2, run_seq, run_reg, f147, f149, run_ia, B0, reduceIte, reduceEqDiff]
      refine put1_eq (v := .ref (Call.cells x126) 0) (xia_lstN hx148 rfl) ?_
      simp only [run_ld, B0, reduceIte, reduceEqDiff]
      refine put1_eq (v := .agg [.int .i64 x126.Client, .int .i64 x126.Object, .bool x126.Write, .int .i64 x126.Value, .int .i64 x126.Begin, .int .i64 x126.End]) rfl ?_
      simp only [run_new, B0, reduceIte, reduceEqDiff]
      refine put2_newC hS141 (fun b151 h152 hS153 => ?_)
      simp only [run_st, B0, reduceIte, reduceEqDiff]
      refine put2_stCx (us := [.int .i64 x126.Client, .int .i64 x126.Object, .bool x126.Write, .int .i64 x126.Value, .int .i64 x126.Begin,
          .int .i64 x126.End]) rfl (cs' := [.int .i64 x126.Client, .int .i64 x126.Object, .bool x126.Write, .int .i64 x126.Value, .int .i64 x126.Begin,
          .int .i64 x126.End]) hS153 hW rfl rfl (nle rfl) rfl (fun h155 hS156 => ?_)
      simp only [run_ops_nil, B0, reduceIte, reduceEqDiff]
      refine frz_stepC hS156 hW (by simp only [B0, reduceIte, reduceEqDiff]) (fun h157 hS158 => ?_)
      simp only [run_frz_nil, x43_1, run_seq, run_reg, f143, run_fa, put1_some, Nat.reduceAdd, Nat.zero_add, Nat.add_zero, xfa_ref, run_ld, B0, reduceIte, reduceEqDiff]
      refine put1_eq (v := .int .i64 x2.Client) rfl ?_
      simp only [run_fa, put1_some, Nat.reduceAdd, Nat.zero_add, Nat.add_zero, xfa_ref, run_ld, B0, reduceIte, reduceEqDiff]
      refine put1_eq (v := .int .i64 x126.Client) rfl ?_
      simp only [run_bin, put1_some, xeql, run_mv, B0, reduceIte, reduceEqDiff]
      refine ops_j 6 (fun fr' h' => Sep h' (geL h.length) ([]) ∧ fr' 72 = .bool ((decide (x2.Client = x126.Client)) && (decide
          (x126.Begin < x2.End))) ∧ fr' 0 = lst Call.cells v_0 ∧ fr' 4 = .ref [.int .i64 x2.Client, .int .i64 x2.Object, .bool x2.Write, .int .i64 x2.Value, .int .i64 x2.Begin,
          .int .i64 x2.End] 0 ∧ fr' 7 = .ref [.int .i64 x126.Client, .int .i64 x126.Object, .bool x126.Write, .int .i64 x126.Value, .int .i64 x126.Begin,
          .int .i64 x126.End] 0 ∧ fr' 8 = lst Call.cells v_0 ∧ fr' 9 = .int .i64 (List.length v_0 : Int) ∧ fr' 10 = .int .i64
          (i1 : Int) ∧ fr' 55 = lst Call.cells l122 ∧ fr' 56 = .int .i64 (List.length l122 : Int) ∧ fr' 57 = .int .i64 (i125 : Int)) (fun Q159 hN160 => ?_) ?_
      · simp only [List.take_succ_cons, List.take_zero]
        simp only [run_guard (g := 66), B0, reduceIte, reduceEqDiff]
        refine guard_split (t := (decide (x2.Client = x126.Client))) (fun hg161 => ?_) (fun hg161 => ?_)
        · simp only [hg161, run_guard (g := 66), guard_true, f143, run_fa, put1_some, Nat.reduceAdd, Nat.zero_add, Nat.add_zero, xfa_ref, run_ld, B0, reduceIte, reduceEqDiff]
          refine put1_eq (v := .int .i64 x2.End) rfl ?_
          simp only [hg161, run_guard (g := 66), guard_true, run_fa, put1_some, Nat.reduceAdd, Nat.zero_add, Nat.add_zero, xfa_ref, run_ld, B0, reduceIte, reduceEqDiff]
          refine put1_eq (v := .int .i64 x126.Begin) rfl ?_
          simp only [hg161, run_guard (g := 66), guard_true, run_bin, put1_some, xgtr, run_pick, xpick_t, run_ops_nil, run_nil, B0, reduceIte, reduceEqDiff]
          exact hN160 _ _ ⟨hS158, by rw [andT hg161]; simp only [B0, reduceIte, reduceEqDiff], f142, f143, rfl, f144, f145, f146, f147, f150, f149⟩
        · simp only [hg161, run_guard (g := 66), guard_off, run_pick, put1_some, xpick_f, run_ops_nil, run_nil, B0, reduceIte, reduceEqDiff]
          exact hN160 _ _ ⟨hS158, by rw [andF hg161]; simp only [B0, reduceIte, reduceEqDiff], f142, f143, rfl, f144, f145, f146, f147, f150, f149⟩
      rintro fr162 h173 ⟨hS174, f163, f164, f165, f166, f167, f168, f169, f170, f171, f172⟩
      simp only [List.drop_succ_cons, List.drop_zero]
      simp only [f163, run_mv, B0, reduceIte, reduceEqDiff]
      refine ops_j 6 (fun fr' h' => Sep h' (geL h.length) ([]) ∧ fr' 79 = .bool (((decide (x2.Client = x126.Client)) && (decide (x126.Begin < x2.End))) && (decide
          (x2.Begin < x126.End))) ∧ fr' 0 = lst Call.cells v_0 ∧ fr' 4 = .ref [.int .i64 x2.Client, .int .i64 x2.Object, .bool x2.Write, .int .i64 x2.Value, .int .i64 x2.Begin,
          .int .i64 x2.End] 0 ∧ fr' 8 = lst Call.cells v_0 ∧ fr' 9 = .int .i64 (List.length v_0 : Int) ∧ fr' 10 = .int .i64
          (i1 : Int) ∧ fr' 55 = lst Call.cells l122 ∧ fr' 56 = .int .i64 (List.length l122 : Int) ∧ fr' 57 = .int .i64 (i125 : Int)) (fun Q175 hN176 => ?_) ?_
      · simp only [List.take_succ_cons, List.take_zero]
        simp only [run_guard (g := 73), B0, reduceIte, reduceEqDiff]
        refine guard_split (t := ((decide (x2.Client = x126.Client)) && (decide (x126.Begin < x2.End)))) (fun hg177 => ?_) (fun hg177 => ?_)
        · simp only [hg177, run_guard (g := 73), guard_true, f166, run_fa, put1_some, Nat.reduceAdd, Nat.zero_add, Nat.add_zero, xfa_ref, run_ld, B0, reduceIte, reduceEqDiff]
          refine put1_eq (v := .int .i64 x126.End) rfl ?_
          simp only [hg177, run_guard (g := 73), guard_true, f165, run_fa, put1_some, Nat.reduceAdd, Nat.zero_add, Nat.add_zero, xfa_ref, run_ld, B0, reduceIte, reduceEqDiff]
          refine put1_eq (v := .int .i64 x2.Begin) rfl ?_
          simp only [hg177, run_guard (g := 73), guard_true, run_bin, put1_some, xgtr, run_pick, xpick_t, run_ops_nil, run_nil, B0, reduceIte, reduceEqDiff]
          exact hN176 _ _ ⟨hS174, by rw [andT hg177]; simp only [B0, reduceIte, reduceEqDiff], f164, f165, f167, f168, f169, f170, f171, f172⟩
        · simp only [hg177, run_guard (g := 73), guard_off, run_pick, put1_some, xpick_f, run_ops_nil, run_nil, B0, reduceIte, reduceEqDiff]
          exact hN176 _ _ ⟨hS174, by rw [andF hg177]; simp only [B0, reduceIte, reduceEqDiff], f164, f165, f167, f168, f169, f170, f171, f172⟩
      rintro fr178 h188 ⟨hS189, f179, f180, f181, f182, f183, f184, f185, f186, f187⟩
      simp only [List.drop_succ_cons, List.drop_zero]
      simp only [run_ops_nil, f179, run_cond, B0, reduceIte, reduceEqDiff]
      refine cond_split (t := (((decide (x2.Client = x126.Client)) && (decide (x126.Begin < x2.End))) && (decide (x2.Begin < x126.End)))) (fun hc190 => ?_) (fun hc190 => ?_)
      · rw [iteT hc190] at hF131
        simp only [run_seq, run_reg, run_mv, run_ops_nil, run_ret, B0, reduceIte, reduceEqDiff]
        have e191 := some_inj hF131
        subst e191
        have ho192 := hr132 _ rfl
        have hk193 := hk130
        rw [ho192] at hk193
        dsimp only [jnO] at hk193
        apply hR136
        have e194 := some_inj hk193
        subst e194
        have ho195 := hr8 _ rfl
        have hk196 := hk6
        rw [ho195] at hk196
        dsimp only [jnO] at hk196
        apply hR12
        have he := some_inj hk196
        subst he
        simp only [end_ret1, B0, reduceIte, reduceEqDiff]
        exact rfl
      rw [iteF hc190] at hF131
      simp only [run_skip, run_nil, B0, reduceIte, reduceEqDiff]
      have e197 := some_inj hF131
      exact hN134 _ _ _ e197.symm ⟨f180, f181, f182, f183, f184, f185, hS189⟩ (f187) (f186)
    rintro _ fr199 h200 rfl ⟨f202, f203, f204, f205, f206, f207, hS201⟩
    dsimp only [jnO] at hk130
    unfold impl_areCalls_j2 at hk130
    simp only [run_nil, B0, reduceIte, reduceEqDiff]
    have e208 := some_inj hk130
    exact hN10 _ _ _ e208.symm ⟨f202, f204, hS201⟩ (f206) (f205)
  rintro _ fr212 h213 rfl ⟨f215, f216, hS214⟩
  dsimp only [jnO] at hk6
  unfold impl_areCalls_j3 at hk6
  simp only [x43_12, run_seq, run_reg, f215, run_mv, run_len, put1_some, xlen_lst, run_bin, xleq, run_ops_nil, run_ret, B0, reduceIte, reduceEqDiff]
  have he := some_inj hk6
  subst he
  simp only [end_ret1, B0, reduceIte, reduceEqDiff]
  exact rfl
theorem impl_areMembers_x {W : Nat → Bool} {h : Heap} (hW : ∀ b,
    (geL h.length) b → W b = true) (list_0 : List Int) (many_1 : Int) (r : Bool) (hF : impl_areMembers list_0 many_1 = some r) : Ret E W 71 [lst cI list_0,
    .int .i64 many_1] h (fun v h' => cut h.length h' E.sz false 9 v = some (.bool r)) := by
  refine Ret.of (fn := x71) rfl (Run.of ?_)
  unfold impl_areMembers at hF
  have zf0 : argFr [lst cI list_0, .int .i64 many_1] 0 = lst cI list_0 := rfl
  have zf1 : argFr [lst cI list_0, .int .i64 many_1] 1 = .int .i64 many_1 := rfl
  generalize argFr [lst cI list_0, .int .i64 many_1] = fr0 at zf0 zf1 ⊢
  have hS : Sep h (geL h.length) [] := Sep.nil h
  simp only [x71, run_seq, run_reg, run_mv, run_ops_nil, x71_5, zf0, run_len, put1_some, xlen_lst, B0, reduceIte, reduceEqDiff]
  obtain ⟨oc3, hX5, hk6⟩ := jn_some hF
  simp only [x71_4]
  refine rangeL_j (σ := Unit) list_0 (fun i1 x2 _ => impl_areMembers_b1 list_0 many_1 i1 x2 )
      (fun s fr' h' => fr' 0 = lst cI list_0 ∧ fr' 1 = .int .i64 many_1 ∧ fr' 7 = lst cI list_0 ∧ Sep h' (geL h.length) ([])) hX5 ⟨zf0, zf1, rfl, hS⟩ (by simp only [B0, reduceIte,
      reduceEqDiff]) (by simp only [B0, reduceIte, reduceEqDiff]) (fun _ _ _ h => h) rfl rfl (fun _ _ _ _ h => h) (fun _ _ _ _ h => h) (fun _ _ _ _ h => h) (by decide) ?_ ?_
  · rintro i1 x2 _ fr15 h16 hx21 ⟨f18, f19, f20, hS17⟩ f22 f23 oc4 hF7 hr8 Q9 hN10 hB14 hK11 hR12 hE13
    unfold impl_areMembers_b1 at hF7
    simp only [x71_2, run_seq, run_reg, f22, run_mv, f20, run_ia, B0, reduceIte, reduceEqDiff]
    refine put1_eq (v := .ref (cI x2) 0) (xia_lstN hx21 rfl) ?_
    simp only [run_ld, B0, reduceIte, reduceEqDiff]
    refine put1_eq (v := .int .i64 x2) rfl ?_
    simp only [run_mv, run_ops_nil, x71_1, run_seq, run_reg, f19, run_bin, put1_some, xsub, run_call, B0, reduceIte, reduceEqDiff]
    refine call1 rfl (mapM1 snap_int (mapM1 snap_int (mapM1 snap_int mapM0))) (impl_in_x (fun b hb => decide_eq_true hb) x2 0 (IntKind.wrap .i64 (many_1 - 1)) _ rfl) ?_
    simp only [run_un, put1_some, xnot, run_mv, B0, reduceIte, reduceEqDiff]
    obtain ⟨v27, hx28, hF29⟩ := bind_some' hF7
    refine ops_j 12 (fun fr' h' => Sep h' (geL h.length) ([]) ∧ fr' 31 = .bool v27 ∧ fr' 0 = lst cI list_0 ∧ fr' 1 = .int .i64 many_1 ∧ fr' 7 = lst cI list_0 ∧ fr' 8 = .int .i64
        (List.length list_0 : Int) ∧ fr' 9 = .int .i64 (i1 : Int)) (fun Q24 hN25 => ?_) ?_
    · simp only [List.take_succ_cons, List.take_zero]
      simp only [run_guard (g := 19), B0, reduceIte, reduceEqDiff]
      refine guard_split (t := (!(impl_in x2 0 (IntKind.wrap .i64 (many_1 - 1))))) (fun hg26 => ?_) (fun hg26 => ?_)
      · rw [iteT hg26] at hx28
        simp only [hg26, run_guard (g := 19), guard_off', run_guard (g := 22), guard_tup, run_pick, put1_some, xpick_t, run_ops_nil, run_nil, B0, reduceIte, reduceEqDiff]
        have e30 := some_inj hx28
        exact hN25 _ _ ⟨hS17, by rw [← e30]; simp only [B0, reduceIte, reduceEqDiff], f18, f19, f20, f23, f22⟩
      · rw [iteF hg26] at hx28
        simp only [hg26, run_guard (g := 19), guard_false, run_mv, run_bin, put1_some, xgtr, B0, reduceIte, reduceEqDiff]
        obtain ⟨v34, hx35, hF36⟩ := bind_some' hx28
        refine ops_j 8 (fun fr' h' => Sep h' (geL h.length)
            ([]) ∧ fr' 30 = .bool v34 ∧ fr' 0 = lst cI list_0 ∧ fr' 1 = .int .i64 many_1 ∧ fr' 7 = lst cI list_0 ∧ fr' 8 = .int .i64
            (List.length list_0 : Int) ∧ fr' 9 = .int .i64 (i1 : Int) ∧ fr' 19 = .bool (!(impl_in x2 0 (IntKind.wrap .i64 (many_1 - 1))))) (fun Q31 hN32 => ?_) ?_
        · simp only [List.take_succ_cons, List.take_zero]
          simp only [run_guard (g := 22), B0, reduceIte, reduceEqDiff]
          refine guard_split (t := (decide ((0 : Int) < (i1 : Int)))) (fun hg33 => ?_) (fun hg33 => ?_)
          · rw [iteT hg33] at hx35
            obtain ⟨x37, hx38, hF39⟩ := bind_some' hx35
            simp only [hg33, run_guard (g := 22), guard_true, f18, run_mv, run_bin, put1_some, xsub, run_ia, B0, reduceIte, reduceEqDiff]
            refine put1_eq (v := .ref (cI x37) 0) (xia_lst hx38 rfl) ?_
            simp only [hg33, run_guard (g := 22), guard_true, run_ld, B0, reduceIte, reduceEqDiff]
            refine put1_eq (v := .int .i64 x37) rfl ?_
            simp only [hg33, run_guard (g := 22), guard_true, run_mv, run_bin, put1_some, xgeq, hg26, run_guard (g := 19), guard_false, run_pick, xpick_t, run_ops_nil, run_nil,
                B0, reduceIte, reduceEqDiff]
            have e40 := some_inj hF39
            exact hN32 _ _ ⟨hS17, by rw [← e40]; simp only [B0, reduceIte, reduceEqDiff], f18, f19, f20, f23, f22, by simp only [hg26, B0, reduceIte, reduceEqDiff]⟩
          · rw [iteF hg33] at hx35
            simp only [hg33, run_guard (g := 22), guard_off, hg26, run_guard (g := 19), guard_false, run_pick, put1_some, xpick_f, run_ops_nil, run_nil, B0, reduceIte,
                reduceEqDiff]
            have e41 := some_inj hx35
            exact hN32 _ _ ⟨hS17, by rw [← e41]; simp only [B0, reduceIte, reduceEqDiff], f18, f19, f20, f23, f22, by simp only [hg26, B0, reduceIte, reduceEqDiff]⟩
        rintro fr42 h50 ⟨hS51, f43, f44, f45, f46, f47, f48, f49⟩
        simp only [List.drop_succ_cons, List.drop_zero]
        simp only [f49, hg26, run_pick, put1_some, xpick_f, f43, run_ops_nil, run_nil, B0, reduceIte, reduceEqDiff]
        have e52 := some_inj hF36
        exact hN25 _ _ ⟨hS51, by rw [← e52]; simp only [B0, reduceIte, reduceEqDiff], f44, f45, f46, f47, f48⟩
    rintro fr53 h60 ⟨hS61, f54, f55, f56, f57, f58, f59⟩
    simp only [List.drop_succ_cons, List.drop_zero]
    simp only [run_ops_nil, f54, run_cond, B0, reduceIte, reduceEqDiff]
    refine cond_split (t := v27) (fun hc62 => ?_) (fun hc62 => ?_)
    · rw [iteT hc62] at hF29
      simp only [run_seq, run_reg, run_mv, run_ops_nil, run_ret, B0, reduceIte, reduceEqDiff]
      have e63 := some_inj hF29
      subst e63
      have ho64 := hr8 _ rfl
      have hk65 := hk6
      rw [ho64] at hk65
      dsimp only [jnO] at hk65
      apply hR12
      have he := some_inj hk65
      subst he
      simp only [end_ret1, B0, reduceIte, reduceEqDiff]
      exact rfl
    rw [iteF hc62] at hF29
    simp only [run_skip, run_nil, B0, reduceIte, reduceEqDiff]
    have e66 := some_inj hF29
    exact hN10 _ _ _ e66.symm ⟨f55, f56, f57, hS61⟩ (f59) (f58)
  rintro _ fr68 h69 rfl ⟨f71, f72, f73, hS70⟩
  dsimp only [jnO] at hk6
  unfold impl_areMembers_j1 at hk6
  simp only [run_seq, run_reg, run_mv, run_ops_nil, run_ret, B0, reduceIte, reduceEqDiff]
  have he := some_inj hk6
  subst he
  simp only [end_ret1, B0, reduceIte, reduceEqDiff]
  exact rfl
theorem impl_isOrder_x {W : Nat → Bool} {h : Heap} (hW : ∀ b,
    (geL h.length) b → W b = true) (l_0 : List Call) (order_1 : List Int) (r : Bool) (hF : impl_isOrder l_0 order_1 = some r) : Ret E W 54 [lst Call.cells l_0,
    lst cI order_1] h (fun v h' => cut h.length h' E.sz false 9 v = some (.bool r)) := by
  refine Ret.of (fn := x54) rfl (Run.of ?_)
  unfold impl_isOrder at hF
  have zf0 : argFr [lst Call.cells l_0, lst cI order_1] 0 = lst Call.cells l_0 := rfl
  have zf1 : argFr [lst Call.cells l_0, lst cI order_1] 1 = lst cI order_1 := rfl
  generalize argFr [lst Call.cells l_0, lst cI order_1] = fr0 at zf0 zf1 ⊢
  have hS : Sep h (geL h.length) [] := Sep.nil h
  simp only [x54, run_seq, run_reg, run_mv, run_ops_nil, x54_3, run_buildS, evp, B0, reduceIte, reduceEqDiff]
  refine put2_buildSF (n := 1) (f := cI) ([] : List Int) hS rfl rfl (fun v1 c2 h3 hv4 hS5 => ?_)
  simp only [zf1, run_mv, run_app, B0, reduceIte, reduceEqDiff]
  obtain ⟨l7, hx8, hF9⟩ := bind_some' hF
  refine put2_appF (f := cI) hv4 hS5 hW (fun _ => rfl) (fun _ => rfl) (firstOf_lst (fun _ => rfl)) hx8 (fun v10 c11 h12 hv13 hS14 => ?_)
  obtain ⟨v16, hx17, hF18⟩ := bind_some' hF9
  simp only [run_mv, run_ops_nil, x54_2, run_seq, run_reg, run_call, B0, reduceIte, reduceEqDiff]
  refine call0 rfl (slices_Sort_int_x hW v10 c11 l7 hv13 v16 hx17 hS14) ?_
  rintro _ h21 ⟨c19, rfl, hv20, hS22⟩
  simp only [run_ops_nil, x54_1, run_seq, run_reg, zf1, run_mv, run_len, put1_some, xlen_lst, zf0, run_bin, xeql, B0, reduceIte, reduceEqDiff]
  obtain ⟨v26, hx27, hF28⟩ := bind_some' hF18
  refine ops_j 5 (fun fr' h' => Sep h' (geL h.length) ([]) ∧ fr' 21 = .bool v26) (fun Q23 hN24 => ?_) ?_
  · simp only [List.take_succ_cons, List.take_zero]
    simp only [run_guard (g := 16), B0, reduceIte, reduceEqDiff]
    refine guard_split (t := (decide ((List.length order_1 : Int) = (List.length l_0 : Int)))) (fun hg25 => ?_) (fun hg25 => ?_)
    · rw [iteT hg25] at hx27
      obtain ⟨v29, hx30, hF31⟩ := bind_some' hx27
      simp only [hg25, run_guard (g := 16), guard_true, run_mv, zf0, run_len, put1_some, xlen_lst, run_call, B0, reduceIte, reduceEqDiff]
      refine call1 rfl (mapM1 (SlF.snap hv20 hS22 rfl (fun _ => rfl) (fun _ => rfl)) (mapM1 snap_int mapM0)) (impl_areMembers_x (fun b hb => decide_eq_true hb) v16
          (List.length l_0 : Int) v29 hx30) ?_
      simp only [hg25, run_pick, put1_some, xpick_t, run_ops_nil, run_nil, B0, reduceIte, reduceEqDiff]
      have e32 := some_inj hF31
      exact hN24 _ _ ⟨(Sep.dc (hS22)), by rw [← e32]; simp only [B0, reduceIte, reduceEqDiff]⟩
    · rw [iteF hg25] at hx27
      simp only [hg25, run_guard (g := 16), guard_off, run_pick, put1_some, xpick_f, run_ops_nil, run_nil, B0, reduceIte, reduceEqDiff]
      have e33 := some_inj hx27
      exact hN24 _ _ ⟨(Sep.dc (hS22)), by rw [← e33]; simp only [B0, reduceIte, reduceEqDiff]⟩
  rintro fr34 h36 ⟨hS37, f35⟩
  simp only [List.drop_succ_cons, List.drop_zero]
  simp only [f35, run_mv, run_ops_nil, run_ret, B0, reduceIte, reduceEqDiff]
  have he := some_inj hF28
  subst he
  simp only [end_ret1, B0, reduceIte, reduceEqDiff]
  exact rfl
end Go.Proofs.Ytddkoiapboeemaa.X
namespace Go.Proofs.Ytddkoiapboeemaa.X
open Go
open Nat (reduceEqDiff)
theorem impl_inOrder_x {W : Nat → Bool} {h : Heap} (hW : ∀ b,
    (geL h.length) b → W b = true) (order_0 : List Int) {g1 : Nat} {caps1 : List XV} (hm1 : E.mode g1 = 1) (may_1 : Int → Int → Option Bool) (hf1 : ∀ (W : Nat → Bool) (h : Heap),
    (∀ b, h.length ≤ b → W b = true) → ∀ a0 a1 r, may_1 a0 a1 = some r → Ret E W g1 ([.int .i64 a0,
    .int .i64 a1] ++ caps1) h (fun v h' => cut h.length h' E.sz false 9 v = some (.bool r))) (r : Bool) (hF : impl_inOrder order_0 may_1 = some r) : Ret E W 55 [lst cI order_0,
    .fn g1 caps1] h (fun v h' => cut h.length h' E.sz false 9 v = some (.bool r)) := by
  refine Ret.of (fn := x55) rfl (Run.of ?_)
  unfold impl_inOrder at hF
  have zf0 : argFr [lst cI order_0, .fn g1 caps1] 0 = lst cI order_0 := rfl
  have zf1 : argFr [lst cI order_0, .fn g1 caps1] 1 = .fn g1 caps1 := rfl
  generalize argFr [lst cI order_0, .fn g1 caps1] = fr0 at zf0 zf1 ⊢
  have hS : Sep h (geL h.length) [] := Sep.nil h
  simp only [x55, run_seq, run_reg, run_mv, run_ops_nil, x55_9, zf0, run_len, put1_some, xlen_lst, B0, reduceIte, reduceEqDiff]
  obtain ⟨oc3, hX5, hk6⟩ := jn_some hF
  simp only [x55_8]
  refine rangeL_j (σ := Unit) order_0 (fun i1 x2 _ => impl_inOrder_b2 order_0 may_1 i1 x2 )
      (fun s fr' h' => fr' 0 = lst cI order_0 ∧ fr' 1 = .fn g1 caps1 ∧ fr' 9 = lst cI order_0 ∧ Sep h' (geL h.length) ([])) hX5 ⟨zf0, zf1, rfl, hS⟩ (by simp only [B0, reduceIte,
      reduceEqDiff]) (by simp only [B0, reduceIte, reduceEqDiff]) (fun _ _ _ h => h) rfl rfl (fun _ _ _ _ h => h) (fun _ _ _ _ h => h) (fun _ _ _ _ h => h) (by decide) ?_ ?_
  · rintro i1 x2 _ fr15 h16 hx21 ⟨f18, f19, f20, hS17⟩ f22 f23 oc4 hF7 hr8 Q9 hN10 hB14 hK11 hR12 hE13
    unfold impl_inOrder_b2 at hF7
    simp only [x55_6, run_seq, run_reg, f22, run_mv, f20, run_ia, B0, reduceIte, reduceEqDiff]
    refine put1_eq (v := .ref (cI x2) 0) (xia_lstN hx21 rfl) ?_
    simp only [run_ld, B0, reduceIte, reduceEqDiff]
    refine put1_eq (v := .int .i64 x2) rfl ?_
    obtain ⟨l24, hx25, hF26⟩ := bind_some' hF7
    simp only [run_mv, run_ops_nil, x55_5, run_seq, run_reg, f18, run_slc, Option.map_some, Option.map_none, B0, reduceIte, reduceEqDiff]
    refine put1_eq (pslc_lst_hi hx25 (fun _ => rfl)) ?_
    simp only [run_len, put1_some, xlen_lst, run_mv, run_ops_nil, B0, reduceIte, reduceEqDiff]
    obtain ⟨oc29, hX31, hk32⟩ := jn_some hF26
    simp only [x55_4]
    refine rangeL_j (σ := Unit) l24 (fun i27 x28 _ => impl_inOrder_b1 may_1 x2 i27 x28 )
        (fun s fr' h' => fr' 0 = lst cI order_0 ∧ fr' 1 = .fn g1 caps1 ∧ fr' 6 = .int .i64 x2 ∧ fr' 9 = lst cI order_0 ∧ fr' 10 = .int .i64
        (List.length order_0 : Int) ∧ fr' 11 = .int .i64 (i1 : Int) ∧ fr' 18 = lst cI l24 ∧ Sep h' (geL h.length) ([])) hX31 ⟨f18, f19, rfl, f20, f23, f22, rfl,
        hS17⟩ (by simp only [B0, reduceIte, reduceEqDiff]) (by simp only [B0, reduceIte,
        reduceEqDiff]) (fun _ _ _ h => h) rfl rfl (fun _ _ _ _ h => h) (fun _ _ _ _ h => h) (fun _ _ _ _ h => h) (by decide) ?_ ?_
    · rintro i27 x28 _ fr41 h42 hx51 ⟨f44, f45, f46, f47, f48, f49, f50, hS43⟩ f52 f53 oc30 hF33 hr34 Q35 hN36 hB40 hK37 hR38 hE39
      unfold impl_inOrder_b1 at hF33
      simp only [x55_2, run_seq, run_reg, f50, f52, run_ia, B0, reduceIte, reduceEqDiff]
      refine put1_eq (v := .ref (cI x28) 0) (xia_lstN hx51 rfl) ?_
      simp only [run_ld, B0, reduceIte, reduceEqDiff]
      refine put1_eq (v := .int .i64 x28) rfl ?_
      obtain ⟨v54, hx55, hF56⟩ := bind_some' hF33
      simp only [run_mv, run_ops_nil, x55_1, run_seq, run_reg, f45, f46, run_call, B0, reduceIte, reduceEqDiff]
      refine call1 hm1 (mapM1 snap_int (mapM1 snap_int mapM0)) (hf1 _ _ (fun b hb => decide_eq_true hb) x28 x2 v54 hx55) ?_
      simp only [run_un, put1_some, xnot, run_ops_nil, run_cond, B0, reduceIte, reduceEqDiff]
      refine cond_split (t := (!v54)) (fun hc57 => ?_) (fun hc57 => ?_)
      · rw [iteT hc57] at hF56
        simp only [run_seq, run_reg, run_mv, run_ops_nil, run_ret, B0, reduceIte, reduceEqDiff]
        have e58 := some_inj hF56
        subst e58
        have ho59 := hr34 _ rfl
        have hk60 := hk32
        rw [ho59] at hk60
        dsimp only [jnO] at hk60
        apply hR38
        have e61 := some_inj hk60
        subst e61
        have ho62 := hr8 _ rfl
        have hk63 := hk6
        rw [ho62] at hk63
        dsimp only [jnO] at hk63
        apply hR12
        have he := some_inj hk63
        subst he
        simp only [end_ret1, B0, reduceIte, reduceEqDiff]
        exact rfl
      rw [iteF hc57] at hF56
      simp only [run_skip, run_nil, B0, reduceIte, reduceEqDiff]
      have e64 := some_inj hF56
      exact hN36 _ _ _ e64.symm ⟨f44, f45, f46, f47, f48, f49, f50, hS43⟩ (f52) (f53)
    rintro _ fr66 h67 rfl ⟨f69, f70, f71, f72, f73, f74, f75, hS68⟩
    dsimp only [jnO] at hk32
    unfold impl_inOrder_j1 at hk32
    simp only [run_nil, B0, reduceIte, reduceEqDiff]
    have e76 := some_inj hk32
    exact hN10 _ _ _ e76.symm ⟨f69, f70, f72, hS68⟩ (f74) (f73)
  rintro _ fr79 h80 rfl ⟨f82, f83, f84, hS81⟩
  dsimp only [jnO] at hk6
  unfold impl_inOrder_j2 at hk6
  simp only [run_seq, run_reg, run_mv, run_ops_nil, run_ret, B0, reduceIte, reduceEqDiff]
  have he := some_inj hk6
  subst he
  simp only [end_ret1, B0, reduceIte, reduceEqDiff]
  exact rfl
theorem impl_RespectsTime_1_x {W : Nat → Bool} {h : Heap} (hW : ∀ b,
    (geL h.length) b → W b = true) (a_0 : Int) (b_1 : Int) (cap_0 : List Call) (r : Bool) (hF : impl_RespectsTime_1 a_0 b_1 cap_0 = some r) : Ret E W 56 [.int .i64 a_0,
    .int .i64 b_1, .ref ((cL Call.cells) cap_0) 0] h (fun v h' => cut h.length h' E.sz false 9 v = some (.bool r)) := by
  refine Ret.of (fn := x56) rfl (Run.of ?_)
  unfold impl_RespectsTime_1 at hF
  have zf0 : argFr [.int .i64 a_0, .int .i64 b_1, .ref ((cL Call.cells) cap_0) 0] 0 = .int .i64 a_0 := rfl
  have zf1 : argFr [.int .i64 a_0, .int .i64 b_1, .ref ((cL Call.cells) cap_0) 0] 1 = .int .i64 b_1 := rfl
  have zf2 : argFr [.int .i64 a_0, .int .i64 b_1, .ref ((cL Call.cells) cap_0) 0] 2 = .ref ((cL Call.cells) cap_0) 0 := rfl
  generalize argFr [.int .i64 a_0, .int .i64 b_1, .ref ((cL Call.cells) cap_0) 0] = fr0 at zf0 zf1 zf2 ⊢
  have hS : Sep h (geL h.length) [] := Sep.nil h
  simp only [x56, run_seq, run_reg, run_mv, run_ops_nil, x56_1, run_draw, zf2, d4_ld, B0, reduceIte, reduceEqDiff]
  refine put1d_eq (v := lst Call.cells cap_0) rfl ?_
  obtain ⟨x1, hx2, hF3⟩ := bind_some' hF
  simp only [zf1, d4_mv, put1d_some, d4_ia, B0, reduceIte, reduceEqDiff]
  refine put1d_eq (v := .ref (Call.cells x1) 0) (xia_lst hx2 rfl) ?_
  simp only [d4_fa, put1d_some, Nat.reduceAdd, Nat.zero_add, Nat.add_zero, xfa_ref, d4_ld, B0, reduceIte, reduceEqDiff]
  refine put1d_eq (v := .int .i64 x1.End) rfl ?_
  simp only [zf2, d4_ld, B0, reduceIte, reduceEqDiff]
  refine put1d_eq (v := lst Call.cells cap_0) rfl ?_
  obtain ⟨x4, hx5, hF6⟩ := bind_some' hF3
  simp only [zf0, d4_mv, put1d_some, d4_ia, B0, reduceIte, reduceEqDiff]
  refine put1d_eq (v := .ref (Call.cells x4) 0) (xia_lst hx5 rfl) ?_
  simp only [d4_fa, put1d_some, Nat.reduceAdd, Nat.zero_add, Nat.add_zero, xfa_ref, d4_ld, B0, reduceIte, reduceEqDiff]
  refine put1d_eq (v := .int .i64 x4.Begin) rfl ?_
  simp only [d4_bin, put1d_some, xgtr, d4_mv, run_draw_nil, run_ret, B0, reduceIte, reduceEqDiff]
  have he := some_inj hF6
  subst he
  simp only [end_ret1, B0, reduceIte, reduceEqDiff]
  exact rfl
theorem impl_RespectsTime_x {W : Nat → Bool} {h : Heap} (hW : ∀ b,
    (geL h.length) b → W b = true) (l_0 : List Call) (order_1 : List Int) (r : Bool × Bool) (hF : impl_RespectsTime l_0 order_1 = some r) : Ret E W 29 [lst Call.cells l_0,
    lst cI order_1] h (fun v h' => cut h.length h' E.sz false 9 v = some (.tup [.bool r.1, .bool r.2])) := by
  refine Ret.of (fn := x29) rfl (Run.of ?_)
  unfold impl_RespectsTime at hF
  have zf0 : argFr [lst Call.cells l_0, lst cI order_1] 0 = lst Call.cells l_0 := rfl
  have zf1 : argFr [lst Call.cells l_0, lst cI order_1] 1 = lst cI order_1 := rfl
  generalize argFr [lst Call.cells l_0, lst cI order_1] = fr0 at zf0 zf1 ⊢
  have hS : Sep h (geL h.length) [] := Sep.nil h
  simp only [x29, run_seq, run_reg, run_box, zf0, B0, reduceIte, reduceEqDiff]
  refine put2_boxC (cs := [lst Call.cells l_0]) hS rfl rfl rfl (fun b1 h2 hS3 => ?_)
  simp only [run_mv, run_ops_nil, B0, reduceIte, reduceEqDiff]
  refine frz_stepC hS3 hW (by simp only [B0, reduceIte, reduceEqDiff]) (fun h5 hS6 => ?_)
  simp only [run_frz_nil, x29_3, run_seq, run_reg, run_ld, B0, reduceIte, reduceEqDiff]
  refine put1_eq (v := lst Call.cells l_0) rfl ?_
  obtain ⟨v7, hx8, hF9⟩ := bind_some' hF
  simp only [run_call, B0, reduceIte, reduceEqDiff]
  refine call1 rfl (mapM1 snap_lst mapM0) (impl_areCalls_x (fun b hb => decide_eq_true hb) l_0 v7 hx8) ?_
  simp only [run_un, put1_some, xnot, run_mv, B0, reduceIte, reduceEqDiff]
  obtain ⟨v13, hx14, hF15⟩ := bind_some' hF9
  refine ops_j 5 (fun fr' h' => Sep h' (geL h.length) ([]) ∧ fr' 14 = .bool v13 ∧ fr' 1 = lst cI order_1 ∧ fr' 2 = .ref [lst Call.cells l_0] 0) (fun Q10 hN11 => ?_) ?_
  · simp only [List.take_succ_cons, List.take_zero]
    simp only [run_guard (g := 9), B0, reduceIte, reduceEqDiff]
    refine guard_split (t := (!v7)) (fun hg12 => ?_) (fun hg12 => ?_)
    · rw [iteT hg12] at hx14
      simp only [hg12, run_guard (g := 9), guard_off', run_pick, put1_some, xpick_t, run_ops_nil, run_nil, B0, reduceIte, reduceEqDiff]
      have e16 := some_inj hx14
      exact hN11 _ _ ⟨hS6, by rw [← e16]; simp only [B0, reduceIte, reduceEqDiff], zf1, rfl⟩
    · rw [iteF hg12] at hx14
      simp only [hg12, run_guard (g := 9), guard_false, run_ld, B0, reduceIte, reduceEqDiff]
      refine put1_eq (v := lst Call.cells l_0) rfl ?_
      obtain ⟨v17, hx18, hF19⟩ := bind_some' hx14
      simp only [hg12, run_guard (g := 9), guard_false, zf1, run_mv, run_call, B0, reduceIte, reduceEqDiff]
      refine call1 rfl (mapM1 snap_lst (mapM1 snap_lst mapM0)) (impl_isOrder_x (fun b hb => decide_eq_true hb) l_0 order_1 v17 hx18) ?_
      simp only [hg12, run_guard (g := 9), guard_false, run_un, put1_some, xnot, run_pick, xpick_f, run_ops_nil, run_nil, B0, reduceIte, reduceEqDiff]
      have e20 := some_inj hF19
      exact hN11 _ _ ⟨hS6, by rw [← e20]; simp only [B0, reduceIte, reduceEqDiff], zf1, rfl⟩
  rintro fr21 h25 ⟨hS26, f22, f23, f24⟩
  simp only [List.drop_succ_cons, List.drop_zero]
  simp only [run_ops_nil, x29_1, f22, run_cond, B0, reduceIte, reduceEqDiff]
  refine cond_split (t := v13) (fun hc27 => ?_) (fun hc27 => ?_)
  · rw [iteT hc27] at hF15
    simp only [run_seq, run_reg, run_mv, run_ops_nil, run_ret, B0, reduceIte, reduceEqDiff]
    have he := some_inj hF15
    subst he
    simp only [end_ret2, B0, reduceIte, reduceEqDiff]
    exact cut_tup (mapM1 rfl (mapM1 rfl mapM0))
  rw [iteF hc27] at hF15
  obtain ⟨v28, hx29, hF30⟩ := bind_some' hF15
  simp only [run_skip, x29_2, run_seq, run_reg, f23, run_mv, run_mkF, f24, run_call, B0, reduceIte, reduceEqDiff]
  refine call1 rfl (mapM1 snap_lst (mapM1 snap_fn mapM0)) (impl_inOrder_x (fun b hb => decide_eq_true hb) order_1 (g1 := 56) (caps1 := [.ref [lst Call.cells l_0] 0]) rfl
      (fun a0 a1 => impl_RespectsTime_1 a0 a1 l_0) (fun W h hW a0 a1 r hr => impl_RespectsTime_1_x hW a0 a1 l_0 r hr) v28 hx29) ?_
  simp only [run_mv, run_ops_nil, run_ret, B0, reduceIte, reduceEqDiff]
  have he := some_inj hF30
  subst he
  simp only [end_ret2, B0, reduceIte, reduceEqDiff]
  exact cut_tup (mapM1 rfl (mapM1 rfl mapM0))
theorem laws_FnExactRespectsTime_x {W : Nat → Bool} {h : Heap} (hW : ∀ b,
    (geL h.length) b → W b = true) (k : Nat) (aL_0 : List Call) (aOrder_1 : List Int) (r : Bool)
    (hF : laws_FnExactRespectsTime k aL_0 aOrder_1 = some r) : Ret E W 7 [lst Call.cells aL_0,
    lst cI aOrder_1] h (fun v h' => cut h.length h' E.sz false 9 v = some (.bool r)) := by
  refine Ret.of (fn := x7) rfl (Run.of ?_)
  unfold laws_FnExactRespectsTime at hF
  have zf0 : argFr [lst Call.cells aL_0, lst cI aOrder_1] 0 = lst Call.cells aL_0 := rfl
  have zf1 : argFr [lst Call.cells aL_0, lst cI aOrder_1] 1 = lst cI aOrder_1 := rfl
  generalize argFr [lst Call.cells aL_0, lst cI aOrder_1] = fr0 at zf0 zf1 ⊢
  have hS : Sep h (geL h.length) [] := Sep.nil h
  simp only [x7, run_seq, run_reg, run_mv, run_ops_nil, x7_11, zf1, run_len, put1_some, xlen_lst, run_bin, xgtr, run_cond, B0, reduceIte, reduceEqDiff]
  refine cond_split (t := (decide ((1048576 : Int) < (List.length aOrder_1 : Int)))) (fun hc1 => ?_) (fun hc1 => ?_)
  · rw [iteT hc1] at hF
    simp only [run_seq, run_reg, run_mv, run_ops_nil, run_ret, B0, reduceIte, reduceEqDiff]
    have he := some_inj hF
    subst he
    simp only [end_ret1, B0, reduceIte, reduceEqDiff]
    exact rfl
  rw [iteF hc1] at hF
  obtain ⟨v2, hx3, hF4⟩ := bind_some' hF
  simp only [run_skip, x7_10, run_seq, run_reg, run_mv, run_ops_nil, x7_9, zf0, run_call, B0, reduceIte, reduceEqDiff]
  refine call1 rfl (mapM1 snap_lst (mapM1 snap_int mapM0)) (laws_szCallS_x (fun b hb => decide_eq_true hb) aL_0 1048576 v2 hx3) ?_
  simp only [run_mv, run_ops_nil, x7_8, run_seq, run_reg, run_bin, put1_some, xlss, run_cond, B0, reduceIte, reduceEqDiff]
  refine cond_split (t := (decide (v2 < 0))) (fun hc5 => ?_) (fun hc5 => ?_)
  · rw [iteT hc5] at hF4
    simp only [run_seq, run_reg, run_mv, run_ops_nil, run_ret, B0, reduceIte, reduceEqDiff]
    have he := some_inj hF4
    subst he
    simp only [end_ret1, B0, reduceIte, reduceEqDiff]
    exact rfl
  rw [iteF hc5] at hF4
  obtain ⟨v6, hx7, hF8⟩ := bind_some' hF4
  simp only [run_skip, x7_7, run_seq, run_reg, zf0, run_mv, run_call, B0, reduceIte, reduceEqDiff]
  refine call2 rfl hS (mapM1 snap_lst mapM0) (laws_toCallS_x (fun b hb => decide_eq_true hb) k aL_0 v6 hx7) ?_
  rintro v9 h13 ⟨_, c10, rfl, hv11, hS14⟩
  refine ⟨_, free_1 (SlF.free1 hv11), hS14, (pf_app (SlF.pf hv11 (fun _ => rfl)) pf_nil), fun h15 hS16 => ?_⟩
  have hS17 : Sep h15 (geL h.length) (c10 ++ ([])) := by simpa only [List.append_assoc, List.nil_append] using hS16
  obtain ⟨v18, hx19, hF20⟩ := bind_some' hF8
  simp only [zf1, run_mv, run_call, B0, reduceIte, reduceEqDiff]
  refine call2 rfl hS17 (mapM1 snap_lst mapM0) (laws_toIntS_x (fun b hb => decide_eq_true hb) k aOrder_1 v18 hx19) ?_
  rintro v21 h25 ⟨_, c22, rfl, hv23, hS26⟩
  refine ⟨_, free_1 (SlF.free1 hv23), hS26, (pf_app (SlF.pf hv23 (fun _ => rfl)) pf_nil), fun h27 hS28 => ?_⟩
  have hS29 : Sep h27 (geL h.length) (c22 ++ (c10 ++ ([]))) := by simpa only [List.append_assoc, List.nil_append] using hS28
  obtain ⟨v30, hx31, hF32⟩ := bind_some' hF20
  simp only [run_call, B0, reduceIte, reduceEqDiff]
  refine call1 rfl (mapM1 (SlF.snap hv11 (Sep.m1 hS29) rfl (fun _ => rfl) (fun _ => rfl)) (mapM1 (SlF.snap hv23 hS29 rfl (fun _ => rfl) (fun _ => rfl)) mapM0))
      (spec_RespectsTime_x (fun b hb => decide_eq_true hb) v6 v18 v30 hx31) ?_
  obtain ⟨v33, hx34, hF35⟩ := bind_some' hF32
  simp only [run_mv, run_ext, put1_some, xext_0, xext_1, run_ops_nil, x7_6, run_seq, run_reg, zf0, run_call, B0, reduceIte, reduceEqDiff]
  refine call2 rfl hS29 (mapM1 snap_lst mapM0) (laws_toCallS_x (fun b hb => decide_eq_true hb) k aL_0 v33 hx34) ?_
  rintro v36 h40 ⟨_, c37, rfl, hv38, hS41⟩
  refine ⟨_, free_1 (SlF.free1 hv38), hS41, (pf_app (SlF.pf hv38 (fun _ => rfl)) pf_nil), fun h42 hS43 => ?_⟩
  have hS44 : Sep h42 (geL h.length) (c37 ++ (c22 ++ (c10 ++ ([])))) := by simpa only [List.append_assoc, List.nil_append] using hS43
  obtain ⟨v45, hx46, hF47⟩ := bind_some' hF35
  simp only [run_mv, run_ops_nil, x7_5, run_seq, run_reg, zf1, run_call, B0, reduceIte, reduceEqDiff]
  refine call2 rfl hS44 (mapM1 snap_lst mapM0) (laws_toIntS_x (fun b hb => decide_eq_true hb) k aOrder_1 v45 hx46) ?_
  rintro v48 h52 ⟨_, c49, rfl, hv50, hS53⟩
  refine ⟨_, free_1 (SlF.free1 hv50), hS53, (pf_app (SlF.pf hv50 (fun _ => rfl)) pf_nil), fun h54 hS55 => ?_⟩
  have hS56 : Sep h54 (geL h.length) (c49 ++ (c37 ++ (c22 ++ (c10 ++ ([]))))) := by simpa only [List.append_assoc, List.nil_append] using hS55
  obtain ⟨v57, hx58, hF59⟩ := bind_some' hF47
  simp only [run_mv, run_ops_nil, x7_4, run_seq, run_reg, run_call, B0, reduceIte, reduceEqDiff]
  refine call1 rfl (mapM1 (SlF.snap hv38 (Sep.m1 hS56) rfl (fun _ => rfl) (fun _ => rfl)) (mapM1 (SlF.snap hv50 hS56 rfl (fun _ => rfl) (fun _ => rfl)) mapM0))
      (impl_RespectsTime_x (fun b hb => decide_eq_true hb) v33 v45 v57 hx58) ?_
  simp only [run_mv, run_ext, put1_some, xext_0, xext_1, run_ops_nil, x7_3, run_seq, run_reg, run_eqb, xeqb_t, B0, reduceIte, reduceEqDiff]
  refine ops_j 4 (fun fr' h' => Sep h' (geL h.length) (c37 ++ (c49 ++ ([]))) ∧ fr' 45 = .bool ((!(v57.1 == v30.1)) ||
      (!(v57.2 == v30.2))) ∧ fr' 0 = lst Call.cells aL_0 ∧ fr' 1 = lst cI aOrder_1 ∧ fr' 8 = v36 ∧ fr' 9 = v48) (fun Q60 hN61 => ?_) ?_
  · simp only [List.take_succ_cons, List.take_zero]
    simp only [run_guard (g := 41), B0, reduceIte, reduceEqDiff]
    refine guard_split (t := (!(v57.1 == v30.1))) (fun hg62 => ?_) (fun hg62 => ?_)
    · simp only [hg62, run_guard (g := 41), guard_off', run_pick, put1_some, xpick_t, run_ops_nil, run_nil, B0, reduceIte, reduceEqDiff]
      exact hN61 _ _ ⟨(Sep.m1 (Sep.dc (Sep.m2 (Sep.dc (Sep.m2 hS56))))), by rw [orT hg62]; simp only [B0, reduceIte, reduceEqDiff], zf0, zf1, rfl, rfl⟩
    · simp only [hg62, run_guard (g := 41), guard_false, run_mv, run_eqb, put1_some, xeqb_t, run_pick, xpick_f, run_ops_nil, run_nil, B0, reduceIte, reduceEqDiff]
      exact hN61 _ _ ⟨(Sep.m1 (Sep.dc (Sep.m2 (Sep.dc (Sep.m2 hS56))))), by rw [orF hg62]; simp only [B0, reduceIte, reduceEqDiff], zf0, zf1, rfl, rfl⟩
  rintro fr63 h69 ⟨hS70, f64, f65, f66, f67, f68⟩
  simp only [List.drop_succ_cons, List.drop_zero]
  simp only [run_ops_nil, f64, run_cond, B0, reduceIte, reduceEqDiff]
  refine cond_split (t := ((!(v57.1 == v30.1)) || (!(v57.2 == v30.2)))) (fun hc71 => ?_) (fun hc71 => ?_)
  · rw [iteT hc71] at hF59
    simp only [run_seq, run_reg, run_mv, run_ops_nil, run_ret, B0, reduceIte, reduceEqDiff]
    have he := some_inj hF59
    subst he
    simp only [end_ret1, B0, reduceIte, reduceEqDiff]
    exact rfl
  rw [iteF hc71] at hF59
  obtain ⟨v72, hx73, hF74⟩ := bind_some' hF59
  simp only [run_skip, x7_2, run_seq, run_reg, f67, run_mv, f65, run_call, B0, reduceIte, reduceEqDiff]
  refine call2 rfl hS70 (mapM1 snap_lst mapM0) (laws_toCallS_x (fun b hb => decide_eq_true hb) k aL_0 v72 hx73) ?_
  rintro v75 h79 ⟨_, c76, rfl, hv77, hS80⟩
  refine ⟨_, free_1 (SlF.free1 hv77), hS80, (pf_app (SlF.pf hv77 (fun _ => rfl)) pf_nil), fun h81 hS82 => ?_⟩
  have hS83 : Sep h81 (geL h.length) (c76 ++ (c37 ++ (c49 ++ ([])))) := by simpa only [List.append_assoc, List.nil_append] using hS82
  obtain ⟨v84, hx85, hF86⟩ := bind_some' hF74
  simp only [run_call, B0, reduceIte, reduceEqDiff]
  refine call1 rfl (mapM1 (SlF.snap hv38 (Sep.m1 hS83) rfl (fun _ => rfl) (fun _ => rfl)) (mapM1 (SlF.snap hv77 hS83 rfl (fun _ => rfl) (fun _ => rfl)) mapM0)) (laws_eqCallS_x
      (fun b hb => decide_eq_true hb) k v33 v72 v84 hx85) ?_
  simp only [run_un, put1_some, xnot, run_ops_nil, run_cond, B0, reduceIte, reduceEqDiff]
  refine cond_split (t := (!v84)) (fun hc87 => ?_) (fun hc87 => ?_)
  · rw [iteT hc87] at hF86
    simp only [run_seq, run_reg, run_mv, run_ops_nil, run_ret, B0, reduceIte, reduceEqDiff]
    have he := some_inj hF86
    subst he
    simp only [end_ret1, B0, reduceIte, reduceEqDiff]
    exact rfl
  rw [iteF hc87] at hF86
  obtain ⟨v88, hx89, hF90⟩ := bind_some' hF86
  simp only [run_skip, x7_1, run_seq, run_reg, f68, run_mv, f66, run_call, B0, reduceIte, reduceEqDiff]
  refine call2 rfl hS83 (mapM1 snap_lst mapM0) (laws_toIntS_x (fun b hb => decide_eq_true hb) k aOrder_1 v88 hx89) ?_
  rintro v91 h95 ⟨_, c92, rfl, hv93, hS96⟩
  refine ⟨_, free_1 (SlF.free1 hv93), hS96, (pf_app (SlF.pf hv93 (fun _ => rfl)) pf_nil), fun h97 hS98 => ?_⟩
  have hS99 : Sep h97 (geL h.length) (c92 ++ (c76 ++ (c37 ++ (c49 ++ ([]))))) := by simpa only [List.append_assoc, List.nil_append] using hS98
  obtain ⟨v100, hx101, hF102⟩ := bind_some' hF90
  simp only [run_call, B0, reduceIte, reduceEqDiff]
  refine call1 rfl (mapM1 (SlF.snap hv50 (Sep.m3 hS99) rfl (fun _ => rfl) (fun _ => rfl)) (mapM1 (SlF.snap hv93 hS99 rfl (fun _ => rfl) (fun _ => rfl)) mapM0)) (laws_eqIntS_x
      (fun b hb => decide_eq_true hb) k v45 v88 v100 hx101) ?_
  simp only [run_un, put1_some, xnot, run_ops_nil, run_cond, B0, reduceIte, reduceEqDiff]
  refine cond_split (t := (!v100)) (fun hc103 => ?_) (fun hc103 => ?_)
  · rw [iteT hc103] at hF102
    simp only [run_seq, run_reg, run_mv, run_ops_nil, run_ret, B0, reduceIte, reduceEqDiff]
    have he := some_inj hF102
    subst he
    simp only [end_ret1, B0, reduceIte, reduceEqDiff]
    exact rfl
  rw [iteF hc103] at hF102
  simp only [run_skip, run_seq, run_reg, run_mv, run_ops_nil, run_ret, B0, reduceIte, reduceEqDiff]
  have he := some_inj hF102
  subst he
  simp only [end_ret1, B0, reduceIte, reduceEqDiff]
  exact rfl
end Go.Proofs.Ytddkoiapboeemaa.X
