/- The functions' code comes to what the plain functions say (1). -/
import Derived.Test.YtddkoiapboeemaaXOF
import Derived.Test.YtddkoiapboeemaaXOD
set_option linter.unusedVariables false
set_option linter.unusedSimpArgs false
set_option maxRecDepth 100000
namespace Go.Proofs.Ytddkoiapboeemaa.X
open Go
theorem laws_szCallS_x {W : Nat → Bool} {h : Heap} (hW : ∀ b,
    h.length ≤ b → W b = true) (a_0 : List Call) (left_1 : Int) (r : Int) (hF : laws_szCallS a_0 left_1 = some r) : Ret E W 11 [lst Call.cells a_0,
    .int .i64 left_1] h (fun v h' => cut h.length h' E.sz false 9 v = some (.int .i64 r)) := by
  refine Ret.of (fn := x11) rfl (Run.of ?_)
  unfold laws_szCallS at hF
  have zf0 : argFr [lst Call.cells a_0, .int .i64 left_1] 0 = lst Call.cells a_0 := rfl
  have zf1 : argFr [lst Call.cells a_0, .int .i64 left_1] 1 = .int .i64 left_1 := rfl
  generalize argFr [lst Call.cells a_0, .int .i64 left_1] = fr0 at zf0 zf1 ⊢
  have hS : Sep h h.length [] := Sep.nil h
  simp only [x11, run_seq, run_reg, run_mv, run_ops_nil, x11_2, zf1, zf0, run_len, put1_some, xlen_lst, run_bin, xsub, x11_1, xlss, run_cond, put_at, put_no, ev_t, ev_c,
      reduceIte, Nat.reduceEqDiff, List.map_cons, List.map_nil]
  refine cond_split (t := (decide ((IntKind.wrap .i64 (left_1 - (List.length a_0 : Int))) < 0))) (fun hc1 => ?_) (fun hc1 => ?_)
  · rw [iteT hc1] at hF
    simp only [run_seq, run_reg, run_mv, run_ops_nil, run_ret, put_at, put_no, ev_t, ev_c, reduceIte, Nat.reduceEqDiff, List.map_cons, List.map_nil]
    have he := some_inj hF
    subst he
    simp only [end_ret1, put_at, put_no, ev_t, ev_c, reduceIte, Nat.reduceEqDiff, List.map_cons, List.map_nil]
    exact rfl
  · rw [iteF hc1] at hF
    simp only [run_skip, run_seq, run_reg, run_mv, run_ops_nil, run_ret, put_at, put_no, ev_t, ev_c, reduceIte, Nat.reduceEqDiff, List.map_cons, List.map_nil]
    have he := some_inj hF
    subst he
    simp only [end_ret1, put_at, put_no, ev_t, ev_c, reduceIte, Nat.reduceEqDiff, List.map_cons, List.map_nil]
    exact rfl
theorem spec_l1In_x {W : Nat → Bool} {h : Heap} (hW : ∀ b,
    h.length ≤ b → W b = true) (n_0 : Int) (lo_1 : Int) (hi_2 : Int) (r : Bool) (hF : some (spec_l1In n_0 lo_1 hi_2) = some r) : Ret E W 41 [.int .i64 n_0, .int .i64 lo_1,
    .int .i64 hi_2] h (fun v h' => cut h.length h' E.sz false 9 v = some (.bool r)) := by
  refine Ret.of (fn := x41) rfl (Run.of ?_)
  unfold spec_l1In at hF
  have zf0 : argFr [.int .i64 n_0, .int .i64 lo_1, .int .i64 hi_2] 0 = .int .i64 n_0 := rfl
  have zf1 : argFr [.int .i64 n_0, .int .i64 lo_1, .int .i64 hi_2] 1 = .int .i64 lo_1 := rfl
  have zf2 : argFr [.int .i64 n_0, .int .i64 lo_1, .int .i64 hi_2] 2 = .int .i64 hi_2 := rfl
  generalize argFr [.int .i64 n_0, .int .i64 lo_1, .int .i64 hi_2] = fr0 at zf0 zf1 zf2 ⊢
  have hS : Sep h h.length [] := Sep.nil h
  simp only [x41, run_seq, run_reg, run_mv, run_ops_nil, x41_1, zf0, zf1, run_bin, put1_some, xgeq, put_at, put_no, ev_t, ev_c, reduceIte, Nat.reduceEqDiff, List.map_cons,
      List.map_nil]
  refine ops_j 4 (fun fr' h' => Sep h' h.length ([]) ∧ fr' 14 = .bool ((decide (lo_1 ≤ n_0)) && (decide (n_0 ≤ hi_2)))) (fun Q1 hN2 => ?_) ?_
  · simp only [List.take_succ_cons, List.take_zero]
    simp only [run_guard (g := 10), put_at, put_no, ev_t, ev_c, reduceIte, Nat.reduceEqDiff, List.map_cons, List.map_nil]
    refine guard_split (t := (decide (lo_1 ≤ n_0))) (fun hg3 => ?_) (fun hg3 => ?_)
    · simp only [hg3, run_guard (g := 10), guard_true, zf0, run_mv, zf2, run_bin, put1_some, xleq, run_pick, xpick_t, run_ops_nil, run_nil, put_at, put_no, ev_t, ev_c, reduceIte,
        Nat.reduceEqDiff, List.map_cons, List.map_nil]
      exact hN2 _ _ ⟨hS, by rw [andT hg3]; simp only [put_at, put_no, ev_t, ev_c, reduceIte, Nat.reduceEqDiff, List.map_cons, List.map_nil]⟩
    · simp only [hg3, run_guard (g := 10), guard_off, run_pick, put1_some, xpick_f, run_ops_nil, run_nil, put_at, put_no, ev_t, ev_c, reduceIte, Nat.reduceEqDiff, List.map_cons,
        List.map_nil]
      exact hN2 _ _ ⟨hS, by rw [andF hg3]; simp only [put_at, put_no, ev_t, ev_c, reduceIte, Nat.reduceEqDiff, List.map_cons, List.map_nil]⟩
  · rintro fr4 h6 ⟨hS7, f5⟩
    simp only [List.drop_succ_cons, List.drop_zero]
    simp only [f5, run_mv, run_ops_nil, run_ret, put_at, put_no, ev_t, ev_c, reduceIte, Nat.reduceEqDiff, List.map_cons, List.map_nil]
    have he := some_inj hF
    subst he
    simp only [end_ret1, put_at, put_no, ev_t, ev_c, reduceIte, Nat.reduceEqDiff, List.map_cons, List.map_nil]
    exact rfl
theorem spec_l15Call_x {W : Nat → Bool} {h : Heap} (hW : ∀ b,
    h.length ≤ b → W b = true) (x_0 : Call) (r : Bool) (hF : some (spec_l15Call x_0) = some r) : Ret E W 64 [.agg [.int .i64 x_0.Client, .int .i64 x_0.Object, .bool x_0.Write,
    .int .i64 x_0.Value, .int .i64 x_0.Begin, .int .i64 x_0.End]] h (fun v h' => cut h.length h' E.sz false 9 v = some (.bool r)) := by
  refine Ret.of (fn := x64) rfl (Run.of ?_)
  unfold spec_l15Call at hF
  have zf0 : argFr [.agg [.int .i64 x_0.Client, .int .i64 x_0.Object, .bool x_0.Write, .int .i64 x_0.Value, .int .i64 x_0.Begin,
      .int .i64 x_0.End]] 0 = .agg [.int .i64 x_0.Client, .int .i64 x_0.Object, .bool x_0.Write, .int .i64 x_0.Value, .int .i64 x_0.Begin, .int .i64 x_0.End] := rfl
  generalize argFr [.agg [.int .i64 x_0.Client, .int .i64 x_0.Object, .bool x_0.Write, .int .i64 x_0.Value, .int .i64 x_0.Begin, .int .i64 x_0.End]] = fr0 at zf0 ⊢
  have hS : Sep h h.length [] := Sep.nil h
  simp only [x64, run_seq, run_reg, run_box, zf0, put_at, put_no, ev_t, ev_c, reduceIte, Nat.reduceEqDiff, List.map_cons, List.map_nil]
  refine put2_boxC (cs := [.int .i64 x_0.Client, .int .i64 x_0.Object, .bool x_0.Write, .int .i64 x_0.Value, .int .i64 x_0.Begin,
      .int .i64 x_0.End]) hS rfl rfl rfl (fun b1 h2 hS3 => ?_)
  simp only [run_mv, run_ops_nil, put_at, put_no, ev_t, ev_c, reduceIte, Nat.reduceEqDiff, List.map_cons, List.map_nil]
  refine frz_stepC hS3 hW (by simp only [put_at, put_no, ev_t, ev_c, reduceIte, Nat.reduceEqDiff, List.map_cons, List.map_nil]) (fun h5 hS6 => ?_)
  simp only [run_frz_nil, x64_1, run_seq, run_reg, run_fa, put1_some, Nat.reduceAdd, Nat.zero_add, Nat.add_zero, xfa_ref, run_ld, put_at, put_no, ev_t, ev_c, reduceIte,
      Nat.reduceEqDiff, List.map_cons, List.map_nil]
  refine put1_eq (v := .int .i64 x_0.Client) rfl ?_
  simp only [run_call, put_at, put_no, ev_t, ev_c, reduceIte, Nat.reduceEqDiff, List.map_cons, List.map_nil]
  refine call1 rfl (mapM1 snap_int (mapM1 snap_int (mapM1 snap_int mapM0))) (spec_l1In_x (fun b hb => decide_eq_true hb) x_0.Client 0 3 _ rfl) ?_
  simp only [run_mv, put_at, put_no, ev_t, ev_c, reduceIte, Nat.reduceEqDiff, List.map_cons, List.map_nil]
  refine ops_j 4 (fun fr' h' => Sep h' h.length ([]) ∧ fr' 10 = .bool ((spec_l1In x_0.Client 0 3) && (spec_l1In x_0.Object 0 2)) ∧ fr' 1 = .ref [.int .i64 x_0.Client,
      .int .i64 x_0.Object, .bool x_0.Write, .int .i64 x_0.Value, .int .i64 x_0.Begin, .int .i64 x_0.End] 0) (fun Q7 hN8 => ?_) ?_
  · simp only [List.take_succ_cons, List.take_zero]
    simp only [run_guard (g := 6), put_at, put_no, ev_t, ev_c, reduceIte, Nat.reduceEqDiff, List.map_cons, List.map_nil]
    refine guard_split (t := (spec_l1In x_0.Client 0 3)) (fun hg9 => ?_) (fun hg9 => ?_)
    · simp only [hg9, run_guard (g := 6), guard_true, run_fa, put1_some, Nat.reduceAdd, Nat.zero_add, Nat.add_zero, xfa_ref, run_ld, put_at, put_no, ev_t, ev_c, reduceIte,
        Nat.reduceEqDiff, List.map_cons, List.map_nil]
      refine put1_eq (v := .int .i64 x_0.Object) rfl ?_
      simp only [hg9, run_guard (g := 6), guard_true, run_call, put_at, put_no, ev_t, ev_c, reduceIte, Nat.reduceEqDiff, List.map_cons, List.map_nil]
      refine call1 rfl (mapM1 snap_int (mapM1 snap_int (mapM1 snap_int mapM0))) (spec_l1In_x (fun b hb => decide_eq_true hb) x_0.Object 0 2 _ rfl) ?_
      simp only [hg9, run_pick, put1_some, xpick_t, run_ops_nil, run_nil, put_at, put_no, ev_t, ev_c, reduceIte, Nat.reduceEqDiff, List.map_cons, List.map_nil]
      exact hN8 _ _ ⟨hS6, by rw [andT hg9]; simp only [put_at, put_no, ev_t, ev_c, reduceIte, Nat.reduceEqDiff, List.map_cons, List.map_nil], by simp only [put_at, put_no, ev_t,
          ev_c, reduceIte, Nat.reduceEqDiff, List.map_cons, List.map_nil]⟩
    · simp only [hg9, run_guard (g := 6), guard_off, run_pick, put1_some, xpick_f, run_ops_nil, run_nil, put_at, put_no, ev_t, ev_c, reduceIte, Nat.reduceEqDiff, List.map_cons,
        List.map_nil]
      exact hN8 _ _ ⟨hS6, by rw [andF hg9]; simp only [put_at, put_no, ev_t, ev_c, reduceIte, Nat.reduceEqDiff, List.map_cons, List.map_nil], by simp only [put_at, put_no, ev_t,
          ev_c, reduceIte, Nat.reduceEqDiff, List.map_cons, List.map_nil]⟩
  · rintro fr10 h13 ⟨hS14, f11, f12⟩
    simp only [List.drop_succ_cons, List.drop_zero]
    simp only [f11, run_mv, put_at, put_no, ev_t, ev_c, reduceIte, Nat.reduceEqDiff, List.map_cons, List.map_nil]
    refine ops_j 4 (fun fr' h' => Sep h' h.length ([]) ∧ fr' 15 = .bool (((spec_l1In x_0.Client 0 3) && (spec_l1In x_0.Object 0 2)) &&
        (spec_l1In x_0.Value 0 9)) ∧ fr' 1 = .ref [.int .i64 x_0.Client, .int .i64 x_0.Object, .bool x_0.Write, .int .i64 x_0.Value, .int .i64 x_0.Begin,
        .int .i64 x_0.End] 0) (fun Q15 hN16 => ?_) ?_
    · simp only [List.take_succ_cons, List.take_zero]
      simp only [run_guard (g := 11), put_at, put_no, ev_t, ev_c, reduceIte, Nat.reduceEqDiff, List.map_cons, List.map_nil]
      refine guard_split (t := ((spec_l1In x_0.Client 0 3) && (spec_l1In x_0.Object 0 2))) (fun hg17 => ?_) (fun hg17 => ?_)
      · simp only [hg17, run_guard (g := 11), guard_true, f12, run_fa, put1_some, Nat.reduceAdd, Nat.zero_add, Nat.add_zero, xfa_ref, run_ld, put_at, put_no, ev_t, ev_c,
          reduceIte, Nat.reduceEqDiff, List.map_cons, List.map_nil]
        refine put1_eq (v := .int .i64 x_0.Value) rfl ?_
        simp only [hg17, run_guard (g := 11), guard_true, run_call, put_at, put_no, ev_t, ev_c, reduceIte, Nat.reduceEqDiff, List.map_cons, List.map_nil]
        refine call1 rfl (mapM1 snap_int (mapM1 snap_int (mapM1 snap_int mapM0))) (spec_l1In_x (fun b hb => decide_eq_true hb) x_0.Value 0 9 _ rfl) ?_
        simp only [hg17, run_pick, put1_some, xpick_t, run_ops_nil, run_nil, put_at, put_no, ev_t, ev_c, reduceIte, Nat.reduceEqDiff, List.map_cons, List.map_nil]
        exact hN16 _ _ ⟨hS14, by rw [andT hg17]; simp only [put_at, put_no, ev_t, ev_c, reduceIte, Nat.reduceEqDiff, List.map_cons, List.map_nil], by simp only [f12, put_at,
            put_no, ev_t, ev_c, reduceIte, Nat.reduceEqDiff, List.map_cons, List.map_nil]⟩
      · simp only [hg17, run_guard (g := 11), guard_off, run_pick, put1_some, xpick_f, run_ops_nil, run_nil, put_at, put_no, ev_t, ev_c, reduceIte, Nat.reduceEqDiff,
          List.map_cons, List.map_nil]
        exact hN16 _ _ ⟨hS14, by rw [andF hg17]; simp only [put_at, put_no, ev_t, ev_c, reduceIte, Nat.reduceEqDiff, List.map_cons, List.map_nil], by simp only [f12, put_at,
            put_no, ev_t, ev_c, reduceIte, Nat.reduceEqDiff, List.map_cons, List.map_nil]⟩
    · rintro fr18 h21 ⟨hS22, f19, f20⟩
      simp only [List.drop_succ_cons, List.drop_zero]
      simp only [f19, run_mv, put_at, put_no, ev_t, ev_c, reduceIte, Nat.reduceEqDiff, List.map_cons, List.map_nil]
      refine ops_j 9 (fun fr' h' => Sep h' h.length ([]) ∧ fr' 25 = .bool ((((spec_l1In x_0.Client 0 3) && (spec_l1In x_0.Object 0 2)) && (spec_l1In x_0.Value 0 9)) &&
          ((!x_0.Write) || (decide ((0 : Int) < x_0.Value)))) ∧ fr' 1 = .ref [.int .i64 x_0.Client, .int .i64 x_0.Object, .bool x_0.Write, .int .i64 x_0.Value,
          .int .i64 x_0.Begin, .int .i64 x_0.End] 0) (fun Q23 hN24 => ?_) ?_
      · simp only [List.take_succ_cons, List.take_zero]
        simp only [run_guard (g := 16), put_at, put_no, ev_t, ev_c, reduceIte, Nat.reduceEqDiff, List.map_cons, List.map_nil]
        refine guard_split (t := (((spec_l1In x_0.Client 0 3) && (spec_l1In x_0.Object 0 2)) && (spec_l1In x_0.Value 0 9))) (fun hg25 => ?_) (fun hg25 => ?_)
        · simp only [hg25, run_guard (g := 16), guard_true, f20, run_fa, put1_some, Nat.reduceAdd, Nat.zero_add, Nat.add_zero, xfa_ref, run_ld, put_at, put_no, ev_t, ev_c,
            reduceIte, Nat.reduceEqDiff, List.map_cons, List.map_nil]
          refine put1_eq (v := .bool x_0.Write) rfl ?_
          simp only [hg25, run_guard (g := 16), guard_true, run_un, put1_some, xnot, run_mv, put_at, put_no, ev_t, ev_c, reduceIte, Nat.reduceEqDiff, List.map_cons, List.map_nil]
          refine ops_j 4 (fun fr' h' => Sep h' h.length ([]) ∧ fr' 24 = .bool ((!x_0.Write) || (decide ((0 : Int) < x_0.Value))) ∧ fr' 1 = .ref [.int .i64 x_0.Client,
              .int .i64 x_0.Object, .bool x_0.Write, .int .i64 x_0.Value, .int .i64 x_0.Begin,
              .int .i64 x_0.End] 0 ∧ fr' 16 = .bool (((spec_l1In x_0.Client 0 3) && (spec_l1In x_0.Object 0 2)) && (spec_l1In x_0.Value 0 9))) (fun Q26 hN27 => ?_) ?_
          · simp only [List.take_succ_cons, List.take_zero]
            simp only [run_guard (g := 20), put_at, put_no, ev_t, ev_c, reduceIte, Nat.reduceEqDiff, List.map_cons, List.map_nil]
            refine guard_split (t := (!x_0.Write)) (fun hg28 => ?_) (fun hg28 => ?_)
            · simp only [hg28, run_guard (g := 20), guard_off', hg25, run_guard (g := 16), guard_true, run_pick, put1_some, xpick_t, run_ops_nil, run_nil, put_at, put_no, ev_t,
                ev_c, reduceIte, Nat.reduceEqDiff, List.map_cons, List.map_nil]
              exact hN27 _ _ ⟨hS22, by rw [orT hg28]; simp only [put_at, put_no, ev_t, ev_c, reduceIte, Nat.reduceEqDiff, List.map_cons, List.map_nil], by simp only [f20, put_at,
                  put_no, ev_t, ev_c, reduceIte, Nat.reduceEqDiff, List.map_cons, List.map_nil], by simp only [hg25, put_at, put_no, ev_t, ev_c, reduceIte, Nat.reduceEqDiff,
                  List.map_cons, List.map_nil]⟩
            · simp only [hg28, run_guard (g := 20), guard_false, f20, run_fa, put1_some, Nat.reduceAdd, Nat.zero_add, Nat.add_zero, xfa_ref, run_ld, put_at, put_no, ev_t, ev_c,
                reduceIte, Nat.reduceEqDiff, List.map_cons, List.map_nil]
              refine put1_eq (v := .int .i64 x_0.Value) rfl ?_
              simp only [hg28, run_guard (g := 20), guard_false, run_bin, put1_some, xgtr, hg25, run_guard (g := 16), guard_true, run_pick, xpick_f, run_ops_nil, run_nil, put_at,
                  put_no, ev_t, ev_c, reduceIte, Nat.reduceEqDiff, List.map_cons, List.map_nil]
              exact hN27 _ _ ⟨hS22, by rw [orF hg28]; simp only [put_at, put_no, ev_t, ev_c, reduceIte, Nat.reduceEqDiff, List.map_cons, List.map_nil], by simp only [f20, put_at,
                  put_no, ev_t, ev_c, reduceIte, Nat.reduceEqDiff, List.map_cons, List.map_nil], by simp only [hg25, put_at, put_no, ev_t, ev_c, reduceIte, Nat.reduceEqDiff,
                  List.map_cons, List.map_nil]⟩
          · rintro fr29 h33 ⟨hS34, f30, f31, f32⟩
            simp only [List.drop_succ_cons, List.drop_zero]
            simp only [f32, hg25, run_pick, put1_some, xpick_t, f30, run_ops_nil, run_nil, put_at, put_no, ev_t, ev_c, reduceIte, Nat.reduceEqDiff, List.map_cons, List.map_nil]
            exact hN24 _ _ ⟨hS34, by rw [andT hg25]; simp only [put_at, put_no, ev_t, ev_c, reduceIte, Nat.reduceEqDiff, List.map_cons, List.map_nil], by simp only [f31, put_at,
                put_no, ev_t, ev_c, reduceIte, Nat.reduceEqDiff, List.map_cons, List.map_nil]⟩
        · simp only [hg25, run_guard (g := 16), guard_off, run_guard (g := 20), guard_tup, run_pick, put1_some, xpick_f, run_ops_nil, run_nil, put_at, put_no, ev_t, ev_c,
            reduceIte, Nat.reduceEqDiff, List.map_cons, List.map_nil]
          exact hN24 _ _ ⟨hS22, by rw [andF hg25]; simp only [put_at, put_no, ev_t, ev_c, reduceIte, Nat.reduceEqDiff, List.map_cons, List.map_nil], by simp only [f20, put_at,
              put_no, ev_t, ev_c, reduceIte, Nat.reduceEqDiff, List.map_cons, List.map_nil]⟩
      · rintro fr35 h38 ⟨hS39, f36, f37⟩
        simp only [List.drop_succ_cons, List.drop_zero]
        simp only [f36, run_mv, put_at, put_no, ev_t, ev_c, reduceIte, Nat.reduceEqDiff, List.map_cons, List.map_nil]
        refine ops_j 4 (fun fr' h' => Sep h' h.length ([]) ∧ fr' 30 = .bool (((((spec_l1In x_0.Client 0 3) && (spec_l1In x_0.Object 0 2)) && (spec_l1In x_0.Value 0 9)) &&
            ((!x_0.Write) || (decide ((0 : Int) < x_0.Value)))) && (spec_l1In x_0.Begin 0 100)) ∧ fr' 1 = .ref [.int .i64 x_0.Client, .int .i64 x_0.Object, .bool x_0.Write,
            .int .i64 x_0.Value, .int .i64 x_0.Begin, .int .i64 x_0.End] 0) (fun Q40 hN41 => ?_) ?_
        · simp only [List.take_succ_cons, List.take_zero]
          simp only [run_guard (g := 26), put_at, put_no, ev_t, ev_c, reduceIte, Nat.reduceEqDiff, List.map_cons, List.map_nil]
          refine guard_split (t := ((((spec_l1In x_0.Client 0 3) && (spec_l1In x_0.Object 0 2)) && (spec_l1In x_0.Value 0 9)) && ((!x_0.Write) || (decide
              ((0 : Int) < x_0.Value))))) (fun hg42 => ?_) (fun hg42 => ?_)
          · simp only [hg42, run_guard (g := 26), guard_true, f37, run_fa, put1_some, Nat.reduceAdd, Nat.zero_add, Nat.add_zero, xfa_ref, run_ld, put_at, put_no, ev_t, ev_c,
              reduceIte, Nat.reduceEqDiff, List.map_cons, List.map_nil]
            refine put1_eq (v := .int .i64 x_0.Begin) rfl ?_
            simp only [hg42, run_guard (g := 26), guard_true, run_call, put_at, put_no, ev_t, ev_c, reduceIte, Nat.reduceEqDiff, List.map_cons, List.map_nil]
            refine call1 rfl (mapM1 snap_int (mapM1 snap_int (mapM1 snap_int mapM0))) (spec_l1In_x (fun b hb => decide_eq_true hb) x_0.Begin 0 100 _ rfl) ?_
            simp only [hg42, run_pick, put1_some, xpick_t, run_ops_nil, run_nil, put_at, put_no, ev_t, ev_c, reduceIte, Nat.reduceEqDiff, List.map_cons, List.map_nil]
            exact hN41 _ _ ⟨hS39, by rw [andT hg42]; simp only [put_at, put_no, ev_t, ev_c, reduceIte, Nat.reduceEqDiff, List.map_cons, List.map_nil], by simp only [f37, put_at,
                put_no, ev_t, ev_c, reduceIte, Nat.reduceEqDiff, List.map_cons, List.map_nil]⟩
          · simp only [hg42, run_guard (g := 26), guard_off, run_pick, put1_some, xpick_f, run_ops_nil, run_nil, put_at, put_no, ev_t, ev_c, reduceIte, Nat.reduceEqDiff,
              List.map_cons, List.map_nil]
            exact hN41 _ _ ⟨hS39, by rw [andF hg42]; simp only [put_at, put_no, ev_t, ev_c, reduceIte, Nat.reduceEqDiff, List.map_cons, List.map_nil], by simp only [f37, put_at,
                put_no, ev_t, ev_c, reduceIte, Nat.reduceEqDiff, List.map_cons, List.map_nil]⟩
        · rintro fr43 h46 ⟨hS47, f44, f45⟩
          simp only [List.drop_succ_cons, List.drop_zero]
          simp only [f44, run_mv, put_at, put_no, ev_t, ev_c, reduceIte, Nat.reduceEqDiff, List.map_cons, List.map_nil]
          refine ops_j 4 (fun fr' h' => Sep h' h.length ([]) ∧ fr' 35 = .bool ((((((spec_l1In x_0.Client 0 3) && (spec_l1In x_0.Object 0 2)) && (spec_l1In x_0.Value 0 9)) &&
              ((!x_0.Write) || (decide ((0 : Int) < x_0.Value)))) && (spec_l1In x_0.Begin 0 100)) && (spec_l1In x_0.End 0 100)) ∧ fr' 1 = .ref [.int .i64 x_0.Client,
              .int .i64 x_0.Object, .bool x_0.Write, .int .i64 x_0.Value, .int .i64 x_0.Begin, .int .i64 x_0.End] 0) (fun Q48 hN49 => ?_) ?_
          · simp only [List.take_succ_cons, List.take_zero]
            simp only [run_guard (g := 31), put_at, put_no, ev_t, ev_c, reduceIte, Nat.reduceEqDiff, List.map_cons, List.map_nil]
            refine guard_split (t := (((((spec_l1In x_0.Client 0 3) && (spec_l1In x_0.Object 0 2)) && (spec_l1In x_0.Value 0 9)) && ((!x_0.Write) || (decide
                ((0 : Int) < x_0.Value)))) && (spec_l1In x_0.Begin 0 100))) (fun hg50 => ?_) (fun hg50 => ?_)
            · simp only [hg50, run_guard (g := 31), guard_true, f45, run_fa, put1_some, Nat.reduceAdd, Nat.zero_add, Nat.add_zero, xfa_ref, run_ld, put_at, put_no, ev_t, ev_c,
                reduceIte, Nat.reduceEqDiff, List.map_cons, List.map_nil]
              refine put1_eq (v := .int .i64 x_0.End) rfl ?_
              simp only [hg50, run_guard (g := 31), guard_true, run_call, put_at, put_no, ev_t, ev_c, reduceIte, Nat.reduceEqDiff, List.map_cons, List.map_nil]
              refine call1 rfl (mapM1 snap_int (mapM1 snap_int (mapM1 snap_int mapM0))) (spec_l1In_x (fun b hb => decide_eq_true hb) x_0.End 0 100 _ rfl) ?_
              simp only [hg50, run_pick, put1_some, xpick_t, run_ops_nil, run_nil, put_at, put_no, ev_t, ev_c, reduceIte, Nat.reduceEqDiff, List.map_cons, List.map_nil]
              exact hN49 _ _ ⟨hS47, by rw [andT hg50]; simp only [put_at, put_no, ev_t, ev_c, reduceIte, Nat.reduceEqDiff, List.map_cons, List.map_nil], by simp only [f45, put_at,
                  put_no, ev_t, ev_c, reduceIte, Nat.reduceEqDiff, List.map_cons, List.map_nil]⟩
            · simp only [hg50, run_guard (g := 31), guard_off, run_pick, put1_some, xpick_f, run_ops_nil, run_nil, put_at, put_no, ev_t, ev_c, reduceIte, Nat.reduceEqDiff,
                List.map_cons, List.map_nil]
              exact hN49 _ _ ⟨hS47, by rw [andF hg50]; simp only [put_at, put_no, ev_t, ev_c, reduceIte, Nat.reduceEqDiff, List.map_cons, List.map_nil], by simp only [f45, put_at,
                  put_no, ev_t, ev_c, reduceIte, Nat.reduceEqDiff, List.map_cons, List.map_nil]⟩
          · rintro fr51 h54 ⟨hS55, f52, f53⟩
            simp only [List.drop_succ_cons, List.drop_zero]
            simp only [f52, run_mv, put_at, put_no, ev_t, ev_c, reduceIte, Nat.reduceEqDiff, List.map_cons, List.map_nil]
            refine ops_j 6 (fun fr' h' => Sep h' h.length ([]) ∧ fr' 42 = .bool (((((((spec_l1In x_0.Client 0 3) && (spec_l1In x_0.Object 0 2)) && (spec_l1In x_0.Value 0 9)) &&
                ((!x_0.Write) || (decide ((0 : Int) < x_0.Value)))) && (spec_l1In x_0.Begin 0 100)) && (spec_l1In x_0.End 0 100)) && (decide (x_0.Begin < x_0.End))))
                (fun Q56 hN57 => ?_) ?_
            · simp only [List.take_succ_cons, List.take_zero]
              simp only [run_guard (g := 36), put_at, put_no, ev_t, ev_c, reduceIte, Nat.reduceEqDiff, List.map_cons, List.map_nil]
              refine guard_split (t := ((((((spec_l1In x_0.Client 0 3) && (spec_l1In x_0.Object 0 2)) && (spec_l1In x_0.Value 0 9)) && ((!x_0.Write) || (decide
                  ((0 : Int) < x_0.Value)))) && (spec_l1In x_0.Begin 0 100)) && (spec_l1In x_0.End 0 100))) (fun hg58 => ?_) (fun hg58 => ?_)
              · simp only [hg58, run_guard (g := 36), guard_true, f53, run_fa, put1_some, Nat.reduceAdd, Nat.zero_add, Nat.add_zero, xfa_ref, run_ld, put_at, put_no, ev_t, ev_c,
                  reduceIte, Nat.reduceEqDiff, List.map_cons, List.map_nil]
                refine put1_eq (v := .int .i64 x_0.Begin) rfl ?_
                simp only [hg58, run_guard (g := 36), guard_true, f53, run_fa, put1_some, Nat.reduceAdd, Nat.zero_add, Nat.add_zero, xfa_ref, run_ld, put_at, put_no, ev_t, ev_c,
                    reduceIte, Nat.reduceEqDiff, List.map_cons, List.map_nil]
                refine put1_eq (v := .int .i64 x_0.End) rfl ?_
                simp only [hg58, run_guard (g := 36), guard_true, run_bin, put1_some, xlss, run_pick, xpick_t, run_ops_nil, run_nil, put_at, put_no, ev_t, ev_c, reduceIte,
                    Nat.reduceEqDiff, List.map_cons, List.map_nil]
                exact hN57 _ _ ⟨hS55, by rw [andT hg58]; simp only [put_at, put_no, ev_t, ev_c, reduceIte, Nat.reduceEqDiff, List.map_cons, List.map_nil]⟩
              · simp only [hg58, run_guard (g := 36), guard_off, run_pick, put1_some, xpick_f, run_ops_nil, run_nil, put_at, put_no, ev_t, ev_c, reduceIte, Nat.reduceEqDiff,
                  List.map_cons, List.map_nil]
                exact hN57 _ _ ⟨hS55, by rw [andF hg58]; simp only [put_at, put_no, ev_t, ev_c, reduceIte, Nat.reduceEqDiff, List.map_cons, List.map_nil]⟩
            · rintro fr59 h61 ⟨hS62, f60⟩
              simp only [List.drop_succ_cons, List.drop_zero]
              simp only [f60, run_mv, run_ops_nil, run_ret, put_at, put_no, ev_t, ev_c, reduceIte, Nat.reduceEqDiff, List.map_cons, List.map_nil]
              have he := some_inj hF
              subst he
              simp only [end_ret1, put_at, put_no, ev_t, ev_c, reduceIte, Nat.reduceEqDiff, List.map_cons, List.map_nil]
              exact rfl
theorem spec_GoodCalls_x {W : Nat → Bool} {h : Heap} (hW : ∀ b,
    h.length ≤ b → W b = true) (l_0 : List Call) (r : Bool) (hF : spec_GoodCalls l_0 = some r) : Ret E W 40 [lst Call.cells l_0] h
    (fun v h' => cut h.length h' E.sz false 9 v = some (.bool r)) := by
  refine Ret.of (fn := x40) rfl (Run.of ?_)
  unfold spec_GoodCalls at hF
  have zf0 : argFr [lst Call.cells l_0] 0 = lst Call.cells l_0 := rfl
  generalize argFr [lst Call.cells l_0] = fr0 at zf0 ⊢
  have hS : Sep h h.length [] := Sep.nil h
  simp only [x40, run_seq, run_reg, run_mv, run_ops_nil, x40_11, zf0, run_len, put1_some, xlen_lst, put_at, put_no, ev_t, ev_c, reduceIte, Nat.reduceEqDiff, List.map_cons,
      List.map_nil]
  obtain ⟨oc3, hX5, hk6⟩ := jn_some hF
  simp only [x40_9]
  refine rangeL_j (σ := Unit) l_0 (fun i1 x2 _ => spec_GoodCalls_b2 l_0 i1 x2 ) (fun s fr' h' => fr' 0 = lst Call.cells l_0 ∧ fr' 7 = lst Call.cells l_0 ∧ Sep h' h.length
      ([])) hX5 ⟨by simp only [zf0, put_at, put_no, ev_t, ev_c, reduceIte, Nat.reduceEqDiff, List.map_cons, List.map_nil], by simp only [put_at, put_no, ev_t, ev_c, reduceIte,
      Nat.reduceEqDiff, List.map_cons, List.map_nil], hS⟩ (by simp only [put_at, put_no, ev_t, ev_c, reduceIte, Nat.reduceEqDiff, List.map_cons,
      List.map_nil]) (by simp only [put_at, put_no, ev_t, ev_c, reduceIte, Nat.reduceEqDiff, List.map_cons,
      List.map_nil]) (fun _ _ _ h => h) rfl rfl (fun _ _ _ _ h => h) (fun _ _ _ _ h => h) (fun _ _ _ _ h => h) (by decide) ?_ ?_
  · rintro i1 x2 _ fr15 h16 hx20 ⟨f18, f19, hS17⟩ f21 f22 oc4 hF7 hr8 Q9 hN10 hB14 hK11 hR12 hE13
    unfold spec_GoodCalls_b2 at hF7
    simp only [x40_7, run_seq, run_reg, f21, run_mv, f19, run_ia, put_at, put_no, ev_t, ev_c, reduceIte, Nat.reduceEqDiff, List.map_cons, List.map_nil]
    refine put1_eq (v := .ref (Call.cells x2) 0) (xia_lstN hx20 rfl) ?_
    simp only [run_ld, put_at, put_no, ev_t, ev_c, reduceIte, Nat.reduceEqDiff, List.map_cons, List.map_nil]
    refine put1_eq (v := .agg [.int .i64 x2.Client, .int .i64 x2.Object, .bool x2.Write, .int .i64 x2.Value, .int .i64 x2.Begin, .int .i64 x2.End]) rfl ?_
    simp only [run_new, put_at, put_no, ev_t, ev_c, reduceIte, Nat.reduceEqDiff, List.map_cons, List.map_nil]
    refine put2_newC hS17 (fun b23 h24 hS25 => ?_)
    simp only [run_mv, run_st, put_at, put_no, ev_t, ev_c, reduceIte, Nat.reduceEqDiff, List.map_cons, List.map_nil]
    refine put2_stC (cs' := [.int .i64 x2.Client, .int .i64 x2.Object, .bool x2.Write, .int .i64 x2.Value, .int .i64 x2.Begin,
        .int .i64 x2.End]) hS25 hW rfl rfl (Nat.le_of_ble_eq_true rfl) rfl (fun h27 hS28 => ?_)
    simp only [put_no, run_ops_nil, put_at, ev_t, ev_c, reduceIte, Nat.reduceEqDiff, List.map_cons, List.map_nil]
    refine frz_stepC hS28 hW (by simp only [put_at, put_no, ev_t, ev_c, reduceIte, Nat.reduceEqDiff, List.map_cons, List.map_nil]) (fun h29 hS30 => ?_)
    simp only [run_frz_nil, x40_6, run_seq, run_reg, run_ld, put_at, put_no, ev_t, ev_c, reduceIte, Nat.reduceEqDiff, List.map_cons, List.map_nil]
    refine put1_eq (v := .agg [.int .i64 x2.Client, .int .i64 x2.Object, .bool x2.Write, .int .i64 x2.Value, .int .i64 x2.Begin, .int .i64 x2.End]) rfl ?_
    simp only [run_call, put_at, put_no, ev_t, ev_c, reduceIte, Nat.reduceEqDiff, List.map_cons, List.map_nil]
    refine call1 rfl (mapM1 (snap_agg (mapM1 snap_int (mapM1 snap_int (mapM1 snap_bool (mapM1 snap_int (mapM1 snap_int (mapM1 snap_int mapM0))))))) mapM0) (spec_l15Call_x
        (fun b hb => decide_eq_true hb) x2 _ rfl) ?_
    simp only [run_un, put1_some, xnot, run_ops_nil, run_cond, put_at, put_no, ev_t, ev_c, reduceIte, Nat.reduceEqDiff, List.map_cons, List.map_nil]
    refine cond_split (t := (!(spec_l15Call x2))) (fun hc31 => ?_) (fun hc31 => ?_)
    · rw [iteT hc31] at hF7
      simp only [run_seq, run_reg, run_mv, run_ops_nil, run_ret, put_at, put_no, ev_t, ev_c, reduceIte, Nat.reduceEqDiff, List.map_cons, List.map_nil]
      have e32 := some_inj hF7
      subst e32
      have ho33 := hr8 _ rfl
      have hk34 := hk6
      rw [ho33] at hk34
      dsimp only [jnO] at hk34
      apply hR12
      have he := some_inj hk34
      subst he
      simp only [end_ret1, put_at, put_no, ev_t, ev_c, reduceIte, Nat.reduceEqDiff, List.map_cons, List.map_nil]
      exact rfl
    · rw [iteF hc31] at hF7
      obtain ⟨l35, hx36, hF37⟩ := bind_some' hF7
      simp only [run_skip, x40_5, run_seq, run_reg, f18, run_mv, run_slc, Option.map_some, Option.map_none, put_at, put_no, ev_t, ev_c, reduceIte, Nat.reduceEqDiff, List.map_cons,
          List.map_nil]
      refine put1_eq (pslc_lst_hi hx36 (fun _ => rfl)) ?_
      simp only [run_len, put1_some, xlen_lst, run_mv, run_ops_nil, put_at, put_no, ev_t, ev_c, reduceIte, Nat.reduceEqDiff, List.map_cons, List.map_nil]
      obtain ⟨oc40, hX42, hk43⟩ := jn_some hF37
      simp only [x40_4]
      refine rangeL_j (σ := Unit) l35 (fun i38 x39 _ => spec_GoodCalls_b1 x2 i38 x39 ) (fun s fr' h' => fr' 0 = lst Call.cells l_0 ∧ fr' 4 = .ref [.int .i64 x2.Client,
          .int .i64 x2.Object, .bool x2.Write, .int .i64 x2.Value, .int .i64 x2.Begin,
          .int .i64 x2.End] 0 ∧ fr' 7 = lst Call.cells l_0 ∧ fr' 8 = .int .i64 (List.length l_0 : Int) ∧ fr' 9 = .int .i64
          (i1 : Int) ∧ fr' 19 = lst Call.cells l35 ∧ Sep h' h.length ([])) hX42 ⟨by simp only [f18, put_at, put_no, ev_t, ev_c, reduceIte, Nat.reduceEqDiff, List.map_cons,
          List.map_nil], by simp only [put_at, put_no, ev_t, ev_c, reduceIte, Nat.reduceEqDiff, List.map_cons, List.map_nil], by simp only [f19, put_at, put_no, ev_t, ev_c,
          reduceIte, Nat.reduceEqDiff, List.map_cons, List.map_nil], by simp only [f22, put_at, put_no, ev_t, ev_c, reduceIte, Nat.reduceEqDiff, List.map_cons, List.map_nil],
          by simp only [f21, put_at, put_no, ev_t, ev_c, reduceIte, Nat.reduceEqDiff, List.map_cons, List.map_nil], by simp only [put_at, put_no, ev_t, ev_c, reduceIte,
          Nat.reduceEqDiff, List.map_cons, List.map_nil], hS30⟩ (by simp only [put_at, put_no, ev_t, ev_c, reduceIte, Nat.reduceEqDiff, List.map_cons,
          List.map_nil]) (by simp only [put_at, put_no, ev_t, ev_c, reduceIte, Nat.reduceEqDiff, List.map_cons,
          List.map_nil]) (fun _ _ _ h => h) rfl rfl (fun _ _ _ _ h => h) (fun _ _ _ _ h => h) (fun _ _ _ _ h => h) (by decide) ?_ ?_
      · rintro i38 x39 _ fr52 h53 hx61 ⟨f55, f56, f57, f58, f59, f60, hS54⟩ f62 f63 oc41 hF44 hr45 Q46 hN47 hB51 hK48 hR49 hE50
        unfold spec_GoodCalls_b1 at hF44
        simp only [x40_2, run_seq, run_reg, f60, f62, run_ia, put_at, put_no, ev_t, ev_c, reduceIte, Nat.reduceEqDiff, List.map_cons, List.map_nil]
        refine put1_eq (v := .ref (Call.cells x39) 0) (xia_lstN hx61 rfl) ?_
        simp only [run_ld, put_at, put_no, ev_t, ev_c, reduceIte, Nat.reduceEqDiff, List.map_cons, List.map_nil]
        refine put1_eq (v := .agg [.int .i64 x39.Client, .int .i64 x39.Object, .bool x39.Write, .int .i64 x39.Value, .int .i64 x39.Begin, .int .i64 x39.End]) rfl ?_
        simp only [run_new, put_at, put_no, ev_t, ev_c, reduceIte, Nat.reduceEqDiff, List.map_cons, List.map_nil]
        refine put2_newC hS54 (fun b64 h65 hS66 => ?_)
        simp only [run_st, put_at, put_no, ev_t, ev_c, reduceIte, Nat.reduceEqDiff, List.map_cons, List.map_nil]
        refine put2_stC (cs' := [.int .i64 x39.Client, .int .i64 x39.Object, .bool x39.Write, .int .i64 x39.Value, .int .i64 x39.Begin,
            .int .i64 x39.End]) hS66 hW rfl rfl (Nat.le_of_ble_eq_true rfl) rfl (fun h68 hS69 => ?_)
        simp only [put_no, run_ops_nil, put_at, ev_t, ev_c, reduceIte, Nat.reduceEqDiff, List.map_cons, List.map_nil]
        refine frz_stepC hS69 hW (by simp only [put_at, put_no, ev_t, ev_c, reduceIte, Nat.reduceEqDiff, List.map_cons, List.map_nil]) (fun h70 hS71 => ?_)
        simp only [run_frz_nil, x40_1, run_seq, run_reg, run_fa, put1_some, Nat.reduceAdd, Nat.zero_add, Nat.add_zero, xfa_ref, run_ld, put_at, put_no, ev_t, ev_c, reduceIte,
            Nat.reduceEqDiff, List.map_cons, List.map_nil]
        refine put1_eq (v := .int .i64 x39.Client) rfl ?_
        simp only [f56, run_fa, put1_some, Nat.reduceAdd, Nat.zero_add, Nat.add_zero, xfa_ref, run_ld, put_at, put_no, ev_t, ev_c, reduceIte, Nat.reduceEqDiff, List.map_cons,
            List.map_nil]
        refine put1_eq (v := .int .i64 x2.Client) rfl ?_
        simp only [run_bin, put1_some, xeql, run_mv, put_at, put_no, ev_t, ev_c, reduceIte, Nat.reduceEqDiff, List.map_cons, List.map_nil]
        refine ops_j 6 (fun fr' h' => Sep h' h.length ([]) ∧ fr' 36 = .bool ((decide (x39.Client = x2.Client)) && (decide
            (x2.Begin < x39.End))) ∧ fr' 0 = lst Call.cells l_0 ∧ fr' 4 = .ref [.int .i64 x2.Client, .int .i64 x2.Object, .bool x2.Write, .int .i64 x2.Value, .int .i64 x2.Begin,
            .int .i64 x2.End] 0 ∧ fr' 6 = .ref [.int .i64 x39.Client, .int .i64 x39.Object, .bool x39.Write, .int .i64 x39.Value, .int .i64 x39.Begin,
            .int .i64 x39.End] 0 ∧ fr' 7 = lst Call.cells l_0 ∧ fr' 8 = .int .i64 (List.length l_0 : Int) ∧ fr' 9 = .int .i64
            (i1 : Int) ∧ fr' 19 = lst Call.cells l35 ∧ fr' 20 = .int .i64 (List.length l35 : Int) ∧ fr' 21 = .int .i64 (i38 : Int)) (fun Q72 hN73 => ?_) ?_
        · simp only [List.take_succ_cons, List.take_zero]
          simp only [run_guard (g := 30), put_at, put_no, ev_t, ev_c, reduceIte, Nat.reduceEqDiff, List.map_cons, List.map_nil]
          refine guard_split (t := (decide (x39.Client = x2.Client))) (fun hg74 => ?_) (fun hg74 => ?_)
          · simp only [hg74, run_guard (g := 30), guard_true, run_fa, put1_some, Nat.reduceAdd, Nat.zero_add, Nat.add_zero, xfa_ref, run_ld, put_at, put_no, ev_t, ev_c, reduceIte,
              Nat.reduceEqDiff, List.map_cons, List.map_nil]
            refine put1_eq (v := .int .i64 x39.End) rfl ?_
            simp only [hg74, run_guard (g := 30), guard_true, f56, run_fa, put1_some, Nat.reduceAdd, Nat.zero_add, Nat.add_zero, xfa_ref, run_ld, put_at, put_no, ev_t, ev_c,
                reduceIte, Nat.reduceEqDiff, List.map_cons, List.map_nil]
            refine put1_eq (v := .int .i64 x2.Begin) rfl ?_
            simp only [hg74, run_guard (g := 30), guard_true, run_bin, put1_some, xgtr, run_pick, xpick_t, run_ops_nil, run_nil, put_at, put_no, ev_t, ev_c, reduceIte,
                Nat.reduceEqDiff, List.map_cons, List.map_nil]
            exact hN73 _ _ ⟨hS71, by rw [andT hg74]; simp only [put_at, put_no, ev_t, ev_c, reduceIte, Nat.reduceEqDiff, List.map_cons, List.map_nil], by simp only [f55, put_at,
                put_no, ev_t, ev_c, reduceIte, Nat.reduceEqDiff, List.map_cons, List.map_nil], by simp only [f56, put_at, put_no, ev_t, ev_c, reduceIte, Nat.reduceEqDiff,
                List.map_cons, List.map_nil], by simp only [put_at, put_no, ev_t, ev_c, reduceIte, Nat.reduceEqDiff, List.map_cons, List.map_nil], by simp only [f57, put_at,
                put_no, ev_t, ev_c, reduceIte, Nat.reduceEqDiff, List.map_cons, List.map_nil], by simp only [f58, put_at, put_no, ev_t, ev_c, reduceIte, Nat.reduceEqDiff,
                List.map_cons, List.map_nil], by simp only [f59, put_at, put_no, ev_t, ev_c, reduceIte, Nat.reduceEqDiff, List.map_cons, List.map_nil], by simp only [f60, put_at,
                put_no, ev_t, ev_c, reduceIte, Nat.reduceEqDiff, List.map_cons, List.map_nil], by simp only [f63, put_at, put_no, ev_t, ev_c, reduceIte, Nat.reduceEqDiff,
                List.map_cons, List.map_nil], by simp only [f62, put_at, put_no, ev_t, ev_c, reduceIte, Nat.reduceEqDiff, List.map_cons, List.map_nil]⟩
          · simp only [hg74, run_guard (g := 30), guard_off, run_pick, put1_some, xpick_f, run_ops_nil, run_nil, put_at, put_no, ev_t, ev_c, reduceIte, Nat.reduceEqDiff,
              List.map_cons, List.map_nil]
            exact hN73 _ _ ⟨hS71, by rw [andF hg74]; simp only [put_at, put_no, ev_t, ev_c, reduceIte, Nat.reduceEqDiff, List.map_cons, List.map_nil], by simp only [f55, put_at,
                put_no, ev_t, ev_c, reduceIte, Nat.reduceEqDiff, List.map_cons, List.map_nil], by simp only [f56, put_at, put_no, ev_t, ev_c, reduceIte, Nat.reduceEqDiff,
                List.map_cons, List.map_nil], by simp only [put_at, put_no, ev_t, ev_c, reduceIte, Nat.reduceEqDiff, List.map_cons, List.map_nil], by simp only [f57, put_at,
                put_no, ev_t, ev_c, reduceIte, Nat.reduceEqDiff, List.map_cons, List.map_nil], by simp only [f58, put_at, put_no, ev_t, ev_c, reduceIte, Nat.reduceEqDiff,
                List.map_cons, List.map_nil], by simp only [f59, put_at, put_no, ev_t, ev_c, reduceIte, Nat.reduceEqDiff, List.map_cons, List.map_nil], by simp only [f60, put_at,
                put_no, ev_t, ev_c, reduceIte, Nat.reduceEqDiff, List.map_cons, List.map_nil], by simp only [f63, put_at, put_no, ev_t, ev_c, reduceIte, Nat.reduceEqDiff,
                List.map_cons, List.map_nil], by simp only [f62, put_at, put_no, ev_t, ev_c, reduceIte, Nat.reduceEqDiff, List.map_cons, List.map_nil]⟩
        · rintro fr75 h86 ⟨hS87, f76, f77, f78, f79, f80, f81, f82, f83, f84, f85⟩
          simp only [List.drop_succ_cons, List.drop_zero]
          simp only [f76, run_mv, put_at, put_no, ev_t, ev_c, reduceIte, Nat.reduceEqDiff, List.map_cons, List.map_nil]
          refine ops_j 6 (fun fr' h' => Sep h' h.length ([]) ∧ fr' 43 = .bool (((decide (x39.Client = x2.Client)) && (decide (x2.Begin < x39.End))) && (decide
              (x39.Begin < x2.End))) ∧ fr' 0 = lst Call.cells l_0 ∧ fr' 4 = .ref [.int .i64 x2.Client, .int .i64 x2.Object, .bool x2.Write, .int .i64 x2.Value, .int .i64 x2.Begin,
              .int .i64 x2.End] 0 ∧ fr' 7 = lst Call.cells l_0 ∧ fr' 8 = .int .i64 (List.length l_0 : Int) ∧ fr' 9 = .int .i64
              (i1 : Int) ∧ fr' 19 = lst Call.cells l35 ∧ fr' 20 = .int .i64 (List.length l35 : Int) ∧ fr' 21 = .int .i64 (i38 : Int)) (fun Q88 hN89 => ?_) ?_
          · simp only [List.take_succ_cons, List.take_zero]
            simp only [run_guard (g := 37), put_at, put_no, ev_t, ev_c, reduceIte, Nat.reduceEqDiff, List.map_cons, List.map_nil]
            refine guard_split (t := ((decide (x39.Client = x2.Client)) && (decide (x2.Begin < x39.End)))) (fun hg90 => ?_) (fun hg90 => ?_)
            · simp only [hg90, run_guard (g := 37), guard_true, f78, run_fa, put1_some, Nat.reduceAdd, Nat.zero_add, Nat.add_zero, xfa_ref, run_ld, put_at, put_no, ev_t, ev_c,
                reduceIte, Nat.reduceEqDiff, List.map_cons, List.map_nil]
              refine put1_eq (v := .int .i64 x2.End) rfl ?_
              simp only [hg90, run_guard (g := 37), guard_true, f79, run_fa, put1_some, Nat.reduceAdd, Nat.zero_add, Nat.add_zero, xfa_ref, run_ld, put_at, put_no, ev_t, ev_c,
                  reduceIte, Nat.reduceEqDiff, List.map_cons, List.map_nil]
              refine put1_eq (v := .int .i64 x39.Begin) rfl ?_
              simp only [hg90, run_guard (g := 37), guard_true, run_bin, put1_some, xgtr, run_pick, xpick_t, run_ops_nil, run_nil, put_at, put_no, ev_t, ev_c, reduceIte,
                  Nat.reduceEqDiff, List.map_cons, List.map_nil]
              exact hN89 _ _ ⟨hS87, by rw [andT hg90]; simp only [put_at, put_no, ev_t, ev_c, reduceIte, Nat.reduceEqDiff, List.map_cons, List.map_nil], by simp only [f77, put_at,
                  put_no, ev_t, ev_c, reduceIte, Nat.reduceEqDiff, List.map_cons, List.map_nil], by simp only [f78, put_at, put_no, ev_t, ev_c, reduceIte, Nat.reduceEqDiff,
                  List.map_cons, List.map_nil], by simp only [f80, put_at, put_no, ev_t, ev_c, reduceIte, Nat.reduceEqDiff, List.map_cons, List.map_nil], by simp only [f81,
                  put_at, put_no, ev_t, ev_c, reduceIte, Nat.reduceEqDiff, List.map_cons, List.map_nil], by simp only [f82, put_at, put_no, ev_t, ev_c, reduceIte,
                  Nat.reduceEqDiff, List.map_cons, List.map_nil], by simp only [f83, put_at, put_no, ev_t, ev_c, reduceIte, Nat.reduceEqDiff, List.map_cons, List.map_nil],
                  by simp only [f84, put_at, put_no, ev_t, ev_c, reduceIte, Nat.reduceEqDiff, List.map_cons, List.map_nil], by simp only [f85, put_at, put_no, ev_t, ev_c,
                  reduceIte, Nat.reduceEqDiff, List.map_cons, List.map_nil]⟩
            · simp only [hg90, run_guard (g := 37), guard_off, run_pick, put1_some, xpick_f, run_ops_nil, run_nil, put_at, put_no, ev_t, ev_c, reduceIte, Nat.reduceEqDiff,
                List.map_cons, List.map_nil]
              exact hN89 _ _ ⟨hS87, by rw [andF hg90]; simp only [put_at, put_no, ev_t, ev_c, reduceIte, Nat.reduceEqDiff, List.map_cons, List.map_nil], by simp only [f77, put_at,
                  put_no, ev_t, ev_c, reduceIte, Nat.reduceEqDiff, List.map_cons, List.map_nil], by simp only [f78, put_at, put_no, ev_t, ev_c, reduceIte, Nat.reduceEqDiff,
                  List.map_cons, List.map_nil], by simp only [f80, put_at, put_no, ev_t, ev_c, reduceIte, Nat.reduceEqDiff, List.map_cons, List.map_nil], by simp only [f81,
                  put_at, put_no, ev_t, ev_c, reduceIte, Nat.reduceEqDiff, List.map_cons, List.map_nil], by simp only [f82, put_at, put_no, ev_t, ev_c, reduceIte,
                  Nat.reduceEqDiff, List.map_cons, List.map_nil], by simp only [f83, put_at, put_no, ev_t, ev_c, reduceIte, Nat.reduceEqDiff, List.map_cons, List.map_nil],
                  by simp only [f84, put_at, put_no, ev_t, ev_c, reduceIte, Nat.reduceEqDiff, List.map_cons, List.map_nil], by simp only [f85, put_at, put_no, ev_t, ev_c,
                  reduceIte, Nat.reduceEqDiff, List.map_cons, List.map_nil]⟩
          · rintro fr91 h101 ⟨hS102, f92, f93, f94, f95, f96, f97, f98, f99, f100⟩
            simp only [List.drop_succ_cons, List.drop_zero]
            simp only [run_ops_nil, f92, run_cond, put_at, put_no, ev_t, ev_c, reduceIte, Nat.reduceEqDiff, List.map_cons, List.map_nil]
            refine cond_split (t := (((decide (x39.Client = x2.Client)) && (decide (x2.Begin < x39.End))) && (decide (x39.Begin < x2.End)))) (fun hc103 => ?_) (fun hc103 => ?_)
            · rw [iteT hc103] at hF44
              simp only [run_seq, run_reg, run_mv, run_ops_nil, run_ret, put_at, put_no, ev_t, ev_c, reduceIte, Nat.reduceEqDiff, List.map_cons, List.map_nil]
              have e104 := some_inj hF44
              subst e104
              have ho105 := hr45 _ rfl
              have hk106 := hk43
              rw [ho105] at hk106
              dsimp only [jnO] at hk106
              apply hR49
              have e107 := some_inj hk106
              subst e107
              have ho108 := hr8 _ rfl
              have hk109 := hk6
              rw [ho108] at hk109
              dsimp only [jnO] at hk109
              apply hR12
              have he := some_inj hk109
              subst he
              simp only [end_ret1, put_at, put_no, ev_t, ev_c, reduceIte, Nat.reduceEqDiff, List.map_cons, List.map_nil]
              exact rfl
            · rw [iteF hc103] at hF44
              simp only [run_skip, run_nil, put_at, put_no, ev_t, ev_c, reduceIte, Nat.reduceEqDiff, List.map_cons, List.map_nil]
              have e110 := some_inj hF44
              exact hN47 _ _ _ e110.symm ⟨by simp only [f93, put_at, put_no, ev_t, ev_c, reduceIte, Nat.reduceEqDiff, List.map_cons, List.map_nil], by simp only [f94, put_at,
                  put_no, ev_t, ev_c, reduceIte, Nat.reduceEqDiff, List.map_cons, List.map_nil], by simp only [f95, put_at, put_no, ev_t, ev_c, reduceIte, Nat.reduceEqDiff,
                  List.map_cons, List.map_nil], by simp only [f96, put_at, put_no, ev_t, ev_c, reduceIte, Nat.reduceEqDiff, List.map_cons, List.map_nil], by simp only [f97,
                  put_at, put_no, ev_t, ev_c, reduceIte, Nat.reduceEqDiff, List.map_cons, List.map_nil], by simp only [f98, put_at, put_no, ev_t, ev_c, reduceIte,
                  Nat.reduceEqDiff, List.map_cons, List.map_nil], hS102⟩ (by simp only [f100, put_at, put_no, ev_t, ev_c, reduceIte, Nat.reduceEqDiff, List.map_cons,
                  List.map_nil]) (by simp only [f99, put_at, put_no, ev_t, ev_c, reduceIte, Nat.reduceEqDiff, List.map_cons, List.map_nil])
      · rintro _ fr112 h113 rfl ⟨f115, f116, f117, f118, f119, f120, hS114⟩
        dsimp only [jnO] at hk43
        unfold spec_GoodCalls_j1 at hk43
        simp only [run_nil, put_at, put_no, ev_t, ev_c, reduceIte, Nat.reduceEqDiff, List.map_cons, List.map_nil]
        have e121 := some_inj hk43
        exact hN10 _ _ _ e121.symm ⟨by simp only [f115, put_at, put_no, ev_t, ev_c, reduceIte, Nat.reduceEqDiff, List.map_cons, List.map_nil], by simp only [f117, put_at, put_no,
            ev_t, ev_c, reduceIte, Nat.reduceEqDiff, List.map_cons, List.map_nil], hS114⟩ (by simp only [f119, put_at, put_no, ev_t, ev_c, reduceIte, Nat.reduceEqDiff,
            List.map_cons, List.map_nil]) (by simp only [f118, put_at, put_no, ev_t, ev_c, reduceIte, Nat.reduceEqDiff, List.map_cons, List.map_nil])
  · rintro _ fr124 h125 rfl ⟨f127, f128, hS126⟩
    dsimp only [jnO] at hk6
    unfold spec_GoodCalls_j2 at hk6
    simp only [x40_10, run_seq, run_reg, f127, run_mv, run_len, put1_some, xlen_lst, run_bin, xleq, run_ops_nil, run_ret, put_at, put_no, ev_t, ev_c, reduceIte, Nat.reduceEqDiff,
        List.map_cons, List.map_nil]
    have he := some_inj hk6
    subst he
    simp only [end_ret1, put_at, put_no, ev_t, ev_c, reduceIte, Nat.reduceEqDiff, List.map_cons, List.map_nil]
    exact rfl
theorem spec_OnObject_x {W : Nat → Bool} {h : Heap} (hW : ∀ b,
    h.length ≤ b → W b = true) (l_0 : List Call) (object_1 : Int) (r : (List Call) × Bool) (hF : spec_OnObject l_0 object_1 = some r) : Ret E W 12 [lst Call.cells l_0,
    .int .i64 object_1] h (fun v h' => cut h.length h' E.sz false 9 v = some (.tup [lst Call.cells r.1, .bool r.2])) := by
  refine Ret.of (fn := x12) rfl (Run.of ?_)
  unfold spec_OnObject at hF
  have zf0 : argFr [lst Call.cells l_0, .int .i64 object_1] 0 = lst Call.cells l_0 := rfl
  have zf1 : argFr [lst Call.cells l_0, .int .i64 object_1] 1 = .int .i64 object_1 := rfl
  generalize argFr [lst Call.cells l_0, .int .i64 object_1] = fr0 at zf0 zf1 ⊢
  have hS : Sep h h.length [] := Sep.nil h
  obtain ⟨v1, hx2, hF3⟩ := bind_some' hF
  simp only [x12, run_seq, run_reg, run_mv, run_ops_nil, x12_10, zf0, run_call, put_at, put_no, ev_t, ev_c, reduceIte, Nat.reduceEqDiff, List.map_cons, List.map_nil]
  refine call1 rfl (mapM1 snap_lst mapM0) (spec_GoodCalls_x (fun b hb => decide_eq_true hb) l_0 v1 hx2) ?_
  simp only [run_un, put1_some, xnot, run_mv, put_at, put_no, ev_t, ev_c, reduceIte, Nat.reduceEqDiff, List.map_cons, List.map_nil]
  refine ops_j 4 (fun fr' h' => Sep h' h.length ([]) ∧ fr' 16 = .bool ((!v1) || (!(spec_l1In object_1 0 2))) ∧ fr' 0 = lst Call.cells l_0 ∧ fr' 1 = .int .i64 object_1)
      (fun Q4 hN5 => ?_) ?_
  · simp only [List.take_succ_cons, List.take_zero]
    simp only [run_guard (g := 12), put_at, put_no, ev_t, ev_c, reduceIte, Nat.reduceEqDiff, List.map_cons, List.map_nil]
    refine guard_split (t := (!v1)) (fun hg6 => ?_) (fun hg6 => ?_)
    · simp only [hg6, run_guard (g := 12), guard_off', run_pick, put1_some, xpick_t, run_ops_nil, run_nil, put_at, put_no, ev_t, ev_c, reduceIte, Nat.reduceEqDiff, List.map_cons,
        List.map_nil]
      exact hN5 _ _ ⟨hS, by rw [orT hg6]; simp only [put_at, put_no, ev_t, ev_c, reduceIte, Nat.reduceEqDiff, List.map_cons, List.map_nil], by simp only [zf0, put_at, put_no,
          ev_t, ev_c, reduceIte, Nat.reduceEqDiff, List.map_cons, List.map_nil], by simp only [zf1, put_at, put_no, ev_t, ev_c, reduceIte, Nat.reduceEqDiff, List.map_cons,
          List.map_nil]⟩
    · simp only [hg6, run_guard (g := 12), guard_false, zf1, run_mv, run_call, put_at, put_no, ev_t, ev_c, reduceIte, Nat.reduceEqDiff, List.map_cons, List.map_nil]
      refine call1 rfl (mapM1 snap_int (mapM1 snap_int (mapM1 snap_int mapM0))) (spec_l1In_x (fun b hb => decide_eq_true hb) object_1 0 2 _ rfl) ?_
      simp only [hg6, run_guard (g := 12), guard_false, run_un, put1_some, xnot, run_pick, xpick_f, run_ops_nil, run_nil, put_at, put_no, ev_t, ev_c, reduceIte, Nat.reduceEqDiff,
          List.map_cons, List.map_nil]
      exact hN5 _ _ ⟨hS, by rw [orF hg6]; simp only [put_at, put_no, ev_t, ev_c, reduceIte, Nat.reduceEqDiff, List.map_cons, List.map_nil], by simp only [zf0, put_at, put_no,
          ev_t, ev_c, reduceIte, Nat.reduceEqDiff, List.map_cons, List.map_nil], by simp only [zf1, put_at, put_no, ev_t, ev_c, reduceIte, Nat.reduceEqDiff, List.map_cons,
          List.map_nil]⟩
  · rintro fr7 h11 ⟨hS12, f8, f9, f10⟩
    simp only [List.drop_succ_cons, List.drop_zero]
    simp only [run_ops_nil, x12_1, f8, run_cond, put_at, put_no, ev_t, ev_c, reduceIte, Nat.reduceEqDiff, List.map_cons, List.map_nil]
    refine cond_split (t := ((!v1) || (!(spec_l1In object_1 0 2)))) (fun hc13 => ?_) (fun hc13 => ?_)
    · rw [iteT hc13] at hF3
      simp only [run_seq, run_reg, run_mv, run_ops_nil, run_ret, put_at, put_no, ev_t, ev_c, reduceIte, Nat.reduceEqDiff, List.map_cons, List.map_nil]
      have he := some_inj hF3
      subst he
      simp only [end_ret2, put_at, put_no, ev_t, ev_c, reduceIte, Nat.reduceEqDiff, List.map_cons, List.map_nil]
      exact cut_tup (mapM1 rfl (mapM1 rfl mapM0))
    · rw [iteF hc13] at hF3
      simp only [run_skip, x12_9, run_seq, run_reg, run_mv, run_ops_nil, x12_8, f9, run_len, put1_some, xlen_lst, put_at, put_no, ev_t, ev_c, reduceIte, Nat.reduceEqDiff,
          List.map_cons, List.map_nil]
      obtain ⟨oc26, hX28, hk29⟩ := jn_some hF3
      simp only [x12_7]
      refine rangeL_j (σ := (List Call)) l_0 (fun i24 x25 s73 => spec_OnObject_b1 object_1 i24 x25 s73) (fun s fr' h' => ∃ v21 c22,
          fr' 1 = .int .i64 object_1 ∧ fr' 6 = v21 ∧ fr' 17 = lst Call.cells l_0 ∧ SlF Call.cells 6 55 v21 s c22 ∧ Sep h' h.length (c22 ++ ([]))) hX28 ⟨.nil, [],
          by simp only [f10, put_at, put_no, ev_t, ev_c, reduceIte, Nat.reduceEqDiff, List.map_cons, List.map_nil], by simp only [put_at, put_no, ev_t, ev_c, reduceIte,
          Nat.reduceEqDiff, List.map_cons, List.map_nil], by simp only [put_at, put_no, ev_t, ev_c, reduceIte, Nat.reduceEqDiff, List.map_cons, List.map_nil], SlF.nil,
          hS12⟩ (by simp only [put_at, put_no, ev_t, ev_c, reduceIte, Nat.reduceEqDiff, List.map_cons, List.map_nil]) (by simp only [put_at, put_no, ev_t, ev_c, reduceIte,
          Nat.reduceEqDiff, List.map_cons, List.map_nil]) (fun _ _ _ h => h) rfl rfl (fun _ _ _ _ h => h) (fun _ _ _ _ h => h) (fun _ _ _ _ h => h) (by decide) ?_ ?_
      · rintro i24 x25 s19 fr38 h39 hx44 ⟨v21, c22, f41, f42, f43, hv23, hS40⟩ f45 f46 oc27 hF30 hr31 Q32 hN33 hB37 hK34 hR35 hE36
        unfold spec_OnObject_b1 at hF30
        simp only [x12_5, run_seq, run_reg, f43, f45, run_ia, put_at, put_no, ev_t, ev_c, reduceIte, Nat.reduceEqDiff, List.map_cons, List.map_nil]
        refine put1_eq (v := .ref (Call.cells x25) 0) (xia_lstN hx44 rfl) ?_
        simp only [run_ld, put_at, put_no, ev_t, ev_c, reduceIte, Nat.reduceEqDiff, List.map_cons, List.map_nil]
        refine put1_eq (v := .agg [.int .i64 x25.Client, .int .i64 x25.Object, .bool x25.Write, .int .i64 x25.Value, .int .i64 x25.Begin, .int .i64 x25.End]) rfl ?_
        simp only [run_new, put_at, put_no, ev_t, ev_c, reduceIte, Nat.reduceEqDiff, List.map_cons, List.map_nil]
        refine put2_newC hS40 (fun b47 h48 hS49 => ?_)
        simp only [run_st, put_at, put_no, ev_t, ev_c, reduceIte, Nat.reduceEqDiff, List.map_cons, List.map_nil]
        refine put2_stC (cs' := [.int .i64 x25.Client, .int .i64 x25.Object, .bool x25.Write, .int .i64 x25.Value, .int .i64 x25.Begin,
            .int .i64 x25.End]) hS49 hW rfl rfl (Nat.le_of_ble_eq_true rfl) rfl (fun h51 hS52 => ?_)
        simp only [put_no, run_ops_nil, put_at, ev_t, ev_c, reduceIte, Nat.reduceEqDiff, List.map_cons, List.map_nil]
        refine frz_stepC hS52 hW (by simp only [put_at, put_no, ev_t, ev_c, reduceIte, Nat.reduceEqDiff, List.map_cons, List.map_nil]) (fun h53 hS54 => ?_)
        simp only [run_frz_nil, x12_4, run_seq, run_reg, run_fa, put1_some, Nat.reduceAdd, Nat.zero_add, Nat.add_zero, xfa_ref, run_ld, put_at, put_no, ev_t, ev_c, reduceIte,
            Nat.reduceEqDiff, List.map_cons, List.map_nil]
        refine put1_eq (v := .int .i64 x25.Object) rfl ?_
        simp only [f41, run_mv, run_bin, put1_some, xeql, run_ops_nil, x12_3, run_cond, put_at, put_no, ev_t, ev_c, reduceIte, Nat.reduceEqDiff, List.map_cons, List.map_nil]
        refine cond_split (t := (decide (x25.Object = object_1))) (fun hc55 => ?_) (fun hc55 => ?_)
        · rw [iteT hc55] at hF30
          simp only [x12_2, run_reg, f42, run_mv, run_ld, put_at, put_no, ev_t, ev_c, reduceIte, Nat.reduceEqDiff, List.map_cons, List.map_nil]
          refine put1_eq (v := .agg [.int .i64 x25.Client, .int .i64 x25.Object, .bool x25.Write, .int .i64 x25.Value, .int .i64 x25.Begin, .int .i64 x25.End]) rfl ?_
          simp only [run_buildS, evp, put_at, put_no, ev_t, ev_c, reduceIte, Nat.reduceEqDiff, List.map_cons, List.map_nil]
          refine put2_buildSF (n := 6) (f := Call.cells) [x25] hS54 rfl rfl (fun v56 c57 h58 hv59 hS60 => ?_)
          simp only [run_app, put_at, put_no, ev_t, ev_c, reduceIte, Nat.reduceEqDiff, List.map_cons, List.map_nil]
          obtain ⟨l62, hx63, hF64⟩ := bind_some' hF30
          refine put2_appF (f := Call.cells) hv23 (Sep.m1 hS60) hW (fun _ => rfl) (fun _ => rfl) (SlF.first hv59 hS60 (fun _ => rfl)) hx63 (fun v65 c66 h67 hv68 hS69 => ?_)
          simp only [run_mv, run_ops_nil, run_nil, put_at, put_no, ev_t, ev_c, reduceIte, Nat.reduceEqDiff, List.map_cons, List.map_nil]
          have e71 := some_inj hF64
          exact hN33 _ _ _ e71.symm ⟨v65, c66, by simp only [f41, put_at, put_no, ev_t, ev_c, reduceIte, Nat.reduceEqDiff, List.map_cons, List.map_nil], by simp only [put_at,
              put_no, ev_t, ev_c, reduceIte, Nat.reduceEqDiff, List.map_cons, List.map_nil], by simp only [f43, put_at, put_no, ev_t, ev_c, reduceIte, Nat.reduceEqDiff,
              List.map_cons, List.map_nil], hv68, (Sep.dc (Sep.m1 hS69))⟩ (by simp only [f45, put_at, put_no, ev_t, ev_c, reduceIte, Nat.reduceEqDiff, List.map_cons,
              List.map_nil]) (by simp only [f46, put_at, put_no, ev_t, ev_c, reduceIte, Nat.reduceEqDiff, List.map_cons, List.map_nil])
        · rw [iteF hc55] at hF30
          simp only [run_skip, run_nil, put_at, put_no, ev_t, ev_c, reduceIte, Nat.reduceEqDiff, List.map_cons, List.map_nil]
          have e72 := some_inj hF30
          exact hN33 _ _ _ e72.symm ⟨v21, c22, by simp only [f41, put_at, put_no, ev_t, ev_c, reduceIte, Nat.reduceEqDiff, List.map_cons, List.map_nil], by simp only [f42, put_at,
              put_no, ev_t, ev_c, reduceIte, Nat.reduceEqDiff, List.map_cons, List.map_nil], by simp only [f43, put_at, put_no, ev_t, ev_c, reduceIte, Nat.reduceEqDiff,
              List.map_cons, List.map_nil], hv23, hS54⟩ (by simp only [f45, put_at, put_no, ev_t, ev_c, reduceIte, Nat.reduceEqDiff, List.map_cons,
              List.map_nil]) (by simp only [f46, put_at, put_no, ev_t, ev_c, reduceIte, Nat.reduceEqDiff, List.map_cons, List.map_nil])
      · rintro s74 fr79 h80 rfl ⟨v76, c77, f82, f83, f84, hv78, hS81⟩
        dsimp only [jnO] at hk29
        unfold spec_OnObject_j1 at hk29
        simp only [run_seq, run_reg, f83, run_mv, run_ops_nil, run_ret, put_at, put_no, ev_t, ev_c, reduceIte, Nat.reduceEqDiff, List.map_cons, List.map_nil]
        have he := some_inj hk29
        subst he
        simp only [end_ret2, put_at, put_no, ev_t, ev_c, reduceIte, Nat.reduceEqDiff, List.map_cons, List.map_nil]
        exact cut_tup (mapM1 (SlF.cut hv78 hS81 (Nat.le_refl _) rfl (fun _ => rfl) (fun _ => rfl)) (mapM1 rfl mapM0))
end Go.Proofs.Ytddkoiapboeemaa.X
namespace Go.Proofs.Ytddkoiapboeemaa.X
open Go
theorem laws_toCall_x {W : Nat → Bool} {h : Heap} (hW : ∀ b,
    h.length ≤ b → W b = true) (a_0 : Call) (r : Call) (hF : some (laws_toCall a_0) = some r) : Ret E W 42 [.agg [.int .i64 a_0.Client, .int .i64 a_0.Object, .bool a_0.Write,
    .int .i64 a_0.Value, .int .i64 a_0.Begin, .int .i64 a_0.End]] h (fun v h' => cut h.length h' E.sz false 9 v = some (.agg [.int .i64 r.Client, .int .i64 r.Object,
    .bool r.Write, .int .i64 r.Value, .int .i64 r.Begin, .int .i64 r.End])) := by
  refine Ret.of (fn := x42) rfl (Run.of ?_)
  unfold laws_toCall at hF
  have zf0 : argFr [.agg [.int .i64 a_0.Client, .int .i64 a_0.Object, .bool a_0.Write, .int .i64 a_0.Value, .int .i64 a_0.Begin,
      .int .i64 a_0.End]] 0 = .agg [.int .i64 a_0.Client, .int .i64 a_0.Object, .bool a_0.Write, .int .i64 a_0.Value, .int .i64 a_0.Begin, .int .i64 a_0.End] := rfl
  generalize argFr [.agg [.int .i64 a_0.Client, .int .i64 a_0.Object, .bool a_0.Write, .int .i64 a_0.Value, .int .i64 a_0.Begin, .int .i64 a_0.End]] = fr0 at zf0 ⊢
  have hS : Sep h h.length [] := Sep.nil h
  simp only [x42, run_seq, run_reg, run_box, zf0, put_at, put_no, ev_t, ev_c, reduceIte, Nat.reduceEqDiff, List.map_cons, List.map_nil]
  refine put2_boxC (cs := [.int .i64 a_0.Client, .int .i64 a_0.Object, .bool a_0.Write, .int .i64 a_0.Value, .int .i64 a_0.Begin,
      .int .i64 a_0.End]) hS rfl rfl rfl (fun b1 h2 hS3 => ?_)
  simp only [run_new, put_at, put_no, ev_t, ev_c, reduceIte, Nat.reduceEqDiff, List.map_cons, List.map_nil]
  refine put2_newC hS3 (fun b5 h6 hS7 => ?_)
  simp only [run_ops_nil, put_at, put_no, ev_t, ev_c, reduceIte, Nat.reduceEqDiff, List.map_cons, List.map_nil]
  refine frz_stepC (Sep.m1 hS7) hW (by simp only [put_at, put_no, ev_t, ev_c, reduceIte, Nat.reduceEqDiff, List.map_cons, List.map_nil]) (fun h9 hS10 => ?_)
  simp only [run_frz_nil, x42_7, run_seq, run_reg, run_new, put_at, put_no, ev_t, ev_c, reduceIte, Nat.reduceEqDiff, List.map_cons, List.map_nil]
  refine put2_newC hS10 (fun b11 h12 hS13 => ?_)
  simp only [run_ops_nil, x42_6, run_seq, run_reg, run_fa, put1_some, Nat.reduceAdd, Nat.zero_add, Nat.add_zero, xfa_ref, run_ld, put_at, put_no, ev_t, ev_c, reduceIte,
      Nat.reduceEqDiff, List.map_cons, List.map_nil]
  refine put1_eq (v := .int .i64 a_0.Client) rfl ?_
  simp only [run_fa, put1_some, Nat.reduceAdd, Nat.zero_add, Nat.add_zero, xfa_ptr, run_st, put_at, put_no, ev_t, ev_c, reduceIte, Nat.reduceEqDiff, List.map_cons, List.map_nil]
  refine put2_stC (cs' := [.int .i64 a_0.Client, .int .i64 0, .bool false, .int .i64 0, .int .i64 0,
      .int .i64 0]) hS13 hW rfl rfl (Nat.le_of_ble_eq_true rfl) rfl (fun h15 hS16 => ?_)
  simp only [put_no, run_ops_nil, x42_5, run_seq, run_reg, run_fa, put1_some, Nat.reduceAdd, Nat.zero_add, Nat.add_zero, xfa_ref, run_ld, put_at, ev_t, ev_c, reduceIte,
      Nat.reduceEqDiff, List.map_cons, List.map_nil]
  refine put1_eq (v := .int .i64 a_0.Object) rfl ?_
  simp only [run_fa, put1_some, Nat.reduceAdd, Nat.zero_add, Nat.add_zero, xfa_ptr, run_st, put_at, put_no, ev_t, ev_c, reduceIte, Nat.reduceEqDiff, List.map_cons, List.map_nil]
  refine put2_stC (cs' := [.int .i64 a_0.Client, .int .i64 a_0.Object, .bool false, .int .i64 0, .int .i64 0,
      .int .i64 0]) hS16 hW rfl rfl (Nat.le_of_ble_eq_true rfl) rfl (fun h17 hS18 => ?_)
  simp only [put_no, run_ops_nil, x42_4, run_seq, run_reg, run_fa, put1_some, Nat.reduceAdd, Nat.zero_add, Nat.add_zero, xfa_ref, run_ld, put_at, ev_t, ev_c, reduceIte,
      Nat.reduceEqDiff, List.map_cons, List.map_nil]
  refine put1_eq (v := .bool a_0.Write) rfl ?_
  simp only [run_fa, put1_some, Nat.reduceAdd, Nat.zero_add, Nat.add_zero, xfa_ptr, run_st, put_at, put_no, ev_t, ev_c, reduceIte, Nat.reduceEqDiff, List.map_cons, List.map_nil]
  refine put2_stC (cs' := [.int .i64 a_0.Client, .int .i64 a_0.Object, .bool a_0.Write, .int .i64 0, .int .i64 0,
      .int .i64 0]) hS18 hW rfl rfl (Nat.le_of_ble_eq_true rfl) rfl (fun h19 hS20 => ?_)
  simp only [put_no, run_ops_nil, x42_3, run_seq, run_reg, run_fa, put1_some, Nat.reduceAdd, Nat.zero_add, Nat.add_zero, xfa_ref, run_ld, put_at, ev_t, ev_c, reduceIte,
      Nat.reduceEqDiff, List.map_cons, List.map_nil]
  refine put1_eq (v := .int .i64 a_0.Value) rfl ?_
  simp only [run_fa, put1_some, Nat.reduceAdd, Nat.zero_add, Nat.add_zero, xfa_ptr, run_st, put_at, put_no, ev_t, ev_c, reduceIte, Nat.reduceEqDiff, List.map_cons, List.map_nil]
  refine put2_stC (cs' := [.int .i64 a_0.Client, .int .i64 a_0.Object, .bool a_0.Write, .int .i64 a_0.Value, .int .i64 0,
      .int .i64 0]) hS20 hW rfl rfl (Nat.le_of_ble_eq_true rfl) rfl (fun h21 hS22 => ?_)
  simp only [put_no, run_ops_nil, x42_2, run_seq, run_reg, run_fa, put1_some, Nat.reduceAdd, Nat.zero_add, Nat.add_zero, xfa_ref, run_ld, put_at, ev_t, ev_c, reduceIte,
      Nat.reduceEqDiff, List.map_cons, List.map_nil]
  refine put1_eq (v := .int .i64 a_0.Begin) rfl ?_
  simp only [run_fa, put1_some, Nat.reduceAdd, Nat.zero_add, Nat.add_zero, xfa_ptr, run_st, put_at, put_no, ev_t, ev_c, reduceIte, Nat.reduceEqDiff, List.map_cons, List.map_nil]
  refine put2_stC (cs' := [.int .i64 a_0.Client, .int .i64 a_0.Object, .bool a_0.Write, .int .i64 a_0.Value, .int .i64 a_0.Begin,
      .int .i64 0]) hS22 hW rfl rfl (Nat.le_of_ble_eq_true rfl) rfl (fun h23 hS24 => ?_)
  simp only [put_no, run_ops_nil, x42_1, run_seq, run_reg, run_fa, put1_some, Nat.reduceAdd, Nat.zero_add, Nat.add_zero, xfa_ref, run_ld, put_at, ev_t, ev_c, reduceIte,
      Nat.reduceEqDiff, List.map_cons, List.map_nil]
  refine put1_eq (v := .int .i64 a_0.End) rfl ?_
  simp only [run_fa, put1_some, Nat.reduceAdd, Nat.zero_add, Nat.add_zero, xfa_ptr, run_st, put_at, put_no, ev_t, ev_c, reduceIte, Nat.reduceEqDiff, List.map_cons, List.map_nil]
  refine put2_stC (cs' := [.int .i64 a_0.Client, .int .i64 a_0.Object, .bool a_0.Write, .int .i64 a_0.Value, .int .i64 a_0.Begin,
      .int .i64 a_0.End]) hS24 hW rfl rfl (Nat.le_of_ble_eq_true rfl) rfl (fun h25 hS26 => ?_)
  simp only [put_no, run_ops_nil, run_seq, run_reg, run_ld, put_at, ev_t, ev_c, reduceIte, Nat.reduceEqDiff, List.map_cons, List.map_nil]
  refine put1_eq (v := .agg [.int .i64 a_0.Client, .int .i64 a_0.Object, .bool a_0.Write, .int .i64 a_0.Value, .int .i64 a_0.Begin,
      .int .i64 a_0.End]) ((xld_bs (Sep.bk _ _ _ hS26)).trans rfl) ?_
  simp only [run_st, put_at, put_no, ev_t, ev_c, reduceIte, Nat.reduceEqDiff, List.map_cons, List.map_nil]
  refine put2_stC (cs' := [.int .i64 a_0.Client, .int .i64 a_0.Object, .bool a_0.Write, .int .i64 a_0.Value, .int .i64 a_0.Begin,
      .int .i64 a_0.End]) (Sep.m1 hS26) hW rfl rfl (Nat.le_of_ble_eq_true rfl) rfl (fun h27 hS28 => ?_)
  simp only [put_no, run_ops_nil, run_ret, put_at, ev_t, ev_c, reduceIte, Nat.reduceEqDiff, List.map_cons, List.map_nil]
  have he := some_inj hF
  subst he
  refine end_ret_cell (bb := b5) (oo := 0) (v := .agg [.int .i64 a_0.Client, .int .i64 a_0.Object, .bool a_0.Write, .int .i64 a_0.Value, .int .i64 a_0.Begin,
      .int .i64 a_0.End]) (by simp only [put_at, put_no, ev_t, ev_c, reduceIte, Nat.reduceEqDiff, List.map_cons, List.map_nil]) ((xld_bs (Sep.bk _ _ _ hS28)).trans rfl) ?_
  exact (cut_agg (mapM1 rfl (mapM1 rfl (mapM1 rfl (mapM1 rfl (mapM1 rfl (mapM1 rfl mapM0)))))))
theorem laws_toCallS_x {W : Nat → Bool} {h : Heap} (hW : ∀ b,
    h.length ≤ b → W b = true) (k : Nat) (a_0 : List Call) (r : List Call) (hF : laws_toCallS k a_0 = some r) : Ret E W 13 [lst Call.cells a_0] h (fun v h' => ∃ rv0 rc0,
    v = rv0 ∧ SlF Call.cells 6 55 rv0 r rc0 ∧ Sep h' h.length (rc0 ++ ([]))) := by
  refine Ret.of (fn := x13) rfl (Run.of ?_)
  unfold laws_toCallS at hF
  have zf0 : argFr [lst Call.cells a_0] 0 = lst Call.cells a_0 := rfl
  generalize argFr [lst Call.cells a_0] = fr0 at zf0 ⊢
  have hS : Sep h h.length [] := Sep.nil h
  obtain ⟨l1, hx2, hF3⟩ := bind_some' hF
  simp only [x13, run_seq, run_reg, run_mv, run_ops_nil, x13_7, zf0, run_len, put1_some, xlen_lst, run_mkS, put_at, put_no, ev_t, ev_c, reduceIte, Nat.reduceEqDiff, List.map_cons,
      List.map_nil]
  refine put2_mkSF (f := Call.cells) (z := (Call.mk (0 : Int) (0 : Int) false (0 : Int) (0 : Int) (0 : Int))) hS hx2 rfl (fun v4 c5 h6 hv7 hS8 => ?_)
  simp only [run_mv, run_ops_nil, x13_6, run_seq, run_reg, put_at, put_no, ev_t, ev_c, reduceIte, Nat.reduceEqDiff, List.map_cons, List.map_nil]
  obtain ⟨oc20, hX22, hk23⟩ := jn_some hF3
  simp only [x13_5]
  refine loopF_j (σ := Int × (List Call)) (fun s55 => laws_toCallS_b1 a_0 s55.1 s55.2) (fun s fr' h' => ∃ c16,
      fr' 0 = lst Call.cells a_0 ∧ fr' 3 = v4 ∧ fr' 4 = .int .i64 s.1 ∧ SlF Call.cells 6 55 v4 s.2 c16 ∧ Sep h' h.length (c16 ++ ([]))) hX22 ⟨c5, by simp only [zf0, put_at,
      put_no, ev_t, ev_c, reduceIte, Nat.reduceEqDiff, List.map_cons, List.map_nil], by simp only [put_at, put_no, ev_t, ev_c, reduceIte, Nat.reduceEqDiff, List.map_cons,
      List.map_nil], by simp only [put_at, put_no, ev_t, ev_c, reduceIte, Nat.reduceEqDiff, List.map_cons, List.map_nil], hv7, hS8⟩ (fun _ _ _ h => h) ?_ ?_
  · rintro ⟨s14, s15⟩ fr32 h33 ⟨c16, f35, f36, f37, hv17, hS34⟩ oc21 hF24 hr25 Q26 hN27 hK28 hR29 hE30
    dsimp only at *
    unfold laws_toCallS_b1 at hF24
    simp only [x13_3, run_seq, run_reg, f37, run_mv, f35, run_len, put1_some, xlen_lst, run_bin, xlss, run_ops_nil, run_cond, put_at, put_no, ev_t, ev_c, reduceIte,
        Nat.reduceEqDiff, List.map_cons, List.map_nil]
    refine cond_split (t := (decide (s14 < (List.length a_0 : Int)))) (fun hc39 => ?_) (fun hc39 => ?_)
    · rw [iteT hc39] at hF24
      obtain ⟨x40, hx41, hF42⟩ := bind_some' hF24
      simp only [run_skip, x13_2, run_seq, run_block, x13_1, run_reg, f36, run_mv, f37, f35, run_ia, put_at, put_no, ev_t, ev_c, reduceIte, Nat.reduceEqDiff, List.map_cons,
          List.map_nil]
      refine put1_eq (v := .ref (Call.cells x40) 0) (xia_lst hx41 rfl) ?_
      simp only [run_ld, put_at, put_no, ev_t, ev_c, reduceIte, Nat.reduceEqDiff, List.map_cons, List.map_nil]
      refine put1_eq (v := .agg [.int .i64 x40.Client, .int .i64 x40.Object, .bool x40.Write, .int .i64 x40.Value, .int .i64 x40.Begin, .int .i64 x40.End]) rfl ?_
      simp only [run_call, put_at, put_no, ev_t, ev_c, reduceIte, Nat.reduceEqDiff, List.map_cons, List.map_nil]
      refine call1 rfl (mapM1 (snap_agg (mapM1 snap_int (mapM1 snap_int (mapM1 snap_bool (mapM1 snap_int (mapM1 snap_int (mapM1 snap_int mapM0))))))) mapM0) (laws_toCall_x
          (fun b hb => decide_eq_true hb) x40 _ rfl) ?_
      obtain ⟨x43, hx44, hF45⟩ := bind_some' hF42
      simp only [run_ia, put_at, put_no, ev_t, ev_c, reduceIte, Nat.reduceEqDiff, List.map_cons, List.map_nil]
      obtain ⟨b46, hb47⟩ := SlF.isrow hv17 (geti_ne hx44)
      refine put1_eq (SlF.ia hv17 hb47 hx44) ?_
      simp only [run_st, put_at, put_no, ev_t, ev_c, reduceIte, Nat.reduceEqDiff, List.map_cons, List.map_nil]
      refine put2_stF (f := Call.cells) (x' := (laws_toCall x40)) (o := 0) hv17 hS34 hW hb47 hx44 (fun _ => rfl) rfl rfl (Nat.le_of_ble_eq_true rfl) rfl
          (fun c50 h48 hv51 hS49 => ?_)
      have hx52 := geti_set (x' := (laws_toCall x40)) hx44
      simp only [put_no, run_ops_nil, run_blk, run_reg, f37, run_mv, run_bin, put1_some, xadd, run_nil, put_at, ev_t, ev_c, reduceIte, Nat.reduceEqDiff, List.map_cons,
          List.map_nil]
      have e53 := some_inj hF45
      exact hN27 _ _ _ e53.symm ⟨c50, by simp only [f35, put_at, put_no, ev_t, ev_c, reduceIte, Nat.reduceEqDiff, List.map_cons, List.map_nil], by simp only [f36, put_at, put_no,
          ev_t, ev_c, reduceIte, Nat.reduceEqDiff, List.map_cons, List.map_nil], by simp only [put_at, put_no, ev_t, ev_c, reduceIte, Nat.reduceEqDiff, List.map_cons,
          List.map_nil], hv51, hS49⟩
    · rw [iteF hc39] at hF24
      simp only [run_exit, out_code, out_nil, put_at, put_no, ev_t, ev_c, reduceIte, Nat.reduceEqDiff, List.map_cons, List.map_nil]
      have e54 := some_inj hF24
      exact hK28 _ _ _ e54.symm ⟨c16, by simp only [f35, put_at, put_no, ev_t, ev_c, reduceIte, Nat.reduceEqDiff, List.map_cons, List.map_nil], by simp only [f36, put_at, put_no,
          ev_t, ev_c, reduceIte, Nat.reduceEqDiff, List.map_cons, List.map_nil], by simp only [f37, put_at, put_no, ev_t, ev_c, reduceIte, Nat.reduceEqDiff, List.map_cons,
          List.map_nil], hv17, hS34⟩
  · rintro ⟨s56, s57⟩ fr60 h61 rfl ⟨c58, f63, f64, f65, hv59, hS62⟩
    dsimp only [jnO] at hk23
    dsimp only at *
    unfold laws_toCallS_j1 at hk23
    simp only [run_seq, run_reg, f64, run_mv, run_ops_nil, run_ret, put_at, put_no, ev_t, ev_c, reduceIte, Nat.reduceEqDiff, List.map_cons, List.map_nil]
    have he := some_inj hk23
    subst he
    simp only [end_ret1, put_at, put_no, ev_t, ev_c, reduceIte, Nat.reduceEqDiff, List.map_cons, List.map_nil]
    exact ⟨v4, c58, by first | trivial | rfl, hv59, hS62⟩
theorem impl_in_x {W : Nat → Bool} {h : Heap} (hW : ∀ b,
    h.length ≤ b → W b = true) (n_0 : Int) (low_1 : Int) (high_2 : Int) (r : Bool) (hF : some (impl_in n_0 low_1 high_2) = some r) : Ret E W 44 [.int .i64 n_0, .int .i64 low_1,
    .int .i64 high_2] h (fun v h' => cut h.length h' E.sz false 9 v = some (.bool r)) := by
  refine Ret.of (fn := x44) rfl (Run.of ?_)
  unfold impl_in at hF
  have zf0 : argFr [.int .i64 n_0, .int .i64 low_1, .int .i64 high_2] 0 = .int .i64 n_0 := rfl
  have zf1 : argFr [.int .i64 n_0, .int .i64 low_1, .int .i64 high_2] 1 = .int .i64 low_1 := rfl
  have zf2 : argFr [.int .i64 n_0, .int .i64 low_1, .int .i64 high_2] 2 = .int .i64 high_2 := rfl
  generalize argFr [.int .i64 n_0, .int .i64 low_1, .int .i64 high_2] = fr0 at zf0 zf1 zf2 ⊢
  have hS : Sep h h.length [] := Sep.nil h
  simp only [x44, run_seq, run_reg, run_mv, run_ops_nil, x44_1, zf0, zf1, run_bin, put1_some, xgeq, put_at, put_no, ev_t, ev_c, reduceIte, Nat.reduceEqDiff, List.map_cons,
      List.map_nil]
  refine ops_j 4 (fun fr' h' => Sep h' h.length ([]) ∧ fr' 14 = .bool ((decide (low_1 ≤ n_0)) && (decide (n_0 ≤ high_2)))) (fun Q1 hN2 => ?_) ?_
  · simp only [List.take_succ_cons, List.take_zero]
    simp only [run_guard (g := 10), put_at, put_no, ev_t, ev_c, reduceIte, Nat.reduceEqDiff, List.map_cons, List.map_nil]
    refine guard_split (t := (decide (low_1 ≤ n_0))) (fun hg3 => ?_) (fun hg3 => ?_)
    · simp only [hg3, run_guard (g := 10), guard_true, zf0, run_mv, zf2, run_bin, put1_some, xleq, run_pick, xpick_t, run_ops_nil, run_nil, put_at, put_no, ev_t, ev_c, reduceIte,
        Nat.reduceEqDiff, List.map_cons, List.map_nil]
      exact hN2 _ _ ⟨hS, by rw [andT hg3]; simp only [put_at, put_no, ev_t, ev_c, reduceIte, Nat.reduceEqDiff, List.map_cons, List.map_nil]⟩
    · simp only [hg3, run_guard (g := 10), guard_off, run_pick, put1_some, xpick_f, run_ops_nil, run_nil, put_at, put_no, ev_t, ev_c, reduceIte, Nat.reduceEqDiff, List.map_cons,
        List.map_nil]
      exact hN2 _ _ ⟨hS, by rw [andF hg3]; simp only [put_at, put_no, ev_t, ev_c, reduceIte, Nat.reduceEqDiff, List.map_cons, List.map_nil]⟩
  · rintro fr4 h6 ⟨hS7, f5⟩
    simp only [List.drop_succ_cons, List.drop_zero]
    simp only [f5, run_mv, run_ops_nil, run_ret, put_at, put_no, ev_t, ev_c, reduceIte, Nat.reduceEqDiff, List.map_cons, List.map_nil]
    have he := some_inj hF
    subst he
    simp only [end_ret1, put_at, put_no, ev_t, ev_c, reduceIte, Nat.reduceEqDiff, List.map_cons, List.map_nil]
    exact rfl
theorem impl_areCalls_x {W : Nat → Bool} {h : Heap} (hW : ∀ b,
    h.length ≤ b → W b = true) (v_0 : List Call) (r : Bool) (hF : impl_areCalls v_0 = some r) : Ret E W 43 [lst Call.cells v_0] h
    (fun v h' => cut h.length h' E.sz false 9 v = some (.bool r)) := by
  refine Ret.of (fn := x43) rfl (Run.of ?_)
  unfold impl_areCalls at hF
  have zf0 : argFr [lst Call.cells v_0] 0 = lst Call.cells v_0 := rfl
  generalize argFr [lst Call.cells v_0] = fr0 at zf0 ⊢
  have hS : Sep h h.length [] := Sep.nil h
  simp only [x43, run_seq, run_reg, run_mv, run_ops_nil, x43_13, zf0, run_len, put1_some, xlen_lst, put_at, put_no, ev_t, ev_c, reduceIte, Nat.reduceEqDiff, List.map_cons,
      List.map_nil]
  obtain ⟨oc3, hX5, hk6⟩ := jn_some hF
  simp only [x43_11]
  refine rangeL_j (σ := Unit) v_0 (fun i1 x2 _ => impl_areCalls_b2 v_0 i1 x2 ) (fun s fr' h' => fr' 0 = lst Call.cells v_0 ∧ fr' 8 = lst Call.cells v_0 ∧ Sep h' h.length
      ([])) hX5 ⟨by simp only [zf0, put_at, put_no, ev_t, ev_c, reduceIte, Nat.reduceEqDiff, List.map_cons, List.map_nil], by simp only [put_at, put_no, ev_t, ev_c, reduceIte,
      Nat.reduceEqDiff, List.map_cons, List.map_nil], hS⟩ (by simp only [put_at, put_no, ev_t, ev_c, reduceIte, Nat.reduceEqDiff, List.map_cons,
      List.map_nil]) (by simp only [put_at, put_no, ev_t, ev_c, reduceIte, Nat.reduceEqDiff, List.map_cons,
      List.map_nil]) (fun _ _ _ h => h) rfl rfl (fun _ _ _ _ h => h) (fun _ _ _ _ h => h) (fun _ _ _ _ h => h) (by decide) ?_ ?_
  · rintro i1 x2 _ fr15 h16 hx20 ⟨f18, f19, hS17⟩ f21 f22 oc4 hF7 hr8 Q9 hN10 hB14 hK11 hR12 hE13
    unfold impl_areCalls_b2 at hF7
    simp only [x43_9, run_seq, run_reg, f21, run_mv, f19, run_ia, put_at, put_no, ev_t, ev_c, reduceIte, Nat.reduceEqDiff, List.map_cons, List.map_nil]
    refine put1_eq (v := .ref (Call.cells x2) 0) (xia_lstN hx20 rfl) ?_
    simp only [run_ld, put_at, put_no, ev_t, ev_c, reduceIte, Nat.reduceEqDiff, List.map_cons, List.map_nil]
    refine put1_eq (v := .agg [.int .i64 x2.Client, .int .i64 x2.Object, .bool x2.Write, .int .i64 x2.Value, .int .i64 x2.Begin, .int .i64 x2.End]) rfl ?_
    simp only [run_new, put_at, put_no, ev_t, ev_c, reduceIte, Nat.reduceEqDiff, List.map_cons, List.map_nil]
    refine put2_newC hS17 (fun b23 h24 hS25 => ?_)
    simp only [run_mv, run_st, put_at, put_no, ev_t, ev_c, reduceIte, Nat.reduceEqDiff, List.map_cons, List.map_nil]
    refine put2_stC (cs' := [.int .i64 x2.Client, .int .i64 x2.Object, .bool x2.Write, .int .i64 x2.Value, .int .i64 x2.Begin,
        .int .i64 x2.End]) hS25 hW rfl rfl (Nat.le_of_ble_eq_true rfl) rfl (fun h27 hS28 => ?_)
    simp only [put_no, run_ops_nil, put_at, ev_t, ev_c, reduceIte, Nat.reduceEqDiff, List.map_cons, List.map_nil]
    refine frz_stepC hS28 hW (by simp only [put_at, put_no, ev_t, ev_c, reduceIte, Nat.reduceEqDiff, List.map_cons, List.map_nil]) (fun h29 hS30 => ?_)
    simp only [run_frz_nil, x43_8, run_seq, run_reg, run_mv, run_ops_nil, x43_7, run_fa, put1_some, Nat.reduceAdd, Nat.zero_add, Nat.add_zero, xfa_ref, run_ld, put_at, put_no,
        ev_t, ev_c, reduceIte, Nat.reduceEqDiff, List.map_cons, List.map_nil]
    refine put1_eq (v := .bool x2.Write) rfl ?_
    simp only [run_ops_nil, run_cond, put_at, put_no, ev_t, ev_c, reduceIte, Nat.reduceEqDiff, List.map_cons, List.map_nil]
    obtain ⟨s31, hX33, hk34⟩ := bind_some' hF7
    refine cond_j (t := x2.Write) (fun fr' h' => fr' 0 = lst Call.cells v_0 ∧ fr' 3 = .int .i64 (i1 : Int) ∧ fr' 4 = .ref [.int .i64 x2.Client, .int .i64 x2.Object,
        .bool x2.Write, .int .i64 x2.Value, .int .i64 x2.Begin,
        .int .i64 x2.End] 0 ∧ fr' 5 = .int .i64 s31 ∧ fr' 8 = lst Call.cells v_0 ∧ fr' 9 = .int .i64 (List.length v_0 : Int) ∧ fr' 10 = .int .i64 (i1 : Int) ∧ Sep h' h.length
        ([])) (fun Q35 hN36 hR37 hE38 => ⟨fun hc39 => ?_, fun hc39 => ?_⟩) ?_
    · rw [iteT hc39] at hX33
      simp only [run_reg, run_mv, run_ops_nil, run_nil, put_at, put_no, ev_t, ev_c, reduceIte, Nat.reduceEqDiff, List.map_cons, List.map_nil]
      have e40 := some_inj hX33
      subst e40
      exact hN36 _ _ ⟨by simp only [f18, put_at, put_no, ev_t, ev_c, reduceIte, Nat.reduceEqDiff, List.map_cons, List.map_nil], by simp only [put_at, put_no, ev_t, ev_c,
          reduceIte, Nat.reduceEqDiff, List.map_cons, List.map_nil], by simp only [put_at, put_no, ev_t, ev_c, reduceIte, Nat.reduceEqDiff, List.map_cons, List.map_nil],
          by simp only [put_at, put_no, ev_t, ev_c, reduceIte, Nat.reduceEqDiff, List.map_cons, List.map_nil], by simp only [f19, put_at, put_no, ev_t, ev_c, reduceIte,
          Nat.reduceEqDiff, List.map_cons, List.map_nil], by simp only [f22, put_at, put_no, ev_t, ev_c, reduceIte, Nat.reduceEqDiff, List.map_cons, List.map_nil],
          by simp only [f21, put_at, put_no, ev_t, ev_c, reduceIte, Nat.reduceEqDiff, List.map_cons, List.map_nil], hS30⟩
    · rw [iteF hc39] at hX33
      simp only [run_skip, run_nil, put_at, put_no, ev_t, ev_c, reduceIte, Nat.reduceEqDiff, List.map_cons, List.map_nil]
      have e41 := some_inj hX33
      subst e41
      exact hN36 _ _ ⟨by simp only [f18, put_at, put_no, ev_t, ev_c, reduceIte, Nat.reduceEqDiff, List.map_cons, List.map_nil], by simp only [put_at, put_no, ev_t, ev_c,
          reduceIte, Nat.reduceEqDiff, List.map_cons, List.map_nil], by simp only [put_at, put_no, ev_t, ev_c, reduceIte, Nat.reduceEqDiff, List.map_cons, List.map_nil],
          by simp only [put_at, put_no, ev_t, ev_c, reduceIte, Nat.reduceEqDiff, List.map_cons, List.map_nil], by simp only [f19, put_at, put_no, ev_t, ev_c, reduceIte,
          Nat.reduceEqDiff, List.map_cons, List.map_nil], by simp only [f22, put_at, put_no, ev_t, ev_c, reduceIte, Nat.reduceEqDiff, List.map_cons, List.map_nil],
          by simp only [f21, put_at, put_no, ev_t, ev_c, reduceIte, Nat.reduceEqDiff, List.map_cons, List.map_nil], hS30⟩
    · rintro fr42 h43 ⟨f45, f46, f47, f48, f49, f50, f51, hS44⟩
      unfold impl_areCalls_j1 at hk34
      simp only [x43_6, run_seq, run_reg, f47, run_fa, put1_some, Nat.reduceAdd, Nat.zero_add, Nat.add_zero, xfa_ref, run_ld, put_at, put_no, ev_t, ev_c, reduceIte,
          Nat.reduceEqDiff, List.map_cons, List.map_nil]
      refine put1_eq (v := .int .i64 x2.Client) rfl ?_
      simp only [run_call, put_at, put_no, ev_t, ev_c, reduceIte, Nat.reduceEqDiff, List.map_cons, List.map_nil]
      refine call1 rfl (mapM1 snap_int (mapM1 snap_int (mapM1 snap_int mapM0))) (impl_in_x (fun b hb => decide_eq_true hb) x2.Client 0 3 _ rfl) ?_
      simp only [run_un, put1_some, xnot, run_mv, put_at, put_no, ev_t, ev_c, reduceIte, Nat.reduceEqDiff, List.map_cons, List.map_nil]
      refine ops_j 5 (fun fr' h' => Sep h' h.length ([]) ∧ fr' 26 = .bool ((!(impl_in x2.Client 0 3)) ||
          (!(impl_in x2.Object 0 2))) ∧ fr' 0 = lst Call.cells v_0 ∧ fr' 3 = .int .i64 (i1 : Int) ∧ fr' 4 = .ref [.int .i64 x2.Client, .int .i64 x2.Object, .bool x2.Write,
          .int .i64 x2.Value, .int .i64 x2.Begin,
          .int .i64 x2.End] 0 ∧ fr' 5 = .int .i64 s31 ∧ fr' 8 = lst Call.cells v_0 ∧ fr' 9 = .int .i64 (List.length v_0 : Int) ∧ fr' 10 = .int .i64 (i1 : Int))
          (fun Q52 hN53 => ?_) ?_
      · simp only [List.take_succ_cons, List.take_zero]
        simp only [run_guard (g := 21), put_at, put_no, ev_t, ev_c, reduceIte, Nat.reduceEqDiff, List.map_cons, List.map_nil]
        refine guard_split (t := (!(impl_in x2.Client 0 3))) (fun hg54 => ?_) (fun hg54 => ?_)
        · simp only [hg54, run_guard (g := 21), guard_off', run_pick, put1_some, xpick_t, run_ops_nil, run_nil, put_at, put_no, ev_t, ev_c, reduceIte, Nat.reduceEqDiff,
            List.map_cons, List.map_nil]
          exact hN53 _ _ ⟨hS44, by rw [orT hg54]; simp only [put_at, put_no, ev_t, ev_c, reduceIte, Nat.reduceEqDiff, List.map_cons, List.map_nil], by simp only [f45, put_at,
              put_no, ev_t, ev_c, reduceIte, Nat.reduceEqDiff, List.map_cons, List.map_nil], by simp only [f46, put_at, put_no, ev_t, ev_c, reduceIte, Nat.reduceEqDiff,
              List.map_cons, List.map_nil], by simp only [f47, put_at, put_no, ev_t, ev_c, reduceIte, Nat.reduceEqDiff, List.map_cons, List.map_nil], by simp only [f48, put_at,
              put_no, ev_t, ev_c, reduceIte, Nat.reduceEqDiff, List.map_cons, List.map_nil], by simp only [f49, put_at, put_no, ev_t, ev_c, reduceIte, Nat.reduceEqDiff,
              List.map_cons, List.map_nil], by simp only [f50, put_at, put_no, ev_t, ev_c, reduceIte, Nat.reduceEqDiff, List.map_cons, List.map_nil], by simp only [f51, put_at,
              put_no, ev_t, ev_c, reduceIte, Nat.reduceEqDiff, List.map_cons, List.map_nil]⟩
        · simp only [hg54, run_guard (g := 21), guard_false, f47, run_fa, put1_some, Nat.reduceAdd, Nat.zero_add, Nat.add_zero, xfa_ref, run_ld, put_at, put_no, ev_t, ev_c,
            reduceIte, Nat.reduceEqDiff, List.map_cons, List.map_nil]
          refine put1_eq (v := .int .i64 x2.Object) rfl ?_
          simp only [hg54, run_guard (g := 21), guard_false, run_call, put_at, put_no, ev_t, ev_c, reduceIte, Nat.reduceEqDiff, List.map_cons, List.map_nil]
          refine call1 rfl (mapM1 snap_int (mapM1 snap_int (mapM1 snap_int mapM0))) (impl_in_x (fun b hb => decide_eq_true hb) x2.Object 0 2 _ rfl) ?_
          simp only [hg54, run_guard (g := 21), guard_false, run_un, put1_some, xnot, run_pick, xpick_f, run_ops_nil, run_nil, put_at, put_no, ev_t, ev_c, reduceIte,
              Nat.reduceEqDiff, List.map_cons, List.map_nil]
          exact hN53 _ _ ⟨hS44, by rw [orF hg54]; simp only [put_at, put_no, ev_t, ev_c, reduceIte, Nat.reduceEqDiff, List.map_cons, List.map_nil], by simp only [f45, put_at,
              put_no, ev_t, ev_c, reduceIte, Nat.reduceEqDiff, List.map_cons, List.map_nil], by simp only [f46, put_at, put_no, ev_t, ev_c, reduceIte, Nat.reduceEqDiff,
              List.map_cons, List.map_nil], by simp only [f47, put_at, put_no, ev_t, ev_c, reduceIte, Nat.reduceEqDiff, List.map_cons, List.map_nil], by simp only [f48, put_at,
              put_no, ev_t, ev_c, reduceIte, Nat.reduceEqDiff, List.map_cons, List.map_nil], by simp only [f49, put_at, put_no, ev_t, ev_c, reduceIte, Nat.reduceEqDiff,
              List.map_cons, List.map_nil], by simp only [f50, put_at, put_no, ev_t, ev_c, reduceIte, Nat.reduceEqDiff, List.map_cons, List.map_nil], by simp only [f51, put_at,
              put_no, ev_t, ev_c, reduceIte, Nat.reduceEqDiff, List.map_cons, List.map_nil]⟩
      · rintro fr55 h64 ⟨hS65, f56, f57, f58, f59, f60, f61, f62, f63⟩
        simp only [List.drop_succ_cons, List.drop_zero]
        simp only [f56, run_mv, put_at, put_no, ev_t, ev_c, reduceIte, Nat.reduceEqDiff, List.map_cons, List.map_nil]
        refine ops_j 6 (fun fr' h' => Sep h' h.length ([]) ∧ fr' 33 = .bool (((!(impl_in x2.Client 0 3)) || (!(impl_in x2.Object 0 2))) ||
            (!(impl_in x2.Value s31 9))) ∧ fr' 0 = lst Call.cells v_0 ∧ fr' 3 = .int .i64 (i1 : Int) ∧ fr' 4 = .ref [.int .i64 x2.Client, .int .i64 x2.Object, .bool x2.Write,
            .int .i64 x2.Value, .int .i64 x2.Begin,
            .int .i64 x2.End] 0 ∧ fr' 8 = lst Call.cells v_0 ∧ fr' 9 = .int .i64 (List.length v_0 : Int) ∧ fr' 10 = .int .i64 (i1 : Int)) (fun Q66 hN67 => ?_) ?_
        · simp only [List.take_succ_cons, List.take_zero]
          simp only [run_guard (g := 27), put_at, put_no, ev_t, ev_c, reduceIte, Nat.reduceEqDiff, List.map_cons, List.map_nil]
          refine guard_split (t := ((!(impl_in x2.Client 0 3)) || (!(impl_in x2.Object 0 2)))) (fun hg68 => ?_) (fun hg68 => ?_)
          · simp only [hg68, run_guard (g := 27), guard_off', run_pick, put1_some, xpick_t, run_ops_nil, run_nil, put_at, put_no, ev_t, ev_c, reduceIte, Nat.reduceEqDiff,
              List.map_cons, List.map_nil]
            exact hN67 _ _ ⟨hS65, by rw [orT hg68]; simp only [put_at, put_no, ev_t, ev_c, reduceIte, Nat.reduceEqDiff, List.map_cons, List.map_nil], by simp only [f57, put_at,
                put_no, ev_t, ev_c, reduceIte, Nat.reduceEqDiff, List.map_cons, List.map_nil], by simp only [f58, put_at, put_no, ev_t, ev_c, reduceIte, Nat.reduceEqDiff,
                List.map_cons, List.map_nil], by simp only [f59, put_at, put_no, ev_t, ev_c, reduceIte, Nat.reduceEqDiff, List.map_cons, List.map_nil], by simp only [f61, put_at,
                put_no, ev_t, ev_c, reduceIte, Nat.reduceEqDiff, List.map_cons, List.map_nil], by simp only [f62, put_at, put_no, ev_t, ev_c, reduceIte, Nat.reduceEqDiff,
                List.map_cons, List.map_nil], by simp only [f63, put_at, put_no, ev_t, ev_c, reduceIte, Nat.reduceEqDiff, List.map_cons, List.map_nil]⟩
          · simp only [hg68, run_guard (g := 27), guard_false, f59, run_fa, put1_some, Nat.reduceAdd, Nat.zero_add, Nat.add_zero, xfa_ref, run_ld, put_at, put_no, ev_t, ev_c,
              reduceIte, Nat.reduceEqDiff, List.map_cons, List.map_nil]
            refine put1_eq (v := .int .i64 x2.Value) rfl ?_
            simp only [hg68, run_guard (g := 27), guard_false, f60, run_mv, run_call, put_at, put_no, ev_t, ev_c, reduceIte, Nat.reduceEqDiff, List.map_cons, List.map_nil]
            refine call1 rfl (mapM1 snap_int (mapM1 snap_int (mapM1 snap_int mapM0))) (impl_in_x (fun b hb => decide_eq_true hb) x2.Value s31 9 _ rfl) ?_
            simp only [hg68, run_guard (g := 27), guard_false, run_un, put1_some, xnot, run_pick, xpick_f, run_ops_nil, run_nil, put_at, put_no, ev_t, ev_c, reduceIte,
                Nat.reduceEqDiff, List.map_cons, List.map_nil]
            exact hN67 _ _ ⟨hS65, by rw [orF hg68]; simp only [put_at, put_no, ev_t, ev_c, reduceIte, Nat.reduceEqDiff, List.map_cons, List.map_nil], by simp only [f57, put_at,
                put_no, ev_t, ev_c, reduceIte, Nat.reduceEqDiff, List.map_cons, List.map_nil], by simp only [f58, put_at, put_no, ev_t, ev_c, reduceIte, Nat.reduceEqDiff,
                List.map_cons, List.map_nil], by simp only [f59, put_at, put_no, ev_t, ev_c, reduceIte, Nat.reduceEqDiff, List.map_cons, List.map_nil], by simp only [f61, put_at,
                put_no, ev_t, ev_c, reduceIte, Nat.reduceEqDiff, List.map_cons, List.map_nil], by simp only [f62, put_at, put_no, ev_t, ev_c, reduceIte, Nat.reduceEqDiff,
                List.map_cons, List.map_nil], by simp only [f63, put_at, put_no, ev_t, ev_c, reduceIte, Nat.reduceEqDiff, List.map_cons, List.map_nil]⟩
        · rintro fr69 h77 ⟨hS78, f70, f71, f72, f73, f74, f75, f76⟩
          simp only [List.drop_succ_cons, List.drop_zero]
          simp only [f70, run_mv, put_at, put_no, ev_t, ev_c, reduceIte, Nat.reduceEqDiff, List.map_cons, List.map_nil]
          refine ops_j 5 (fun fr' h' => Sep h' h.length ([]) ∧ fr' 39 = .bool ((((!(impl_in x2.Client 0 3)) || (!(impl_in x2.Object 0 2))) || (!(impl_in x2.Value s31 9))) ||
              (!(impl_in x2.Begin 0 100))) ∧ fr' 0 = lst Call.cells v_0 ∧ fr' 3 = .int .i64 (i1 : Int) ∧ fr' 4 = .ref [.int .i64 x2.Client, .int .i64 x2.Object, .bool x2.Write,
              .int .i64 x2.Value, .int .i64 x2.Begin,
              .int .i64 x2.End] 0 ∧ fr' 8 = lst Call.cells v_0 ∧ fr' 9 = .int .i64 (List.length v_0 : Int) ∧ fr' 10 = .int .i64 (i1 : Int)) (fun Q79 hN80 => ?_) ?_
          · simp only [List.take_succ_cons, List.take_zero]
            simp only [run_guard (g := 34), put_at, put_no, ev_t, ev_c, reduceIte, Nat.reduceEqDiff, List.map_cons, List.map_nil]
            refine guard_split (t := (((!(impl_in x2.Client 0 3)) || (!(impl_in x2.Object 0 2))) || (!(impl_in x2.Value s31 9)))) (fun hg81 => ?_) (fun hg81 => ?_)
            · simp only [hg81, run_guard (g := 34), guard_off', run_pick, put1_some, xpick_t, run_ops_nil, run_nil, put_at, put_no, ev_t, ev_c, reduceIte, Nat.reduceEqDiff,
                List.map_cons, List.map_nil]
              exact hN80 _ _ ⟨hS78, by rw [orT hg81]; simp only [put_at, put_no, ev_t, ev_c, reduceIte, Nat.reduceEqDiff, List.map_cons, List.map_nil], by simp only [f71, put_at,
                  put_no, ev_t, ev_c, reduceIte, Nat.reduceEqDiff, List.map_cons, List.map_nil], by simp only [f72, put_at, put_no, ev_t, ev_c, reduceIte, Nat.reduceEqDiff,
                  List.map_cons, List.map_nil], by simp only [f73, put_at, put_no, ev_t, ev_c, reduceIte, Nat.reduceEqDiff, List.map_cons, List.map_nil], by simp only [f74,
                  put_at, put_no, ev_t, ev_c, reduceIte, Nat.reduceEqDiff, List.map_cons, List.map_nil], by simp only [f75, put_at, put_no, ev_t, ev_c, reduceIte,
                  Nat.reduceEqDiff, List.map_cons, List.map_nil], by simp only [f76, put_at, put_no, ev_t, ev_c, reduceIte, Nat.reduceEqDiff, List.map_cons, List.map_nil]⟩
            · simp only [hg81, run_guard (g := 34), guard_false, f73, run_fa, put1_some, Nat.reduceAdd, Nat.zero_add, Nat.add_zero, xfa_ref, run_ld, put_at, put_no, ev_t, ev_c,
                reduceIte, Nat.reduceEqDiff, List.map_cons, List.map_nil]
              refine put1_eq (v := .int .i64 x2.Begin) rfl ?_
              simp only [hg81, run_guard (g := 34), guard_false, run_call, put_at, put_no, ev_t, ev_c, reduceIte, Nat.reduceEqDiff, List.map_cons, List.map_nil]
              refine call1 rfl (mapM1 snap_int (mapM1 snap_int (mapM1 snap_int mapM0))) (impl_in_x (fun b hb => decide_eq_true hb) x2.Begin 0 100 _ rfl) ?_
              simp only [hg81, run_guard (g := 34), guard_false, run_un, put1_some, xnot, run_pick, xpick_f, run_ops_nil, run_nil, put_at, put_no, ev_t, ev_c, reduceIte,
                  Nat.reduceEqDiff, List.map_cons, List.map_nil]
              exact hN80 _ _ ⟨hS78, by rw [orF hg81]; simp only [put_at, put_no, ev_t, ev_c, reduceIte, Nat.reduceEqDiff, List.map_cons, List.map_nil], by simp only [f71, put_at,
                  put_no, ev_t, ev_c, reduceIte, Nat.reduceEqDiff, List.map_cons, List.map_nil], by simp only [f72, put_at, put_no, ev_t, ev_c, reduceIte, Nat.reduceEqDiff,
                  List.map_cons, List.map_nil], by simp only [f73, put_at, put_no, ev_t, ev_c, reduceIte, Nat.reduceEqDiff, List.map_cons, List.map_nil], by simp only [f74,
                  put_at, put_no, ev_t, ev_c, reduceIte, Nat.reduceEqDiff, List.map_cons, List.map_nil], by simp only [f75, put_at, put_no, ev_t, ev_c, reduceIte,
                  Nat.reduceEqDiff, List.map_cons, List.map_nil], by simp only [f76, put_at, put_no, ev_t, ev_c, reduceIte, Nat.reduceEqDiff, List.map_cons, List.map_nil]⟩
          · rintro fr82 h90 ⟨hS91, f83, f84, f85, f86, f87, f88, f89⟩
            simp only [List.drop_succ_cons, List.drop_zero]
            simp only [f83, run_mv, put_at, put_no, ev_t, ev_c, reduceIte, Nat.reduceEqDiff, List.map_cons, List.map_nil]
            refine ops_j 5 (fun fr' h' => Sep h' h.length ([]) ∧ fr' 45 = .bool (((((!(impl_in x2.Client 0 3)) || (!(impl_in x2.Object 0 2))) || (!(impl_in x2.Value s31 9))) ||
                (!(impl_in x2.Begin 0 100))) || (!(impl_in x2.End 0 100))) ∧ fr' 0 = lst Call.cells v_0 ∧ fr' 3 = .int .i64 (i1 : Int) ∧ fr' 4 = .ref [.int .i64 x2.Client,
                .int .i64 x2.Object, .bool x2.Write, .int .i64 x2.Value, .int .i64 x2.Begin,
                .int .i64 x2.End] 0 ∧ fr' 8 = lst Call.cells v_0 ∧ fr' 9 = .int .i64 (List.length v_0 : Int) ∧ fr' 10 = .int .i64 (i1 : Int)) (fun Q92 hN93 => ?_) ?_
            · simp only [List.take_succ_cons, List.take_zero]
              simp only [run_guard (g := 40), put_at, put_no, ev_t, ev_c, reduceIte, Nat.reduceEqDiff, List.map_cons, List.map_nil]
              refine guard_split (t := ((((!(impl_in x2.Client 0 3)) || (!(impl_in x2.Object 0 2))) || (!(impl_in x2.Value s31 9))) || (!(impl_in x2.Begin 0 100))))
                  (fun hg94 => ?_) (fun hg94 => ?_)
              · simp only [hg94, run_guard (g := 40), guard_off', run_pick, put1_some, xpick_t, run_ops_nil, run_nil, put_at, put_no, ev_t, ev_c, reduceIte, Nat.reduceEqDiff,
                  List.map_cons, List.map_nil]
                exact hN93 _ _ ⟨hS91, by rw [orT hg94]; simp only [put_at, put_no, ev_t, ev_c, reduceIte, Nat.reduceEqDiff, List.map_cons, List.map_nil], by simp only [f84,
                    put_at, put_no, ev_t, ev_c, reduceIte, Nat.reduceEqDiff, List.map_cons, List.map_nil], by simp only [f85, put_at, put_no, ev_t, ev_c, reduceIte,
                    Nat.reduceEqDiff, List.map_cons, List.map_nil], by simp only [f86, put_at, put_no, ev_t, ev_c, reduceIte, Nat.reduceEqDiff, List.map_cons, List.map_nil],
                    by simp only [f87, put_at, put_no, ev_t, ev_c, reduceIte, Nat.reduceEqDiff, List.map_cons, List.map_nil], by simp only [f88, put_at, put_no, ev_t, ev_c,
                    reduceIte, Nat.reduceEqDiff, List.map_cons, List.map_nil], by simp only [f89, put_at, put_no, ev_t, ev_c, reduceIte, Nat.reduceEqDiff, List.map_cons,
                    List.map_nil]⟩
              · simp only [hg94, run_guard (g := 40), guard_false, f86, run_fa, put1_some, Nat.reduceAdd, Nat.zero_add, Nat.add_zero, xfa_ref, run_ld, put_at, put_no, ev_t, ev_c,
                  reduceIte, Nat.reduceEqDiff, List.map_cons, List.map_nil]
                refine put1_eq (v := .int .i64 x2.End) rfl ?_
                simp only [hg94, run_guard (g := 40), guard_false, run_call, put_at, put_no, ev_t, ev_c, reduceIte, Nat.reduceEqDiff, List.map_cons, List.map_nil]
                refine call1 rfl (mapM1 snap_int (mapM1 snap_int (mapM1 snap_int mapM0))) (impl_in_x (fun b hb => decide_eq_true hb) x2.End 0 100 _ rfl) ?_
                simp only [hg94, run_guard (g := 40), guard_false, run_un, put1_some, xnot, run_pick, xpick_f, run_ops_nil, run_nil, put_at, put_no, ev_t, ev_c, reduceIte,
                    Nat.reduceEqDiff, List.map_cons, List.map_nil]
                exact hN93 _ _ ⟨hS91, by rw [orF hg94]; simp only [put_at, put_no, ev_t, ev_c, reduceIte, Nat.reduceEqDiff, List.map_cons, List.map_nil], by simp only [f84,
                    put_at, put_no, ev_t, ev_c, reduceIte, Nat.reduceEqDiff, List.map_cons, List.map_nil], by simp only [f85, put_at, put_no, ev_t, ev_c, reduceIte,
                    Nat.reduceEqDiff, List.map_cons, List.map_nil], by simp only [f86, put_at, put_no, ev_t, ev_c, reduceIte, Nat.reduceEqDiff, List.map_cons, List.map_nil],
                    by simp only [f87, put_at, put_no, ev_t, ev_c, reduceIte, Nat.reduceEqDiff, List.map_cons, List.map_nil], by simp only [f88, put_at, put_no, ev_t, ev_c,
                    reduceIte, Nat.reduceEqDiff, List.map_cons, List.map_nil], by simp only [f89, put_at, put_no, ev_t, ev_c, reduceIte, Nat.reduceEqDiff, List.map_cons,
                    List.map_nil]⟩
            · rintro fr95 h103 ⟨hS104, f96, f97, f98, f99, f100, f101, f102⟩
              simp only [List.drop_succ_cons, List.drop_zero]
              simp only [f96, run_mv, put_at, put_no, ev_t, ev_c, reduceIte, Nat.reduceEqDiff, List.map_cons, List.map_nil]
              refine ops_j 6 (fun fr' h' => Sep h' h.length ([]) ∧ fr' 52 = .bool ((((((!(impl_in x2.Client 0 3)) || (!(impl_in x2.Object 0 2))) ||
                  (!(impl_in x2.Value s31 9))) || (!(impl_in x2.Begin 0 100))) || (!(impl_in x2.End 0 100))) || (decide
                  (x2.End ≤ x2.Begin))) ∧ fr' 0 = lst Call.cells v_0 ∧ fr' 3 = .int .i64 (i1 : Int) ∧ fr' 4 = .ref [.int .i64 x2.Client, .int .i64 x2.Object, .bool x2.Write,
                  .int .i64 x2.Value, .int .i64 x2.Begin,
                  .int .i64 x2.End] 0 ∧ fr' 8 = lst Call.cells v_0 ∧ fr' 9 = .int .i64 (List.length v_0 : Int) ∧ fr' 10 = .int .i64 (i1 : Int)) (fun Q105 hN106 => ?_) ?_
              · simp only [List.take_succ_cons, List.take_zero]
                simp only [run_guard (g := 46), put_at, put_no, ev_t, ev_c, reduceIte, Nat.reduceEqDiff, List.map_cons, List.map_nil]
                refine guard_split (t := (((((!(impl_in x2.Client 0 3)) || (!(impl_in x2.Object 0 2))) || (!(impl_in x2.Value s31 9))) || (!(impl_in x2.Begin 0 100))) ||
                    (!(impl_in x2.End 0 100)))) (fun hg107 => ?_) (fun hg107 => ?_)
                · simp only [hg107, run_guard (g := 46), guard_off', run_pick, put1_some, xpick_t, run_ops_nil, run_nil, put_at, put_no, ev_t, ev_c, reduceIte, Nat.reduceEqDiff,
                    List.map_cons, List.map_nil]
                  exact hN106 _ _ ⟨hS104, by rw [orT hg107]; simp only [put_at, put_no, ev_t, ev_c, reduceIte, Nat.reduceEqDiff, List.map_cons, List.map_nil], by simp only [f97,
                      put_at, put_no, ev_t, ev_c, reduceIte, Nat.reduceEqDiff, List.map_cons, List.map_nil], by simp only [f98, put_at, put_no, ev_t, ev_c, reduceIte,
                      Nat.reduceEqDiff, List.map_cons, List.map_nil], by simp only [f99, put_at, put_no, ev_t, ev_c, reduceIte, Nat.reduceEqDiff, List.map_cons, List.map_nil],
                      by simp only [f100, put_at, put_no, ev_t, ev_c, reduceIte, Nat.reduceEqDiff, List.map_cons, List.map_nil], by simp only [f101, put_at, put_no, ev_t, ev_c,
                      reduceIte, Nat.reduceEqDiff, List.map_cons, List.map_nil], by simp only [f102, put_at, put_no, ev_t, ev_c, reduceIte, Nat.reduceEqDiff, List.map_cons,
                      List.map_nil]⟩
                · simp only [hg107, run_guard (g := 46), guard_false, f99, run_fa, put1_some, Nat.reduceAdd, Nat.zero_add, Nat.add_zero, xfa_ref, run_ld, put_at, put_no, ev_t,
                    ev_c, reduceIte, Nat.reduceEqDiff, List.map_cons, List.map_nil]
                  refine put1_eq (v := .int .i64 x2.Begin) rfl ?_
                  simp only [hg107, run_guard (g := 46), guard_false, f99, run_fa, put1_some, Nat.reduceAdd, Nat.zero_add, Nat.add_zero, xfa_ref, run_ld, put_at, put_no, ev_t,
                      ev_c, reduceIte, Nat.reduceEqDiff, List.map_cons, List.map_nil]
                  refine put1_eq (v := .int .i64 x2.End) rfl ?_
                  simp only [hg107, run_guard (g := 46), guard_false, run_bin, put1_some, xgeq, run_pick, xpick_f, run_ops_nil, run_nil, put_at, put_no, ev_t, ev_c, reduceIte,
                      Nat.reduceEqDiff, List.map_cons, List.map_nil]
                  exact hN106 _ _ ⟨hS104, by rw [orF hg107]; simp only [put_at, put_no, ev_t, ev_c, reduceIte, Nat.reduceEqDiff, List.map_cons, List.map_nil], by simp only [f97,
                      put_at, put_no, ev_t, ev_c, reduceIte, Nat.reduceEqDiff, List.map_cons, List.map_nil], by simp only [f98, put_at, put_no, ev_t, ev_c, reduceIte,
                      Nat.reduceEqDiff, List.map_cons, List.map_nil], by simp only [f99, put_at, put_no, ev_t, ev_c, reduceIte, Nat.reduceEqDiff, List.map_cons, List.map_nil],
                      by simp only [f100, put_at, put_no, ev_t, ev_c, reduceIte, Nat.reduceEqDiff, List.map_cons, List.map_nil], by simp only [f101, put_at, put_no, ev_t, ev_c,
                      reduceIte, Nat.reduceEqDiff, List.map_cons, List.map_nil], by simp only [f102, put_at, put_no, ev_t, ev_c, reduceIte, Nat.reduceEqDiff, List.map_cons,
                      List.map_nil]⟩
              · rintro fr108 h116 ⟨hS117, f109, f110, f111, f112, f113, f114, f115⟩
                simp only [List.drop_succ_cons, List.drop_zero]
                simp only [run_ops_nil, f109, run_cond, put_at, put_no, ev_t, ev_c, reduceIte, Nat.reduceEqDiff, List.map_cons, List.map_nil]
                refine cond_split (t := ((((((!(impl_in x2.Client 0 3)) || (!(impl_in x2.Object 0 2))) || (!(impl_in x2.Value s31 9))) || (!(impl_in x2.Begin 0 100))) ||
                    (!(impl_in x2.End 0 100))) || (decide (x2.End ≤ x2.Begin)))) (fun hc118 => ?_) (fun hc118 => ?_)
                · rw [iteT hc118] at hk34
                  simp only [run_seq, run_reg, run_mv, run_ops_nil, run_ret, put_at, put_no, ev_t, ev_c, reduceIte, Nat.reduceEqDiff, List.map_cons, List.map_nil]
                  have e119 := some_inj hk34
                  subst e119
                  have ho120 := hr8 _ rfl
                  have hk121 := hk6
                  rw [ho120] at hk121
                  dsimp only [jnO] at hk121
                  apply hR12
                  have he := some_inj hk121
                  subst he
                  simp only [end_ret1, put_at, put_no, ev_t, ev_c, reduceIte, Nat.reduceEqDiff, List.map_cons, List.map_nil]
                  exact rfl
                · rw [iteF hc118] at hk34
                  obtain ⟨l122, hx123, hF124⟩ := bind_some' hk34
                  simp only [run_skip, x43_5, run_seq, run_reg, f110, run_mv, f111, run_slc, Option.map_some, Option.map_none, put_at, put_no, ev_t, ev_c, reduceIte,
                      Nat.reduceEqDiff, List.map_cons, List.map_nil]
                  refine put1_eq (pslc_lst_hi hx123 (fun _ => rfl)) ?_
                  simp only [run_len, put1_some, xlen_lst, run_mv, run_ops_nil, put_at, put_no, ev_t, ev_c, reduceIte, Nat.reduceEqDiff, List.map_cons, List.map_nil]
                  obtain ⟨oc127, hX129, hk130⟩ := jn_some hF124
                  simp only [x43_4]
                  refine rangeL_j (σ := Unit) l122 (fun i125 x126 _ => impl_areCalls_b1 x2 i125 x126 )
                      (fun s fr' h' => fr' 0 = lst Call.cells v_0 ∧ fr' 4 = .ref [.int .i64 x2.Client, .int .i64 x2.Object, .bool x2.Write, .int .i64 x2.Value, .int .i64 x2.Begin,
                      .int .i64 x2.End] 0 ∧ fr' 8 = lst Call.cells v_0 ∧ fr' 9 = .int .i64 (List.length v_0 : Int) ∧ fr' 10 = .int .i64
                      (i1 : Int) ∧ fr' 55 = lst Call.cells l122 ∧ Sep h' h.length ([])) hX129 ⟨by simp only [f110, put_at, put_no, ev_t, ev_c, reduceIte, Nat.reduceEqDiff,
                      List.map_cons, List.map_nil], by simp only [f112, put_at, put_no, ev_t, ev_c, reduceIte, Nat.reduceEqDiff, List.map_cons, List.map_nil], by simp only [f113,
                      put_at, put_no, ev_t, ev_c, reduceIte, Nat.reduceEqDiff, List.map_cons, List.map_nil], by simp only [f114, put_at, put_no, ev_t, ev_c, reduceIte,
                      Nat.reduceEqDiff, List.map_cons, List.map_nil], by simp only [f115, put_at, put_no, ev_t, ev_c, reduceIte, Nat.reduceEqDiff, List.map_cons, List.map_nil],
                      by simp only [put_at, put_no, ev_t, ev_c, reduceIte, Nat.reduceEqDiff, List.map_cons, List.map_nil], hS117⟩ (by simp only [put_at, put_no, ev_t, ev_c,
                      reduceIte, Nat.reduceEqDiff, List.map_cons, List.map_nil]) (by simp only [put_at, put_no, ev_t, ev_c, reduceIte, Nat.reduceEqDiff, List.map_cons,
                      List.map_nil]) (fun _ _ _ h => h) rfl rfl (fun _ _ _ _ h => h) (fun _ _ _ _ h => h) (fun _ _ _ _ h => h) (by decide) ?_ ?_
                  · rintro i125 x126 _ fr139 h140 hx148 ⟨f142, f143, f144, f145, f146, f147, hS141⟩ f149 f150 oc128 hF131 hr132 Q133 hN134 hB138 hK135 hR136 hE137
                    unfold impl_areCalls_b1 at hF131
                    simp only [x43_2, run_seq, run_reg, f147, f149, run_ia, put_at, put_no, ev_t, ev_c, reduceIte, Nat.reduceEqDiff, List.map_cons, List.map_nil]
                    refine put1_eq (v := .ref (Call.cells x126) 0) (xia_lstN hx148 rfl) ?_
                    simp only [run_ld, put_at, put_no, ev_t, ev_c, reduceIte, Nat.reduceEqDiff, List.map_cons, List.map_nil]
                    refine put1_eq (v := .agg [.int .i64 x126.Client, .int .i64 x126.Object, .bool x126.Write, .int .i64 x126.Value, .int .i64 x126.Begin,
                        .int .i64 x126.End]) rfl ?_
                    simp only [run_new, put_at, put_no, ev_t, ev_c, reduceIte, Nat.reduceEqDiff, List.map_cons, List.map_nil]
                    refine put2_newC hS141 (fun b151 h152 hS153 => ?_)
                    simp only [run_st, put_at, put_no, ev_t, ev_c, reduceIte, Nat.reduceEqDiff, List.map_cons, List.map_nil]
                    refine put2_stC (cs' := [.int .i64 x126.Client, .int .i64 x126.Object, .bool x126.Write, .int .i64 x126.Value, .int .i64 x126.Begin,
                        .int .i64 x126.End]) hS153 hW rfl rfl (Nat.le_of_ble_eq_true rfl) rfl (fun h155 hS156 => ?_)
                    simp only [put_no, run_ops_nil, put_at, ev_t, ev_c, reduceIte, Nat.reduceEqDiff, List.map_cons, List.map_nil]
                    refine frz_stepC hS156 hW (by simp only [put_at, put_no, ev_t, ev_c, reduceIte, Nat.reduceEqDiff, List.map_cons, List.map_nil]) (fun h157 hS158 => ?_)
                    simp only [run_frz_nil, x43_1, run_seq, run_reg, f143, run_fa, put1_some, Nat.reduceAdd, Nat.zero_add, Nat.add_zero, xfa_ref, run_ld, put_at, put_no, ev_t,
                        ev_c, reduceIte, Nat.reduceEqDiff, List.map_cons, List.map_nil]
                    refine put1_eq (v := .int .i64 x2.Client) rfl ?_
                    simp only [run_fa, put1_some, Nat.reduceAdd, Nat.zero_add, Nat.add_zero, xfa_ref, run_ld, put_at, put_no, ev_t, ev_c, reduceIte, Nat.reduceEqDiff,
                        List.map_cons, List.map_nil]
                    refine put1_eq (v := .int .i64 x126.Client) rfl ?_
                    simp only [run_bin, put1_some, xeql, run_mv, put_at, put_no, ev_t, ev_c, reduceIte, Nat.reduceEqDiff, List.map_cons, List.map_nil]
                    refine ops_j 6 (fun fr' h' => Sep h' h.length ([]) ∧ fr' 72 = .bool ((decide (x2.Client = x126.Client)) && (decide
                        (x126.Begin < x2.End))) ∧ fr' 0 = lst Call.cells v_0 ∧ fr' 4 = .ref [.int .i64 x2.Client, .int .i64 x2.Object, .bool x2.Write, .int .i64 x2.Value,
                        .int .i64 x2.Begin, .int .i64 x2.End] 0 ∧ fr' 7 = .ref [.int .i64 x126.Client, .int .i64 x126.Object, .bool x126.Write, .int .i64 x126.Value,
                        .int .i64 x126.Begin, .int .i64 x126.End] 0 ∧ fr' 8 = lst Call.cells v_0 ∧ fr' 9 = .int .i64 (List.length v_0 : Int) ∧ fr' 10 = .int .i64
                        (i1 : Int) ∧ fr' 55 = lst Call.cells l122 ∧ fr' 56 = .int .i64 (List.length l122 : Int) ∧ fr' 57 = .int .i64 (i125 : Int)) (fun Q159 hN160 => ?_) ?_
                    · simp only [List.take_succ_cons, List.take_zero]
                      simp only [run_guard (g := 66), put_at, put_no, ev_t, ev_c, reduceIte, Nat.reduceEqDiff, List.map_cons, List.map_nil]
                      refine guard_split (t := (decide (x2.Client = x126.Client))) (fun hg161 => ?_) (fun hg161 => ?_)
                      · simp only [hg161, run_guard (g := 66), guard_true, f143, run_fa, put1_some, Nat.reduceAdd, Nat.zero_add, Nat.add_zero, xfa_ref, run_ld, put_at, put_no,
                          ev_t, ev_c, reduceIte, Nat.reduceEqDiff, List.map_cons, List.map_nil]
                        refine put1_eq (v := .int .i64 x2.End) rfl ?_
                        simp only [hg161, run_guard (g := 66), guard_true, run_fa, put1_some, Nat.reduceAdd, Nat.zero_add, Nat.add_zero, xfa_ref, run_ld, put_at, put_no, ev_t,
                            ev_c, reduceIte, Nat.reduceEqDiff, List.map_cons, List.map_nil]
                        refine put1_eq (v := .int .i64 x126.Begin) rfl ?_
                        simp only [hg161, run_guard (g := 66), guard_true, run_bin, put1_some, xgtr, run_pick, xpick_t, run_ops_nil, run_nil, put_at, put_no, ev_t, ev_c,
                            reduceIte, Nat.reduceEqDiff, List.map_cons, List.map_nil]
                        exact hN160 _ _ ⟨hS158, by rw [andT hg161]; simp only [put_at, put_no, ev_t, ev_c, reduceIte, Nat.reduceEqDiff, List.map_cons, List.map_nil],
                            by simp only [f142, put_at, put_no, ev_t, ev_c, reduceIte, Nat.reduceEqDiff, List.map_cons, List.map_nil], by simp only [f143, put_at, put_no, ev_t,
                            ev_c, reduceIte, Nat.reduceEqDiff, List.map_cons, List.map_nil], by simp only [put_at, put_no, ev_t, ev_c, reduceIte, Nat.reduceEqDiff, List.map_cons,
                            List.map_nil], by simp only [f144, put_at, put_no, ev_t, ev_c, reduceIte, Nat.reduceEqDiff, List.map_cons, List.map_nil], by simp only [f145, put_at,
                            put_no, ev_t, ev_c, reduceIte, Nat.reduceEqDiff, List.map_cons, List.map_nil], by simp only [f146, put_at, put_no, ev_t, ev_c, reduceIte,
                            Nat.reduceEqDiff, List.map_cons, List.map_nil], by simp only [f147, put_at, put_no, ev_t, ev_c, reduceIte, Nat.reduceEqDiff, List.map_cons,
                            List.map_nil], by simp only [f150, put_at, put_no, ev_t, ev_c, reduceIte, Nat.reduceEqDiff, List.map_cons, List.map_nil], by simp only [f149, put_at,
                            put_no, ev_t, ev_c, reduceIte, Nat.reduceEqDiff, List.map_cons, List.map_nil]⟩
                      · simp only [hg161, run_guard (g := 66), guard_off, run_pick, put1_some, xpick_f, run_ops_nil, run_nil, put_at, put_no, ev_t, ev_c, reduceIte,
                          Nat.reduceEqDiff, List.map_cons, List.map_nil]
                        exact hN160 _ _ ⟨hS158, by rw [andF hg161]; simp only [put_at, put_no, ev_t, ev_c, reduceIte, Nat.reduceEqDiff, List.map_cons, List.map_nil],
                            by simp only [f142, put_at, put_no, ev_t, ev_c, reduceIte, Nat.reduceEqDiff, List.map_cons, List.map_nil], by simp only [f143, put_at, put_no, ev_t,
                            ev_c, reduceIte, Nat.reduceEqDiff, List.map_cons, List.map_nil], by simp only [put_at, put_no, ev_t, ev_c, reduceIte, Nat.reduceEqDiff, List.map_cons,
                            List.map_nil], by simp only [f144, put_at, put_no, ev_t, ev_c, reduceIte, Nat.reduceEqDiff, List.map_cons, List.map_nil], by simp only [f145, put_at,
                            put_no, ev_t, ev_c, reduceIte, Nat.reduceEqDiff, List.map_cons, List.map_nil], by simp only [f146, put_at, put_no, ev_t, ev_c, reduceIte,
                            Nat.reduceEqDiff, List.map_cons, List.map_nil], by simp only [f147, put_at, put_no, ev_t, ev_c, reduceIte, Nat.reduceEqDiff, List.map_cons,
                            List.map_nil], by simp only [f150, put_at, put_no, ev_t, ev_c, reduceIte, Nat.reduceEqDiff, List.map_cons, List.map_nil], by simp only [f149, put_at,
                            put_no, ev_t, ev_c, reduceIte, Nat.reduceEqDiff, List.map_cons, List.map_nil]⟩
                    · rintro fr162 h173 ⟨hS174, f163, f164, f165, f166, f167, f168, f169, f170, f171, f172⟩
                      simp only [List.drop_succ_cons, List.drop_zero]
                      simp only [f163, run_mv, put_at, put_no, ev_t, ev_c, reduceIte, Nat.reduceEqDiff, List.map_cons, List.map_nil]
                      refine ops_j 6 (fun fr' h' => Sep h' h.length ([]) ∧ fr' 79 = .bool (((decide (x2.Client = x126.Client)) && (decide (x126.Begin < x2.End))) && (decide
                          (x2.Begin < x126.End))) ∧ fr' 0 = lst Call.cells v_0 ∧ fr' 4 = .ref [.int .i64 x2.Client, .int .i64 x2.Object, .bool x2.Write, .int .i64 x2.Value,
                          .int .i64 x2.Begin, .int .i64 x2.End] 0 ∧ fr' 8 = lst Call.cells v_0 ∧ fr' 9 = .int .i64 (List.length v_0 : Int) ∧ fr' 10 = .int .i64
                          (i1 : Int) ∧ fr' 55 = lst Call.cells l122 ∧ fr' 56 = .int .i64 (List.length l122 : Int) ∧ fr' 57 = .int .i64 (i125 : Int)) (fun Q175 hN176 => ?_) ?_
                      · simp only [List.take_succ_cons, List.take_zero]
                        simp only [run_guard (g := 73), put_at, put_no, ev_t, ev_c, reduceIte, Nat.reduceEqDiff, List.map_cons, List.map_nil]
                        refine guard_split (t := ((decide (x2.Client = x126.Client)) && (decide (x126.Begin < x2.End)))) (fun hg177 => ?_) (fun hg177 => ?_)
                        · simp only [hg177, run_guard (g := 73), guard_true, f166, run_fa, put1_some, Nat.reduceAdd, Nat.zero_add, Nat.add_zero, xfa_ref, run_ld, put_at, put_no,
                            ev_t, ev_c, reduceIte, Nat.reduceEqDiff, List.map_cons, List.map_nil]
                          refine put1_eq (v := .int .i64 x126.End) rfl ?_
                          simp only [hg177, run_guard (g := 73), guard_true, f165, run_fa, put1_some, Nat.reduceAdd, Nat.zero_add, Nat.add_zero, xfa_ref, run_ld, put_at, put_no,
                              ev_t, ev_c, reduceIte, Nat.reduceEqDiff, List.map_cons, List.map_nil]
                          refine put1_eq (v := .int .i64 x2.Begin) rfl ?_
                          simp only [hg177, run_guard (g := 73), guard_true, run_bin, put1_some, xgtr, run_pick, xpick_t, run_ops_nil, run_nil, put_at, put_no, ev_t, ev_c,
                              reduceIte, Nat.reduceEqDiff, List.map_cons, List.map_nil]
                          exact hN176 _ _ ⟨hS174, by rw [andT hg177]; simp only [put_at, put_no, ev_t, ev_c, reduceIte, Nat.reduceEqDiff, List.map_cons, List.map_nil],
                              by simp only [f164, put_at, put_no, ev_t, ev_c, reduceIte, Nat.reduceEqDiff, List.map_cons, List.map_nil], by simp only [f165, put_at, put_no, ev_t,
                              ev_c, reduceIte, Nat.reduceEqDiff, List.map_cons, List.map_nil], by simp only [f167, put_at, put_no, ev_t, ev_c, reduceIte, Nat.reduceEqDiff,
                              List.map_cons, List.map_nil], by simp only [f168, put_at, put_no, ev_t, ev_c, reduceIte, Nat.reduceEqDiff, List.map_cons, List.map_nil],
                              by simp only [f169, put_at, put_no, ev_t, ev_c, reduceIte, Nat.reduceEqDiff, List.map_cons, List.map_nil], by simp only [f170, put_at, put_no, ev_t,
                              ev_c, reduceIte, Nat.reduceEqDiff, List.map_cons, List.map_nil], by simp only [f171, put_at, put_no, ev_t, ev_c, reduceIte, Nat.reduceEqDiff,
                              List.map_cons, List.map_nil], by simp only [f172, put_at, put_no, ev_t, ev_c, reduceIte, Nat.reduceEqDiff, List.map_cons, List.map_nil]⟩
                        · simp only [hg177, run_guard (g := 73), guard_off, run_pick, put1_some, xpick_f, run_ops_nil, run_nil, put_at, put_no, ev_t, ev_c, reduceIte,
                            Nat.reduceEqDiff, List.map_cons, List.map_nil]
                          exact hN176 _ _ ⟨hS174, by rw [andF hg177]; simp only [put_at, put_no, ev_t, ev_c, reduceIte, Nat.reduceEqDiff, List.map_cons, List.map_nil],
                              by simp only [f164, put_at, put_no, ev_t, ev_c, reduceIte, Nat.reduceEqDiff, List.map_cons, List.map_nil], by simp only [f165, put_at, put_no, ev_t,
                              ev_c, reduceIte, Nat.reduceEqDiff, List.map_cons, List.map_nil], by simp only [f167, put_at, put_no, ev_t, ev_c, reduceIte, Nat.reduceEqDiff,
                              List.map_cons, List.map_nil], by simp only [f168, put_at, put_no, ev_t, ev_c, reduceIte, Nat.reduceEqDiff, List.map_cons, List.map_nil],
                              by simp only [f169, put_at, put_no, ev_t, ev_c, reduceIte, Nat.reduceEqDiff, List.map_cons, List.map_nil], by simp only [f170, put_at, put_no, ev_t,
                              ev_c, reduceIte, Nat.reduceEqDiff, List.map_cons, List.map_nil], by simp only [f171, put_at, put_no, ev_t, ev_c, reduceIte, Nat.reduceEqDiff,
                              List.map_cons, List.map_nil], by simp only [f172, put_at, put_no, ev_t, ev_c, reduceIte, Nat.reduceEqDiff, List.map_cons, List.map_nil]⟩
                      · rintro fr178 h188 ⟨hS189, f179, f180, f181, f182, f183, f184, f185, f186, f187⟩
                        simp only [List.drop_succ_cons, List.drop_zero]
                        simp only [run_ops_nil, f179, run_cond, put_at, put_no, ev_t, ev_c, reduceIte, Nat.reduceEqDiff, List.map_cons, List.map_nil]
                        refine cond_split (t := (((decide (x2.Client = x126.Client)) && (decide (x126.Begin < x2.End))) && (decide (x2.Begin < x126.End)))) (fun hc190 => ?_)
                            (fun hc190 => ?_)
                        · rw [iteT hc190] at hF131
                          simp only [run_seq, run_reg, run_mv, run_ops_nil, run_ret, put_at, put_no, ev_t, ev_c, reduceIte, Nat.reduceEqDiff, List.map_cons, List.map_nil]
                          have e191 := some_inj hF131
                          subst e191
                          have ho192 := hr132 _ rfl
                          have hk193 := hk130
                          rw [ho192] at hk193
                          dsimp only [jnO] at hk193
                          apply hR136
                          have e194 := some_inj hk193
                          subst e194
                          have ho195 := hr8 _ rfl
                          have hk196 := hk6
                          rw [ho195] at hk196
                          dsimp only [jnO] at hk196
                          apply hR12
                          have he := some_inj hk196
                          subst he
                          simp only [end_ret1, put_at, put_no, ev_t, ev_c, reduceIte, Nat.reduceEqDiff, List.map_cons, List.map_nil]
                          exact rfl
                        · rw [iteF hc190] at hF131
                          simp only [run_skip, run_nil, put_at, put_no, ev_t, ev_c, reduceIte, Nat.reduceEqDiff, List.map_cons, List.map_nil]
                          have e197 := some_inj hF131
                          exact hN134 _ _ _ e197.symm ⟨by simp only [f180, put_at, put_no, ev_t, ev_c, reduceIte, Nat.reduceEqDiff, List.map_cons, List.map_nil],
                              by simp only [f181, put_at, put_no, ev_t, ev_c, reduceIte, Nat.reduceEqDiff, List.map_cons, List.map_nil], by simp only [f182, put_at, put_no, ev_t,
                              ev_c, reduceIte, Nat.reduceEqDiff, List.map_cons, List.map_nil], by simp only [f183, put_at, put_no, ev_t, ev_c, reduceIte, Nat.reduceEqDiff,
                              List.map_cons, List.map_nil], by simp only [f184, put_at, put_no, ev_t, ev_c, reduceIte, Nat.reduceEqDiff, List.map_cons, List.map_nil],
                              by simp only [f185, put_at, put_no, ev_t, ev_c, reduceIte, Nat.reduceEqDiff, List.map_cons, List.map_nil], hS189⟩ (by simp only [f187, put_at,
                              put_no, ev_t, ev_c, reduceIte, Nat.reduceEqDiff, List.map_cons, List.map_nil]) (by simp only [f186, put_at, put_no, ev_t, ev_c, reduceIte,
                              Nat.reduceEqDiff, List.map_cons, List.map_nil])
                  · rintro _ fr199 h200 rfl ⟨f202, f203, f204, f205, f206, f207, hS201⟩
                    dsimp only [jnO] at hk130
                    unfold impl_areCalls_j2 at hk130
                    simp only [run_nil, put_at, put_no, ev_t, ev_c, reduceIte, Nat.reduceEqDiff, List.map_cons, List.map_nil]
                    have e208 := some_inj hk130
                    exact hN10 _ _ _ e208.symm ⟨by simp only [f202, put_at, put_no, ev_t, ev_c, reduceIte, Nat.reduceEqDiff, List.map_cons, List.map_nil], by simp only [f204,
                        put_at, put_no, ev_t, ev_c, reduceIte, Nat.reduceEqDiff, List.map_cons, List.map_nil], hS201⟩ (by simp only [f206, put_at, put_no, ev_t, ev_c, reduceIte,
                        Nat.reduceEqDiff, List.map_cons, List.map_nil]) (by simp only [f205, put_at, put_no, ev_t, ev_c, reduceIte, Nat.reduceEqDiff, List.map_cons, List.map_nil])
  · rintro _ fr212 h213 rfl ⟨f215, f216, hS214⟩
    dsimp only [jnO] at hk6
    unfold impl_areCalls_j3 at hk6
    simp only [x43_12, run_seq, run_reg, f215, run_mv, run_len, put1_some, xlen_lst, run_bin, xleq, run_ops_nil, run_ret, put_at, put_no, ev_t, ev_c, reduceIte, Nat.reduceEqDiff,
        List.map_cons, List.map_nil]
    have he := some_inj hk6
    subst he
    simp only [end_ret1, put_at, put_no, ev_t, ev_c, reduceIte, Nat.reduceEqDiff, List.map_cons, List.map_nil]
    exact rfl
end Go.Proofs.Ytddkoiapboeemaa.X
