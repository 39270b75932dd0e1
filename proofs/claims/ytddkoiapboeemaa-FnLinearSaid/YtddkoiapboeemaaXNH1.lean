/- The functions' code comes to what the plain functions say (1). -/
import Derived.Test.YtddkoiapboeemaaXNF
import Derived.Test.YtddkoiapboeemaaXND
set_option linter.unusedVariables false
set_option linter.unusedSimpArgs false
set_option maxRecDepth 100000
namespace Go.Proofs.Ytddkoiapboeemaa.X
open Go
theorem impl_in_x {W : Nat → Bool} {h : Heap} (hW : ∀ b,
    h.length ≤ b → W b = true) (n_0 : Int) (low_1 : Int) (high_2 : Int) (r : Bool) (hF : some (impl_in n_0 low_1 high_2) = some r) : Ret E W 44 [.int .i64 n_0, .int .i64 low_1,
    .int .i64 high_2] h (fun v h' => cut h.length h' E.sz false 9 v = some (.bool r)) := by
  refine Ret.of (fn := x44) rfl (Run.of ?_)
  unfold impl_in at hF
  have zf0 : argFr [.int .i64 n_0, .int .i64 low_1, .int .i64 high_2] 0 = .int .i64 n_0 := rfl
  have zf1 : argFr [.int .i64 n_0, .int .i64 low_1, .int .i64 high_2] 1 = .int .i64 low_1 := rfl
  have zf2 : argFr [.int .i64 n_0, .int .i64 low_1, .int .i64 high_2] 2 = .int .i64 high_2 := rfl
  generalize argFr [.int .i64 n_0, .int .i64 low_1, .int .i64 high_2] = fr0 at zf0 zf1 zf2 ⊢
  have hS : Sep h h.length [] := Sep.nil h
  simp only [x44, run_seq, run_reg, run_mv, run_ops_nil, x44_1, zf0, zf1, run_bin, put1_some, xgeq, put_at, put_no, ev_t, ev_c, reduceIte, Nat.reduceEqDiff, List.map_cons,
      List.map_nil]
  refine ops_j 4 (fun fr' h' => Sep h' h.length ([]) ∧ fr' 14 = .bool ((decide (low_1 ≤ n_0)) && (decide (n_0 ≤ high_2)))) (fun Q1 hN2 => ?_) ?_
  · simp only [List.take_succ_cons, List.take_zero]
    simp only [run_guard (g := 10), put_at, put_no, ev_t, ev_c, reduceIte, Nat.reduceEqDiff, List.map_cons, List.map_nil]
    refine guard_split (t := (decide (low_1 ≤ n_0))) (fun hg3 => ?_) (fun hg3 => ?_)
    · simp only [hg3, run_guard (g := 10), guard_true, zf0, run_mv, zf2, run_bin, put1_some, xleq, run_pick, xpick_t, run_ops_nil, run_nil, put_at, put_no, ev_t, ev_c, reduceIte,
        Nat.reduceEqDiff, List.map_cons, List.map_nil]
      exact hN2 _ _ ⟨hS, by rw [andT hg3]; simp only [put_at, put_no, ev_t, ev_c, reduceIte, Nat.reduceEqDiff, List.map_cons, List.map_nil]⟩
    · simp only [hg3, run_guard (g := 10), guard_off, run_pick, put1_some, xpick_f, run_ops_nil, run_nil, put_at, put_no, ev_t, ev_c, reduceIte, Nat.reduceEqDiff, List.map_cons,
        List.map_nil]
      exact hN2 _ _ ⟨hS, by rw [andF hg3]; simp only [put_at, put_no, ev_t, ev_c, reduceIte, Nat.reduceEqDiff, List.map_cons, List.map_nil]⟩
  · rintro fr4 h6 ⟨hS7, f5⟩
    simp only [List.drop_succ_cons, List.drop_zero]
    simp only [f5, run_mv, run_ops_nil, run_ret, put_at, put_no, ev_t, ev_c, reduceIte, Nat.reduceEqDiff, List.map_cons, List.map_nil]
    have he := some_inj hF
    subst he
    simp only [end_ret1, put_at, put_no, ev_t, ev_c, reduceIte, Nat.reduceEqDiff, List.map_cons, List.map_nil]
    exact rfl
theorem impl_areCalls_x {W : Nat → Bool} {h : Heap} (hW : ∀ b,
    h.length ≤ b → W b = true) (v_0 : List Call) (r : Bool) (hF : impl_areCalls v_0 = some r) : Ret E W 43 [lst Call.cells v_0] h
    (fun v h' => cut h.length h' E.sz false 9 v = some (.bool r)) := by
  refine Ret.of (fn := x43) rfl (Run.of ?_)
  unfold impl_areCalls at hF
  have zf0 : argFr [lst Call.cells v_0] 0 = lst Call.cells v_0 := rfl
  generalize argFr [lst Call.cells v_0] = fr0 at zf0 ⊢
  have hS : Sep h h.length [] := Sep.nil h
  simp only [x43, run_seq, run_reg, run_mv, run_ops_nil, x43_13, zf0, run_len, put1_some, xlen_lst, put_at, put_no, ev_t, ev_c, reduceIte, Nat.reduceEqDiff, List.map_cons,
      List.map_nil]
  obtain ⟨oc3, hX5, hk6⟩ := jn_some hF
  simp only [x43_11]
  refine rangeL_j (σ := Unit) v_0 (fun i1 x2 _ => impl_areCalls_b2 v_0 i1 x2 ) (fun s fr' h' => fr' 0 = lst Call.cells v_0 ∧ fr' 8 = lst Call.cells v_0 ∧ Sep h' h.length
      ([])) hX5 ⟨by simp only [zf0, put_at, put_no, ev_t, ev_c, reduceIte, Nat.reduceEqDiff, List.map_cons, List.map_nil], by simp only [put_at, put_no, ev_t, ev_c, reduceIte,
      Nat.reduceEqDiff, List.map_cons, List.map_nil], hS⟩ (by simp only [put_at, put_no, ev_t, ev_c, reduceIte, Nat.reduceEqDiff, List.map_cons,
      List.map_nil]) (by simp only [put_at, put_no, ev_t, ev_c, reduceIte, Nat.reduceEqDiff, List.map_cons,
      List.map_nil]) (fun _ _ _ h => h) rfl rfl (fun _ _ _ _ h => h) (fun _ _ _ _ h => h) (fun _ _ _ _ h => h) (by decide) ?_ ?_
  · rintro i1 x2 _ fr15 h16 hx20 ⟨f18, f19, hS17⟩ f21 f22 oc4 hF7 hr8 Q9 hN10 hB14 hK11 hR12 hE13
    unfold impl_areCalls_b2 at hF7
    simp only [x43_9, run_seq, run_reg, f21, run_mv, f19, run_ia, put_at, put_no, ev_t, ev_c, reduceIte, Nat.reduceEqDiff, List.map_cons, List.map_nil]
    refine put1_eq (v := .ref (Call.cells x2) 0) (xia_lstN hx20 rfl) ?_
    simp only [run_ld, put_at, put_no, ev_t, ev_c, reduceIte, Nat.reduceEqDiff, List.map_cons, List.map_nil]
    refine put1_eq (v := .agg [.int .i64 x2.Client, .int .i64 x2.Object, .bool x2.Write, .int .i64 x2.Value, .int .i64 x2.Begin, .int .i64 x2.End]) rfl ?_
    simp only [run_new, put_at, put_no, ev_t, ev_c, reduceIte, Nat.reduceEqDiff, List.map_cons, List.map_nil]
    refine put2_newC hS17 (fun b23 h24 hS25 => ?_)
    simp only [run_mv, run_st, put_at, put_no, ev_t, ev_c, reduceIte, Nat.reduceEqDiff, List.map_cons, List.map_nil]
    refine put2_stC (cs' := [.int .i64 x2.Client, .int .i64 x2.Object, .bool x2.Write, .int .i64 x2.Value, .int .i64 x2.Begin,
        .int .i64 x2.End]) hS25 hW rfl rfl (Nat.le_of_ble_eq_true rfl) rfl (fun h27 hS28 => ?_)
    simp only [put_no, run_ops_nil, put_at, ev_t, ev_c, reduceIte, Nat.reduceEqDiff, List.map_cons, List.map_nil]
    refine frz_stepC hS28 hW (by simp only [put_at, put_no, ev_t, ev_c, reduceIte, Nat.reduceEqDiff, List.map_cons, List.map_nil]) (fun h29 hS30 => ?_)
    simp only [run_frz_nil, x43_8, run_seq, run_reg, run_mv, run_ops_nil, x43_7, run_fa, put1_some, Nat.reduceAdd, Nat.zero_add, Nat.add_zero, xfa_ref, run_ld, put_at, put_no,
        ev_t, ev_c, reduceIte, Nat.reduceEqDiff, List.map_cons, List.map_nil]
    refine put1_eq (v := .bool x2.Write) rfl ?_
    simp only [run_ops_nil, run_cond, put_at, put_no, ev_t, ev_c, reduceIte, Nat.reduceEqDiff, List.map_cons, List.map_nil]
    obtain ⟨s31, hX33, hk34⟩ := bind_some' hF7
    refine cond_j (t := x2.Write) (fun fr' h' => fr' 0 = lst Call.cells v_0 ∧ fr' 3 = .int .i64 (i1 : Int) ∧ fr' 4 = .ref [.int .i64 x2.Client, .int .i64 x2.Object,
        .bool x2.Write, .int .i64 x2.Value, .int .i64 x2.Begin,
        .int .i64 x2.End] 0 ∧ fr' 5 = .int .i64 s31 ∧ fr' 8 = lst Call.cells v_0 ∧ fr' 9 = .int .i64 (List.length v_0 : Int) ∧ fr' 10 = .int .i64 (i1 : Int) ∧ Sep h' h.length
        ([])) (fun Q35 hN36 hR37 hE38 => ⟨fun hc39 => ?_, fun hc39 => ?_⟩) ?_
    · rw [iteT hc39] at hX33
      simp only [run_reg, run_mv, run_ops_nil, run_nil, put_at, put_no, ev_t, ev_c, reduceIte, Nat.reduceEqDiff, List.map_cons, List.map_nil]
      have e40 := some_inj hX33
      subst e40
      exact hN36 _ _ ⟨by simp only [f18, put_at, put_no, ev_t, ev_c, reduceIte, Nat.reduceEqDiff, List.map_cons, List.map_nil], by simp only [put_at, put_no, ev_t, ev_c,
          reduceIte, Nat.reduceEqDiff, List.map_cons, List.map_nil], by simp only [put_at, put_no, ev_t, ev_c, reduceIte, Nat.reduceEqDiff, List.map_cons, List.map_nil],
          by simp only [put_at, put_no, ev_t, ev_c, reduceIte, Nat.reduceEqDiff, List.map_cons, List.map_nil], by simp only [f19, put_at, put_no, ev_t, ev_c, reduceIte,
          Nat.reduceEqDiff, List.map_cons, List.map_nil], by simp only [f22, put_at, put_no, ev_t, ev_c, reduceIte, Nat.reduceEqDiff, List.map_cons, List.map_nil],
          by simp only [f21, put_at, put_no, ev_t, ev_c, reduceIte, Nat.reduceEqDiff, List.map_cons, List.map_nil], hS30⟩
    · rw [iteF hc39] at hX33
      simp only [run_skip, run_nil, put_at, put_no, ev_t, ev_c, reduceIte, Nat.reduceEqDiff, List.map_cons, List.map_nil]
      have e41 := some_inj hX33
      subst e41
      exact hN36 _ _ ⟨by simp only [f18, put_at, put_no, ev_t, ev_c, reduceIte, Nat.reduceEqDiff, List.map_cons, List.map_nil], by simp only [put_at, put_no, ev_t, ev_c,
          reduceIte, Nat.reduceEqDiff, List.map_cons, List.map_nil], by simp only [put_at, put_no, ev_t, ev_c, reduceIte, Nat.reduceEqDiff, List.map_cons, List.map_nil],
          by simp only [put_at, put_no, ev_t, ev_c, reduceIte, Nat.reduceEqDiff, List.map_cons, List.map_nil], by simp only [f19, put_at, put_no, ev_t, ev_c, reduceIte,
          Nat.reduceEqDiff, List.map_cons, List.map_nil], by simp only [f22, put_at, put_no, ev_t, ev_c, reduceIte, Nat.reduceEqDiff, List.map_cons, List.map_nil],
          by simp only [f21, put_at, put_no, ev_t, ev_c, reduceIte, Nat.reduceEqDiff, List.map_cons, List.map_nil], hS30⟩
    · rintro fr42 h43 ⟨f45, f46, f47, f48, f49, f50, f51, hS44⟩
      unfold impl_areCalls_j1 at hk34
      simp only [x43_6, run_seq, run_reg, f47, run_fa, put1_some, Nat.reduceAdd, Nat.zero_add, Nat.add_zero, xfa_ref, run_ld, put_at, put_no, ev_t, ev_c, reduceIte,
          Nat.reduceEqDiff, List.map_cons, List.map_nil]
      refine put1_eq (v := .int .i64 x2.Client) rfl ?_
      simp only [run_call, put_at, put_no, ev_t, ev_c, reduceIte, Nat.reduceEqDiff, List.map_cons, List.map_nil]
      refine call1 rfl (mapM1 snap_int (mapM1 snap_int (mapM1 snap_int mapM0))) (impl_in_x (fun b hb => decide_eq_true hb) x2.Client 0 3 _ rfl) ?_
      simp only [run_un, put1_some, xnot, run_mv, put_at, put_no, ev_t, ev_c, reduceIte, Nat.reduceEqDiff, List.map_cons, List.map_nil]
      refine ops_j 5 (fun fr' h' => Sep h' h.length ([]) ∧ fr' 26 = .bool ((!(impl_in x2.Client 0 3)) ||
          (!(impl_in x2.Object 0 2))) ∧ fr' 0 = lst Call.cells v_0 ∧ fr' 3 = .int .i64 (i1 : Int) ∧ fr' 4 = .ref [.int .i64 x2.Client, .int .i64 x2.Object, .bool x2.Write,
          .int .i64 x2.Value, .int .i64 x2.Begin,
          .int .i64 x2.End] 0 ∧ fr' 5 = .int .i64 s31 ∧ fr' 8 = lst Call.cells v_0 ∧ fr' 9 = .int .i64 (List.length v_0 : Int) ∧ fr' 10 = .int .i64 (i1 : Int))
          (fun Q52 hN53 => ?_) ?_
      · simp only [List.take_succ_cons, List.take_zero]
        simp only [run_guard (g := 21), put_at, put_no, ev_t, ev_c, reduceIte, Nat.reduceEqDiff, List.map_cons, List.map_nil]
        refine guard_split (t := (!(impl_in x2.Client 0 3))) (fun hg54 => ?_) (fun hg54 => ?_)
        · simp only [hg54, run_guard (g := 21), guard_off', run_pick, put1_some, xpick_t, run_ops_nil, run_nil, put_at, put_no, ev_t, ev_c, reduceIte, Nat.reduceEqDiff,
            List.map_cons, List.map_nil]
          exact hN53 _ _ ⟨hS44, by rw [orT hg54]; simp only [put_at, put_no, ev_t, ev_c, reduceIte, Nat.reduceEqDiff, List.map_cons, List.map_nil], by simp only [f45, put_at,
              put_no, ev_t, ev_c, reduceIte, Nat.reduceEqDiff, List.map_cons, List.map_nil], by simp only [f46, put_at, put_no, ev_t, ev_c, reduceIte, Nat.reduceEqDiff,
              List.map_cons, List.map_nil], by simp only [f47, put_at, put_no, ev_t, ev_c, reduceIte, Nat.reduceEqDiff, List.map_cons, List.map_nil], by simp only [f48, put_at,
              put_no, ev_t, ev_c, reduceIte, Nat.reduceEqDiff, List.map_cons, List.map_nil], by simp only [f49, put_at, put_no, ev_t, ev_c, reduceIte, Nat.reduceEqDiff,
              List.map_cons, List.map_nil], by simp only [f50, put_at, put_no, ev_t, ev_c, reduceIte, Nat.reduceEqDiff, List.map_cons, List.map_nil], by simp only [f51, put_at,
              put_no, ev_t, ev_c, reduceIte, Nat.reduceEqDiff, List.map_cons, List.map_nil]⟩
        · simp only [hg54, run_guard (g := 21), guard_false, f47, run_fa, put1_some, Nat.reduceAdd, Nat.zero_add, Nat.add_zero, xfa_ref, run_ld, put_at, put_no, ev_t, ev_c,
            reduceIte, Nat.reduceEqDiff, List.map_cons, List.map_nil]
          refine put1_eq (v := .int .i64 x2.Object) rfl ?_
          simp only [hg54, run_guard (g := 21), guard_false, run_call, put_at, put_no, ev_t, ev_c, reduceIte, Nat.reduceEqDiff, List.map_cons, List.map_nil]
          refine call1 rfl (mapM1 snap_int (mapM1 snap_int (mapM1 snap_int mapM0))) (impl_in_x (fun b hb => decide_eq_true hb) x2.Object 0 2 _ rfl) ?_
          simp only [hg54, run_guard (g := 21), guard_false, run_un, put1_some, xnot, run_pick, xpick_f, run_ops_nil, run_nil, put_at, put_no, ev_t, ev_c, reduceIte,
              Nat.reduceEqDiff, List.map_cons, List.map_nil]
          exact hN53 _ _ ⟨hS44, by rw [orF hg54]; simp only [put_at, put_no, ev_t, ev_c, reduceIte, Nat.reduceEqDiff, List.map_cons, List.map_nil], by simp only [f45, put_at,
              put_no, ev_t, ev_c, reduceIte, Nat.reduceEqDiff, List.map_cons, List.map_nil], by simp only [f46, put_at, put_no, ev_t, ev_c, reduceIte, Nat.reduceEqDiff,
              List.map_cons, List.map_nil], by simp only [f47, put_at, put_no, ev_t, ev_c, reduceIte, Nat.reduceEqDiff, List.map_cons, List.map_nil], by simp only [f48, put_at,
              put_no, ev_t, ev_c, reduceIte, Nat.reduceEqDiff, List.map_cons, List.map_nil], by simp only [f49, put_at, put_no, ev_t, ev_c, reduceIte, Nat.reduceEqDiff,
              List.map_cons, List.map_nil], by simp only [f50, put_at, put_no, ev_t, ev_c, reduceIte, Nat.reduceEqDiff, List.map_cons, List.map_nil], by simp only [f51, put_at,
              put_no, ev_t, ev_c, reduceIte, Nat.reduceEqDiff, List.map_cons, List.map_nil]⟩
      · rintro fr55 h64 ⟨hS65, f56, f57, f58, f59, f60, f61, f62, f63⟩
        simp only [List.drop_succ_cons, List.drop_zero]
        simp only [f56, run_mv, put_at, put_no, ev_t, ev_c, reduceIte, Nat.reduceEqDiff, List.map_cons, List.map_nil]
        refine ops_j 6 (fun fr' h' => Sep h' h.length ([]) ∧ fr' 33 = .bool (((!(impl_in x2.Client 0 3)) || (!(impl_in x2.Object 0 2))) ||
            (!(impl_in x2.Value s31 9))) ∧ fr' 0 = lst Call.cells v_0 ∧ fr' 3 = .int .i64 (i1 : Int) ∧ fr' 4 = .ref [.int .i64 x2.Client, .int .i64 x2.Object, .bool x2.Write,
            .int .i64 x2.Value, .int .i64 x2.Begin,
            .int .i64 x2.End] 0 ∧ fr' 8 = lst Call.cells v_0 ∧ fr' 9 = .int .i64 (List.length v_0 : Int) ∧ fr' 10 = .int .i64 (i1 : Int)) (fun Q66 hN67 => ?_) ?_
        · simp only [List.take_succ_cons, List.take_zero]
          simp only [run_guard (g := 27), put_at, put_no, ev_t, ev_c, reduceIte, Nat.reduceEqDiff, List.map_cons, List.map_nil]
          refine guard_split (t := ((!(impl_in x2.Client 0 3)) || (!(impl_in x2.Object 0 2)))) (fun hg68 => ?_) (fun hg68 => ?_)
          · simp only [hg68, run_guard (g := 27), guard_off', run_pick, put1_some, xpick_t, run_ops_nil, run_nil, put_at, put_no, ev_t, ev_c, reduceIte, Nat.reduceEqDiff,
              List.map_cons, List.map_nil]
            exact hN67 _ _ ⟨hS65, by rw [orT hg68]; simp only [put_at, put_no, ev_t, ev_c, reduceIte, Nat.reduceEqDiff, List.map_cons, List.map_nil], by simp only [f57, put_at,
                put_no, ev_t, ev_c, reduceIte, Nat.reduceEqDiff, List.map_cons, List.map_nil], by simp only [f58, put_at, put_no, ev_t, ev_c, reduceIte, Nat.reduceEqDiff,
                List.map_cons, List.map_nil], by simp only [f59, put_at, put_no, ev_t, ev_c, reduceIte, Nat.reduceEqDiff, List.map_cons, List.map_nil], by simp only [f61, put_at,
                put_no, ev_t, ev_c, reduceIte, Nat.reduceEqDiff, List.map_cons, List.map_nil], by simp only [f62, put_at, put_no, ev_t, ev_c, reduceIte, Nat.reduceEqDiff,
                List.map_cons, List.map_nil], by simp only [f63, put_at, put_no, ev_t, ev_c, reduceIte, Nat.reduceEqDiff, List.map_cons, List.map_nil]⟩
          · simp only [hg68, run_guard (g := 27), guard_false, f59, run_fa, put1_some, Nat.reduceAdd, Nat.zero_add, Nat.add_zero, xfa_ref, run_ld, put_at, put_no, ev_t, ev_c,
              reduceIte, Nat.reduceEqDiff, List.map_cons, List.map_nil]
            refine put1_eq (v := .int .i64 x2.Value) rfl ?_
            simp only [hg68, run_guard (g := 27), guard_false, f60, run_mv, run_call, put_at, put_no, ev_t, ev_c, reduceIte, Nat.reduceEqDiff, List.map_cons, List.map_nil]
            refine call1 rfl (mapM1 snap_int (mapM1 snap_int (mapM1 snap_int mapM0))) (impl_in_x (fun b hb => decide_eq_true hb) x2.Value s31 9 _ rfl) ?_
            simp only [hg68, run_guard (g := 27), guard_false, run_un, put1_some, xnot, run_pick, xpick_f, run_ops_nil, run_nil, put_at, put_no, ev_t, ev_c, reduceIte,
                Nat.reduceEqDiff, List.map_cons, List.map_nil]
            exact hN67 _ _ ⟨hS65, by rw [orF hg68]; simp only [put_at, put_no, ev_t, ev_c, reduceIte, Nat.reduceEqDiff, List.map_cons, List.map_nil], by simp only [f57, put_at,
                put_no, ev_t, ev_c, reduceIte, Nat.reduceEqDiff, List.map_cons, List.map_nil], by simp only [f58, put_at, put_no, ev_t, ev_c, reduceIte, Nat.reduceEqDiff,
                List.map_cons, List.map_nil], by simp only [f59, put_at, put_no, ev_t, ev_c, reduceIte, Nat.reduceEqDiff, List.map_cons, List.map_nil], by simp only [f61, put_at,
                put_no, ev_t, ev_c, reduceIte, Nat.reduceEqDiff, List.map_cons, List.map_nil], by simp only [f62, put_at, put_no, ev_t, ev_c, reduceIte, Nat.reduceEqDiff,
                List.map_cons, List.map_nil], by simp only [f63, put_at, put_no, ev_t, ev_c, reduceIte, Nat.reduceEqDiff, List.map_cons, List.map_nil]⟩
        · rintro fr69 h77 ⟨hS78, f70, f71, f72, f73, f74, f75, f76⟩
          simp only [List.drop_succ_cons, List.drop_zero]
          simp only [f70, run_mv, put_at, put_no, ev_t, ev_c, reduceIte, Nat.reduceEqDiff, List.map_cons, List.map_nil]
          refine ops_j 5 (fun fr' h' => Sep h' h.length ([]) ∧ fr' 39 = .bool ((((!(impl_in x2.Client 0 3)) || (!(impl_in x2.Object 0 2))) || (!(impl_in x2.Value s31 9))) ||
              (!(impl_in x2.Begin 0 100))) ∧ fr' 0 = lst Call.cells v_0 ∧ fr' 3 = .int .i64 (i1 : Int) ∧ fr' 4 = .ref [.int .i64 x2.Client, .int .i64 x2.Object, .bool x2.Write,
              .int .i64 x2.Value, .int .i64 x2.Begin,
              .int .i64 x2.End] 0 ∧ fr' 8 = lst Call.cells v_0 ∧ fr' 9 = .int .i64 (List.length v_0 : Int) ∧ fr' 10 = .int .i64 (i1 : Int)) (fun Q79 hN80 => ?_) ?_
          · simp only [List.take_succ_cons, List.take_zero]
            simp only [run_guard (g := 34), put_at, put_no, ev_t, ev_c, reduceIte, Nat.reduceEqDiff, List.map_cons, List.map_nil]
            refine guard_split (t := (((!(impl_in x2.Client 0 3)) || (!(impl_in x2.Object 0 2))) || (!(impl_in x2.Value s31 9)))) (fun hg81 => ?_) (fun hg81 => ?_)
            · simp only [hg81, run_guard (g := 34), guard_off', run_pick, put1_some, xpick_t, run_ops_nil, run_nil, put_at, put_no, ev_t, ev_c, reduceIte, Nat.reduceEqDiff,
                List.map_cons, List.map_nil]
              exact hN80 _ _ ⟨hS78, by rw [orT hg81]; simp only [put_at, put_no, ev_t, ev_c, reduceIte, Nat.reduceEqDiff, List.map_cons, List.map_nil], by simp only [f71, put_at,
                  put_no, ev_t, ev_c, reduceIte, Nat.reduceEqDiff, List.map_cons, List.map_nil], by simp only [f72, put_at, put_no, ev_t, ev_c, reduceIte, Nat.reduceEqDiff,
                  List.map_cons, List.map_nil], by simp only [f73, put_at, put_no, ev_t, ev_c, reduceIte, Nat.reduceEqDiff, List.map_cons, List.map_nil], by simp only [f74,
                  put_at, put_no, ev_t, ev_c, reduceIte, Nat.reduceEqDiff, List.map_cons, List.map_nil], by simp only [f75, put_at, put_no, ev_t, ev_c, reduceIte,
                  Nat.reduceEqDiff, List.map_cons, List.map_nil], by simp only [f76, put_at, put_no, ev_t, ev_c, reduceIte, Nat.reduceEqDiff, List.map_cons, List.map_nil]⟩
            · simp only [hg81, run_guard (g := 34), guard_false, f73, run_fa, put1_some, Nat.reduceAdd, Nat.zero_add, Nat.add_zero, xfa_ref, run_ld, put_at, put_no, ev_t, ev_c,
                reduceIte, Nat.reduceEqDiff, List.map_cons, List.map_nil]
              refine put1_eq (v := .int .i64 x2.Begin) rfl ?_
              simp only [hg81, run_guard (g := 34), guard_false, run_call, put_at, put_no, ev_t, ev_c, reduceIte, Nat.reduceEqDiff, List.map_cons, List.map_nil]
              refine call1 rfl (mapM1 snap_int (mapM1 snap_int (mapM1 snap_int mapM0))) (impl_in_x (fun b hb => decide_eq_true hb) x2.Begin 0 100 _ rfl) ?_
              simp only [hg81, run_guard (g := 34), guard_false, run_un, put1_some, xnot, run_pick, xpick_f, run_ops_nil, run_nil, put_at, put_no, ev_t, ev_c, reduceIte,
                  Nat.reduceEqDiff, List.map_cons, List.map_nil]
              exact hN80 _ _ ⟨hS78, by rw [orF hg81]; simp only [put_at, put_no, ev_t, ev_c, reduceIte, Nat.reduceEqDiff, List.map_cons, List.map_nil], by simp only [f71, put_at,
                  put_no, ev_t, ev_c, reduceIte, Nat.reduceEqDiff, List.map_cons, List.map_nil], by simp only [f72, put_at, put_no, ev_t, ev_c, reduceIte, Nat.reduceEqDiff,
                  List.map_cons, List.map_nil], by simp only [f73, put_at, put_no, ev_t, ev_c, reduceIte, Nat.reduceEqDiff, List.map_cons, List.map_nil], by simp only [f74,
                  put_at, put_no, ev_t, ev_c, reduceIte, Nat.reduceEqDiff, List.map_cons, List.map_nil], by simp only [f75, put_at, put_no, ev_t, ev_c, reduceIte,
                  Nat.reduceEqDiff, List.map_cons, List.map_nil], by simp only [f76, put_at, put_no, ev_t, ev_c, reduceIte, Nat.reduceEqDiff, List.map_cons, List.map_nil]⟩
          · rintro fr82 h90 ⟨hS91, f83, f84, f85, f86, f87, f88, f89⟩
            simp only [List.drop_succ_cons, List.drop_zero]
            simp only [f83, run_mv, put_at, put_no, ev_t, ev_c, reduceIte, Nat.reduceEqDiff, List.map_cons, List.map_nil]
            refine ops_j 5 (fun fr' h' => Sep h' h.length ([]) ∧ fr' 45 = .bool (((((!(impl_in x2.Client 0 3)) || (!(impl_in x2.Object 0 2))) || (!(impl_in x2.Value s31 9))) ||
                (!(impl_in x2.Begin 0 100))) || (!(impl_in x2.End 0 100))) ∧ fr' 0 = lst Call.cells v_0 ∧ fr' 3 = .int .i64 (i1 : Int) ∧ fr' 4 = .ref [.int .i64 x2.Client,
                .int .i64 x2.Object, .bool x2.Write, .int .i64 x2.Value, .int .i64 x2.Begin,
                .int .i64 x2.End] 0 ∧ fr' 8 = lst Call.cells v_0 ∧ fr' 9 = .int .i64 (List.length v_0 : Int) ∧ fr' 10 = .int .i64 (i1 : Int)) (fun Q92 hN93 => ?_) ?_
            · simp only [List.take_succ_cons, List.take_zero]
              simp only [run_guard (g := 40), put_at, put_no, ev_t, ev_c, reduceIte, Nat.reduceEqDiff, List.map_cons, List.map_nil]
              refine guard_split (t := ((((!(impl_in x2.Client 0 3)) || (!(impl_in x2.Object 0 2))) || (!(impl_in x2.Value s31 9))) || (!(impl_in x2.Begin 0 100))))
                  (fun hg94 => ?_) (fun hg94 => ?_)
              · simp only [hg94, run_guard (g := 40), guard_off', run_pick, put1_some, xpick_t, run_ops_nil, run_nil, put_at, put_no, ev_t, ev_c, reduceIte, Nat.reduceEqDiff,
                  List.map_cons, List.map_nil]
                exact hN93 _ _ ⟨hS91, by rw [orT hg94]; simp only [put_at, put_no, ev_t, ev_c, reduceIte, Nat.reduceEqDiff, List.map_cons, List.map_nil], by simp only [f84,
                    put_at, put_no, ev_t, ev_c, reduceIte, Nat.reduceEqDiff, List.map_cons, List.map_nil], by simp only [f85, put_at, put_no, ev_t, ev_c, reduceIte,
                    Nat.reduceEqDiff, List.map_cons, List.map_nil], by simp only [f86, put_at, put_no, ev_t, ev_c, reduceIte, Nat.reduceEqDiff, List.map_cons, List.map_nil],
                    by simp only [f87, put_at, put_no, ev_t, ev_c, reduceIte, Nat.reduceEqDiff, List.map_cons, List.map_nil], by simp only [f88, put_at, put_no, ev_t, ev_c,
                    reduceIte, Nat.reduceEqDiff, List.map_cons, List.map_nil], by simp only [f89, put_at, put_no, ev_t, ev_c, reduceIte, Nat.reduceEqDiff, List.map_cons,
                    List.map_nil]⟩
              · simp only [hg94, run_guard (g := 40), guard_false, f86, run_fa, put1_some, Nat.reduceAdd, Nat.zero_add, Nat.add_zero, xfa_ref, run_ld, put_at, put_no, ev_t, ev_c,
                  reduceIte, Nat.reduceEqDiff, List.map_cons, List.map_nil]
                refine put1_eq (v := .int .i64 x2.End) rfl ?_
                simp only [hg94, run_guard (g := 40), guard_false, run_call, put_at, put_no, ev_t, ev_c, reduceIte, Nat.reduceEqDiff, List.map_cons, List.map_nil]
                refine call1 rfl (mapM1 snap_int (mapM1 snap_int (mapM1 snap_int mapM0))) (impl_in_x (fun b hb => decide_eq_true hb) x2.End 0 100 _ rfl) ?_
                simp only [hg94, run_guard (g := 40), guard_false, run_un, put1_some, xnot, run_pick, xpick_f, run_ops_nil, run_nil, put_at, put_no, ev_t, ev_c, reduceIte,
                    Nat.reduceEqDiff, List.map_cons, List.map_nil]
                exact hN93 _ _ ⟨hS91, by rw [orF hg94]; simp only [put_at, put_no, ev_t, ev_c, reduceIte, Nat.reduceEqDiff, List.map_cons, List.map_nil], by simp only [f84,
                    put_at, put_no, ev_t, ev_c, reduceIte, Nat.reduceEqDiff, List.map_cons, List.map_nil], by simp only [f85, put_at, put_no, ev_t, ev_c, reduceIte,
                    Nat.reduceEqDiff, List.map_cons, List.map_nil], by simp only [f86, put_at, put_no, ev_t, ev_c, reduceIte, Nat.reduceEqDiff, List.map_cons, List.map_nil],
                    by simp only [f87, put_at, put_no, ev_t, ev_c, reduceIte, Nat.reduceEqDiff, List.map_cons, List.map_nil], by simp only [f88, put_at, put_no, ev_t, ev_c,
                    reduceIte, Nat.reduceEqDiff, List.map_cons, List.map_nil], by simp only [f89, put_at, put_no, ev_t, ev_c, reduceIte, Nat.reduceEqDiff, List.map_cons,
                    List.map_nil]⟩
            · rintro fr95 h103 ⟨hS104, f96, f97, f98, f99, f100, f101, f102⟩
              simp only [List.drop_succ_cons, List.drop_zero]
              simp only [f96, run_mv, put_at, put_no, ev_t, ev_c, reduceIte, Nat.reduceEqDiff, List.map_cons, List.map_nil]
              refine ops_j 6 (fun fr' h' => Sep h' h.length ([]) ∧ fr' 52 = .bool ((((((!(impl_in x2.Client 0 3)) || (!(impl_in x2.Object 0 2))) ||
                  (!(impl_in x2.Value s31 9))) || (!(impl_in x2.Begin 0 100))) || (!(impl_in x2.End 0 100))) || (decide
                  (x2.End ≤ x2.Begin))) ∧ fr' 0 = lst Call.cells v_0 ∧ fr' 3 = .int .i64 (i1 : Int) ∧ fr' 4 = .ref [.int .i64 x2.Client, .int .i64 x2.Object, .bool x2.Write,
                  .int .i64 x2.Value, .int .i64 x2.Begin,
                  .int .i64 x2.End] 0 ∧ fr' 8 = lst Call.cells v_0 ∧ fr' 9 = .int .i64 (List.length v_0 : Int) ∧ fr' 10 = .int .i64 (i1 : Int)) (fun Q105 hN106 => ?_) ?_
              · simp only [List.take_succ_cons, List.take_zero]
                simp only [run_guard (g := 46), put_at, put_no, ev_t, ev_c, reduceIte, Nat.reduceEqDiff, List.map_cons, List.map_nil]
                refine guard_split (t := (((((!(impl_in x2.Client 0 3)) || (!(impl_in x2.Object 0 2))) || (!(impl_in x2.Value s31 9))) || (!(impl_in x2.Begin 0 100))) ||
                    (!(impl_in x2.End 0 100)))) (fun hg107 => ?_) (fun hg107 => ?_)
                · simp only [hg107, run_guard (g := 46), guard_off', run_pick, put1_some, xpick_t, run_ops_nil, run_nil, put_at, put_no, ev_t, ev_c, reduceIte, Nat.reduceEqDiff,
                    List.map_cons, List.map_nil]
                  exact hN106 _ _ ⟨hS104, by rw [orT hg107]; simp only [put_at, put_no, ev_t, ev_c, reduceIte, Nat.reduceEqDiff, List.map_cons, List.map_nil], by simp only [f97,
                      put_at, put_no, ev_t, ev_c, reduceIte, Nat.reduceEqDiff, List.map_cons, List.map_nil], by simp only [f98, put_at, put_no, ev_t, ev_c, reduceIte,
                      Nat.reduceEqDiff, List.map_cons, List.map_nil], by simp only [f99, put_at, put_no, ev_t, ev_c, reduceIte, Nat.reduceEqDiff, List.map_cons, List.map_nil],
                      by simp only [f100, put_at, put_no, ev_t, ev_c, reduceIte, Nat.reduceEqDiff, List.map_cons, List.map_nil], by simp only [f101, put_at, put_no, ev_t, ev_c,
                      reduceIte, Nat.reduceEqDiff, List.map_cons, List.map_nil], by simp only [f102, put_at, put_no, ev_t, ev_c, reduceIte, Nat.reduceEqDiff, List.map_cons,
                      List.map_nil]⟩
                · simp only [hg107, run_guard (g := 46), guard_false, f99, run_fa, put1_some, Nat.reduceAdd, Nat.zero_add, Nat.add_zero, xfa_ref, run_ld, put_at, put_no, ev_t,
                    ev_c, reduceIte, Nat.reduceEqDiff, List.map_cons, List.map_nil]
                  refine put1_eq (v := .int .i64 x2.Begin) rfl ?_
                  simp only [hg107, run_guard (g := 46), guard_false, f99, run_fa, put1_some, Nat.reduceAdd, Nat.zero_add, Nat.add_zero, xfa_ref, run_ld, put_at, put_no, ev_t,
                      ev_c, reduceIte, Nat.reduceEqDiff, List.map_cons, List.map_nil]
                  refine put1_eq (v := .int .i64 x2.End) rfl ?_
                  simp only [hg107, run_guard (g := 46), guard_false, run_bin, put1_some, xgeq, run_pick, xpick_f, run_ops_nil, run_nil, put_at, put_no, ev_t, ev_c, reduceIte,
                      Nat.reduceEqDiff, List.map_cons, List.map_nil]
                  exact hN106 _ _ ⟨hS104, by rw [orF hg107]; simp only [put_at, put_no, ev_t, ev_c, reduceIte, Nat.reduceEqDiff, List.map_cons, List.map_nil], by simp only [f97,
                      put_at, put_no, ev_t, ev_c, reduceIte, Nat.reduceEqDiff, List.map_cons, List.map_nil], by simp only [f98, put_at, put_no, ev_t, ev_c, reduceIte,
                      Nat.reduceEqDiff, List.map_cons, List.map_nil], by simp only [f99, put_at, put_no, ev_t, ev_c, reduceIte, Nat.reduceEqDiff, List.map_cons, List.map_nil],
                      by simp only [f100, put_at, put_no, ev_t, ev_c, reduceIte, Nat.reduceEqDiff, List.map_cons, List.map_nil], by simp only [f101, put_at, put_no, ev_t, ev_c,
                      reduceIte, Nat.reduceEqDiff, List.map_cons, List.map_nil], by simp only [f102, put_at, put_no, ev_t, ev_c, reduceIte, Nat.reduceEqDiff, List.map_cons,
                      List.map_nil]⟩
              · rintro fr108 h116 ⟨hS117, f109, f110, f111, f112, f113, f114, f115⟩
                simp only [List.drop_succ_cons, List.drop_zero]
                simp only [run_ops_nil, f109, run_cond, put_at, put_no, ev_t, ev_c, reduceIte, Nat.reduceEqDiff, List.map_cons, List.map_nil]
                refine cond_split (t := ((((((!(impl_in x2.Client 0 3)) || (!(impl_in x2.Object 0 2))) || (!(impl_in x2.Value s31 9))) || (!(impl_in x2.Begin 0 100))) ||
                    (!(impl_in x2.End 0 100))) || (decide (x2.End ≤ x2.Begin)))) (fun hc118 => ?_) (fun hc118 => ?_)
                · rw [iteT hc118] at hk34
                  simp only [run_seq, run_reg, run_mv, run_ops_nil, run_ret, put_at, put_no, ev_t, ev_c, reduceIte, Nat.reduceEqDiff, List.map_cons, List.map_nil]
                  have e119 := some_inj hk34
                  subst e119
                  have ho120 := hr8 _ rfl
                  have hk121 := hk6
                  rw [ho120] at hk121
                  dsimp only [jnO] at hk121
                  apply hR12
                  have he := some_inj hk121
                  subst he
                  simp only [end_ret1, put_at, put_no, ev_t, ev_c, reduceIte, Nat.reduceEqDiff, List.map_cons, List.map_nil]
                  exact rfl
                · rw [iteF hc118] at hk34
                  obtain ⟨l122, hx123, hF124⟩ := bind_some' hk34
                  simp only [run_skip, x43_5, run_seq, run_reg, f110, run_mv, f111, run_slc, Option.map_some, Option.map_none, put_at, put_no, ev_t, ev_c, reduceIte,
                      Nat.reduceEqDiff, List.map_cons, List.map_nil]
                  refine put1_eq (pslc_lst_hi hx123 (fun _ => rfl)) ?_
                  simp only [run_len, put1_some, xlen_lst, run_mv, run_ops_nil, put_at, put_no, ev_t, ev_c, reduceIte, Nat.reduceEqDiff, List.map_cons, List.map_nil]
                  obtain ⟨oc127, hX129, hk130⟩ := jn_some hF124
                  simp only [x43_4]
                  refine rangeL_j (σ := Unit) l122 (fun i125 x126 _ => impl_areCalls_b1 x2 i125 x126 )
                      (fun s fr' h' => fr' 0 = lst Call.cells v_0 ∧ fr' 4 = .ref [.int .i64 x2.Client, .int .i64 x2.Object, .bool x2.Write, .int .i64 x2.Value, .int .i64 x2.Begin,
                      .int .i64 x2.End] 0 ∧ fr' 8 = lst Call.cells v_0 ∧ fr' 9 = .int .i64 (List.length v_0 : Int) ∧ fr' 10 = .int .i64
                      (i1 : Int) ∧ fr' 55 = lst Call.cells l122 ∧ Sep h' h.length ([])) hX129 ⟨by simp only [f110, put_at, put_no, ev_t, ev_c, reduceIte, Nat.reduceEqDiff,
                      List.map_cons, List.map_nil], by simp only [f112, put_at, put_no, ev_t, ev_c, reduceIte, Nat.reduceEqDiff, List.map_cons, List.map_nil], by simp only [f113,
                      put_at, put_no, ev_t, ev_c, reduceIte, Nat.reduceEqDiff, List.map_cons, List.map_nil], by simp only [f114, put_at, put_no, ev_t, ev_c, reduceIte,
                      Nat.reduceEqDiff, List.map_cons, List.map_nil], by simp only [f115, put_at, put_no, ev_t, ev_c, reduceIte, Nat.reduceEqDiff, List.map_cons, List.map_nil],
                      by simp only [put_at, put_no, ev_t, ev_c, reduceIte, Nat.reduceEqDiff, List.map_cons, List.map_nil], hS117⟩ (by simp only [put_at, put_no, ev_t, ev_c,
                      reduceIte, Nat.reduceEqDiff, List.map_cons, List.map_nil]) (by simp only [put_at, put_no, ev_t, ev_c, reduceIte, Nat.reduceEqDiff, List.map_cons,
                      List.map_nil]) (fun _ _ _ h => h) rfl rfl (fun _ _ _ _ h => h) (fun _ _ _ _ h => h) (fun _ _ _ _ h => h) (by decide) ?_ ?_
                  · rintro i125 x126 _ fr139 h140 hx148 ⟨f142, f143, f144, f145, f146, f147, hS141⟩ f149 f150 oc128 hF131 hr132 Q133 hN134 hB138 hK135 hR136 hE137
                    unfold impl_areCalls_b1 at hF131
                    simp only [x43_2, run_seq, run_reg, f147, f149, run_ia, put_at, put_no, ev_t, ev_c, reduceIte, Nat.reduceEqDiff, List.map_cons, List.map_nil]
                    refine put1_eq (v := .ref (Call.cells x126) 0) (xia_lstN hx148 rfl) ?_
                    simp only [run_ld, put_at, put_no, ev_t, ev_c, reduceIte, Nat.reduceEqDiff, List.map_cons, List.map_nil]
                    refine put1_eq (v := .agg [.int .i64 x126.Client, .int .i64 x126.Object, .bool x126.Write, .int .i64 x126.Value, .int .i64 x126.Begin,
                        .int .i64 x126.End]) rfl ?_
                    simp only [run_new, put_at, put_no, ev_t, ev_c, reduceIte, Nat.reduceEqDiff, List.map_cons, List.map_nil]
                    refine put2_newC hS141 (fun b151 h152 hS153 => ?_)
                    simp only [run_st, put_at, put_no, ev_t, ev_c, reduceIte, Nat.reduceEqDiff, List.map_cons, List.map_nil]
                    refine put2_stC (cs' := [.int .i64 x126.Client, .int .i64 x126.Object, .bool x126.Write, .int .i64 x126.Value, .int .i64 x126.Begin,
                        .int .i64 x126.End]) hS153 hW rfl rfl (Nat.le_of_ble_eq_true rfl) rfl (fun h155 hS156 => ?_)
                    simp only [put_no, run_ops_nil, put_at, ev_t, ev_c, reduceIte, Nat.reduceEqDiff, List.map_cons, List.map_nil]
                    refine frz_stepC hS156 hW (by simp only [put_at, put_no, ev_t, ev_c, reduceIte, Nat.reduceEqDiff, List.map_cons, List.map_nil]) (fun h157 hS158 => ?_)
                    simp only [run_frz_nil, x43_1, run_seq, run_reg, f143, run_fa, put1_some, Nat.reduceAdd, Nat.zero_add, Nat.add_zero, xfa_ref, run_ld, put_at, put_no, ev_t,
                        ev_c, reduceIte, Nat.reduceEqDiff, List.map_cons, List.map_nil]
                    refine put1_eq (v := .int .i64 x2.Client) rfl ?_
                    simp only [run_fa, put1_some, Nat.reduceAdd, Nat.zero_add, Nat.add_zero, xfa_ref, run_ld, put_at, put_no, ev_t, ev_c, reduceIte, Nat.reduceEqDiff,
                        List.map_cons, List.map_nil]
                    refine put1_eq (v := .int .i64 x126.Client) rfl ?_
                    simp only [run_bin, put1_some, xeql, run_mv, put_at, put_no, ev_t, ev_c, reduceIte, Nat.reduceEqDiff, List.map_cons, List.map_nil]
                    refine ops_j 6 (fun fr' h' => Sep h' h.length ([]) ∧ fr' 72 = .bool ((decide (x2.Client = x126.Client)) && (decide
                        (x126.Begin < x2.End))) ∧ fr' 0 = lst Call.cells v_0 ∧ fr' 4 = .ref [.int .i64 x2.Client, .int .i64 x2.Object, .bool x2.Write, .int .i64 x2.Value,
                        .int .i64 x2.Begin, .int .i64 x2.End] 0 ∧ fr' 7 = .ref [.int .i64 x126.Client, .int .i64 x126.Object, .bool x126.Write, .int .i64 x126.Value,
                        .int .i64 x126.Begin, .int .i64 x126.End] 0 ∧ fr' 8 = lst Call.cells v_0 ∧ fr' 9 = .int .i64 (List.length v_0 : Int) ∧ fr' 10 = .int .i64
                        (i1 : Int) ∧ fr' 55 = lst Call.cells l122 ∧ fr' 56 = .int .i64 (List.length l122 : Int) ∧ fr' 57 = .int .i64 (i125 : Int)) (fun Q159 hN160 => ?_) ?_
                    · simp only [List.take_succ_cons, List.take_zero]
                      simp only [run_guard (g := 66), put_at, put_no, ev_t, ev_c, reduceIte, Nat.reduceEqDiff, List.map_cons, List.map_nil]
                      refine guard_split (t := (decide (x2.Client = x126.Client))) (fun hg161 => ?_) (fun hg161 => ?_)
                      · simp only [hg161, run_guard (g := 66), guard_true, f143, run_fa, put1_some, Nat.reduceAdd, Nat.zero_add, Nat.add_zero, xfa_ref, run_ld, put_at, put_no,
                          ev_t, ev_c, reduceIte, Nat.reduceEqDiff, List.map_cons, List.map_nil]
                        refine put1_eq (v := .int .i64 x2.End) rfl ?_
                        simp only [hg161, run_guard (g := 66), guard_true, run_fa, put1_some, Nat.reduceAdd, Nat.zero_add, Nat.add_zero, xfa_ref, run_ld, put_at, put_no, ev_t,
                            ev_c, reduceIte, Nat.reduceEqDiff, List.map_cons, List.map_nil]
                        refine put1_eq (v := .int .i64 x126.Begin) rfl ?_
                        simp only [hg161, run_guard (g := 66), guard_true, run_bin, put1_some, xgtr, run_pick, xpick_t, run_ops_nil, run_nil, put_at, put_no, ev_t, ev_c,
                            reduceIte, Nat.reduceEqDiff, List.map_cons, List.map_nil]
                        exact hN160 _ _ ⟨hS158, by rw [andT hg161]; simp only [put_at, put_no, ev_t, ev_c, reduceIte, Nat.reduceEqDiff, List.map_cons, List.map_nil],
                            by simp only [f142, put_at, put_no, ev_t, ev_c, reduceIte, Nat.reduceEqDiff, List.map_cons, List.map_nil], by simp only [f143, put_at, put_no, ev_t,
                            ev_c, reduceIte, Nat.reduceEqDiff, List.map_cons, List.map_nil], by simp only [put_at, put_no, ev_t, ev_c, reduceIte, Nat.reduceEqDiff, List.map_cons,
                            List.map_nil], by simp only [f144, put_at, put_no, ev_t, ev_c, reduceIte, Nat.reduceEqDiff, List.map_cons, List.map_nil], by simp only [f145, put_at,
                            put_no, ev_t, ev_c, reduceIte, Nat.reduceEqDiff, List.map_cons, List.map_nil], by simp only [f146, put_at, put_no, ev_t, ev_c, reduceIte,
                            Nat.reduceEqDiff, List.map_cons, List.map_nil], by simp only [f147, put_at, put_no, ev_t, ev_c, reduceIte, Nat.reduceEqDiff, List.map_cons,
                            List.map_nil], by simp only [f150, put_at, put_no, ev_t, ev_c, reduceIte, Nat.reduceEqDiff, List.map_cons, List.map_nil], by simp only [f149, put_at,
                            put_no, ev_t, ev_c, reduceIte, Nat.reduceEqDiff, List.map_cons, List.map_nil]⟩
                      · simp only [hg161, run_guard (g := 66), guard_off, run_pick, put1_some, xpick_f, run_ops_nil, run_nil, put_at, put_no, ev_t, ev_c, reduceIte,
                          Nat.reduceEqDiff, List.map_cons, List.map_nil]
                        exact hN160 _ _ ⟨hS158, by rw [andF hg161]; simp only [put_at, put_no, ev_t, ev_c, reduceIte, Nat.reduceEqDiff, List.map_cons, List.map_nil],
                            by simp only [f142, put_at, put_no, ev_t, ev_c, reduceIte, Nat.reduceEqDiff, List.map_cons, List.map_nil], by simp only [f143, put_at, put_no, ev_t,
                            ev_c, reduceIte, Nat.reduceEqDiff, List.map_cons, List.map_nil], by simp only [put_at, put_no, ev_t, ev_c, reduceIte, Nat.reduceEqDiff, List.map_cons,
                            List.map_nil], by simp only [f144, put_at, put_no, ev_t, ev_c, reduceIte, Nat.reduceEqDiff, List.map_cons, List.map_nil], by simp only [f145, put_at,
                            put_no, ev_t, ev_c, reduceIte, Nat.reduceEqDiff, List.map_cons, List.map_nil], by simp only [f146, put_at, put_no, ev_t, ev_c, reduceIte,
                            Nat.reduceEqDiff, List.map_cons, List.map_nil], by simp only [f147, put_at, put_no, ev_t, ev_c, reduceIte, Nat.reduceEqDiff, List.map_cons,
                            List.map_nil], by simp only [f150, put_at, put_no, ev_t, ev_c, reduceIte, Nat.reduceEqDiff, List.map_cons, List.map_nil], by simp only [f149, put_at,
                            put_no, ev_t, ev_c, reduceIte, Nat.reduceEqDiff, List.map_cons, List.map_nil]⟩
                    · rintro fr162 h173 ⟨hS174, f163, f164, f165, f166, f167, f168, f169, f170, f171, f172⟩
                      simp only [List.drop_succ_cons, List.drop_zero]
                      simp only [f163, run_mv, put_at, put_no, ev_t, ev_c, reduceIte, Nat.reduceEqDiff, List.map_cons, List.map_nil]
                      refine ops_j 6 (fun fr' h' => Sep h' h.length ([]) ∧ fr' 79 = .bool (((decide (x2.Client = x126.Client)) && (decide (x126.Begin < x2.End))) && (decide
                          (x2.Begin < x126.End))) ∧ fr' 0 = lst Call.cells v_0 ∧ fr' 4 = .ref [.int .i64 x2.Client, .int .i64 x2.Object, .bool x2.Write, .int .i64 x2.Value,
                          .int .i64 x2.Begin, .int .i64 x2.End] 0 ∧ fr' 8 = lst Call.cells v_0 ∧ fr' 9 = .int .i64 (List.length v_0 : Int) ∧ fr' 10 = .int .i64
                          (i1 : Int) ∧ fr' 55 = lst Call.cells l122 ∧ fr' 56 = .int .i64 (List.length l122 : Int) ∧ fr' 57 = .int .i64 (i125 : Int)) (fun Q175 hN176 => ?_) ?_
                      · simp only [List.take_succ_cons, List.take_zero]
                        simp only [run_guard (g := 73), put_at, put_no, ev_t, ev_c, reduceIte, Nat.reduceEqDiff, List.map_cons, List.map_nil]
                        refine guard_split (t := ((decide (x2.Client = x126.Client)) && (decide (x126.Begin < x2.End)))) (fun hg177 => ?_) (fun hg177 => ?_)
                        · simp only [hg177, run_guard (g := 73), guard_true, f166, run_fa, put1_some, Nat.reduceAdd, Nat.zero_add, Nat.add_zero, xfa_ref, run_ld, put_at, put_no,
                            ev_t, ev_c, reduceIte, Nat.reduceEqDiff, List.map_cons, List.map_nil]
                          refine put1_eq (v := .int .i64 x126.End) rfl ?_
                          simp only [hg177, run_guard (g := 73), guard_true, f165, run_fa, put1_some, Nat.reduceAdd, Nat.zero_add, Nat.add_zero, xfa_ref, run_ld, put_at, put_no,
                              ev_t, ev_c, reduceIte, Nat.reduceEqDiff, List.map_cons, List.map_nil]
                          refine put1_eq (v := .int .i64 x2.Begin) rfl ?_
                          simp only [hg177, run_guard (g := 73), guard_true, run_bin, put1_some, xgtr, run_pick, xpick_t, run_ops_nil, run_nil, put_at, put_no, ev_t, ev_c,
                              reduceIte, Nat.reduceEqDiff, List.map_cons, List.map_nil]
                          exact hN176 _ _ ⟨hS174, by rw [andT hg177]; simp only [put_at, put_no, ev_t, ev_c, reduceIte, Nat.reduceEqDiff, List.map_cons, List.map_nil],
                              by simp only [f164, put_at, put_no, ev_t, ev_c, reduceIte, Nat.reduceEqDiff, List.map_cons, List.map_nil], by simp only [f165, put_at, put_no, ev_t,
                              ev_c, reduceIte, Nat.reduceEqDiff, List.map_cons, List.map_nil], by simp only [f167, put_at, put_no, ev_t, ev_c, reduceIte, Nat.reduceEqDiff,
                              List.map_cons, List.map_nil], by simp only [f168, put_at, put_no, ev_t, ev_c, reduceIte, Nat.reduceEqDiff, List.map_cons, List.map_nil],
                              by simp only [f169, put_at, put_no, ev_t, ev_c, reduceIte, Nat.reduceEqDiff, List.map_cons, List.map_nil], by simp only [f170, put_at, put_no, ev_t,
                              ev_c, reduceIte, Nat.reduceEqDiff, List.map_cons, List.map_nil], by simp only [f171, put_at, put_no, ev_t, ev_c, reduceIte, Nat.reduceEqDiff,
                              List.map_cons, List.map_nil], by simp only [f172, put_at, put_no, ev_t, ev_c, reduceIte, Nat.reduceEqDiff, List.map_cons, List.map_nil]⟩
                        · simp only [hg177, run_guard (g := 73), guard_off, run_pick, put1_some, xpick_f, run_ops_nil, run_nil, put_at, put_no, ev_t, ev_c, reduceIte,
                            Nat.reduceEqDiff, List.map_cons, List.map_nil]
                          exact hN176 _ _ ⟨hS174, by rw [andF hg177]; simp only [put_at, put_no, ev_t, ev_c, reduceIte, Nat.reduceEqDiff, List.map_cons, List.map_nil],
                              by simp only [f164, put_at, put_no, ev_t, ev_c, reduceIte, Nat.reduceEqDiff, List.map_cons, List.map_nil], by simp only [f165, put_at, put_no, ev_t,
                              ev_c, reduceIte, Nat.reduceEqDiff, List.map_cons, List.map_nil], by simp only [f167, put_at, put_no, ev_t, ev_c, reduceIte, Nat.reduceEqDiff,
                              List.map_cons, List.map_nil], by simp only [f168, put_at, put_no, ev_t, ev_c, reduceIte, Nat.reduceEqDiff, List.map_cons, List.map_nil],
                              by simp only [f169, put_at, put_no, ev_t, ev_c, reduceIte, Nat.reduceEqDiff, List.map_cons, List.map_nil], by simp only [f170, put_at, put_no, ev_t,
                              ev_c, reduceIte, Nat.reduceEqDiff, List.map_cons, List.map_nil], by simp only [f171, put_at, put_no, ev_t, ev_c, reduceIte, Nat.reduceEqDiff,
                              List.map_cons, List.map_nil], by simp only [f172, put_at, put_no, ev_t, ev_c, reduceIte, Nat.reduceEqDiff, List.map_cons, List.map_nil]⟩
                      · rintro fr178 h188 ⟨hS189, f179, f180, f181, f182, f183, f184, f185, f186, f187⟩
                        simp only [List.drop_succ_cons, List.drop_zero]
                        simp only [run_ops_nil, f179, run_cond, put_at, put_no, ev_t, ev_c, reduceIte, Nat.reduceEqDiff, List.map_cons, List.map_nil]
                        refine cond_split (t := (((decide (x2.Client = x126.Client)) && (decide (x126.Begin < x2.End))) && (decide (x2.Begin < x126.End)))) (fun hc190 => ?_)
                            (fun hc190 => ?_)
                        · rw [iteT hc190] at hF131
                          simp only [run_seq, run_reg, run_mv, run_ops_nil, run_ret, put_at, put_no, ev_t, ev_c, reduceIte, Nat.reduceEqDiff, List.map_cons, List.map_nil]
                          have e191 := some_inj hF131
                          subst e191
                          have ho192 := hr132 _ rfl
                          have hk193 := hk130
                          rw [ho192] at hk193
                          dsimp only [jnO] at hk193
                          apply hR136
                          have e194 := some_inj hk193
                          subst e194
                          have ho195 := hr8 _ rfl
                          have hk196 := hk6
                          rw [ho195] at hk196
                          dsimp only [jnO] at hk196
                          apply hR12
                          have he := some_inj hk196
                          subst he
                          simp only [end_ret1, put_at, put_no, ev_t, ev_c, reduceIte, Nat.reduceEqDiff, List.map_cons, List.map_nil]
                          exact rfl
                        · rw [iteF hc190] at hF131
                          simp only [run_skip, run_nil, put_at, put_no, ev_t, ev_c, reduceIte, Nat.reduceEqDiff, List.map_cons, List.map_nil]
                          have e197 := some_inj hF131
                          exact hN134 _ _ _ e197.symm ⟨by simp only [f180, put_at, put_no, ev_t, ev_c, reduceIte, Nat.reduceEqDiff, List.map_cons, List.map_nil],
                              by simp only [f181, put_at, put_no, ev_t, ev_c, reduceIte, Nat.reduceEqDiff, List.map_cons, List.map_nil], by simp only [f182, put_at, put_no, ev_t,
                              ev_c, reduceIte, Nat.reduceEqDiff, List.map_cons, List.map_nil], by simp only [f183, put_at, put_no, ev_t, ev_c, reduceIte, Nat.reduceEqDiff,
                              List.map_cons, List.map_nil], by simp only [f184, put_at, put_no, ev_t, ev_c, reduceIte, Nat.reduceEqDiff, List.map_cons, List.map_nil],
                              by simp only [f185, put_at, put_no, ev_t, ev_c, reduceIte, Nat.reduceEqDiff, List.map_cons, List.map_nil], hS189⟩ (by simp only [f187, put_at,
                              put_no, ev_t, ev_c, reduceIte, Nat.reduceEqDiff, List.map_cons, List.map_nil]) (by simp only [f186, put_at, put_no, ev_t, ev_c, reduceIte,
                              Nat.reduceEqDiff, List.map_cons, List.map_nil])
                  · rintro _ fr199 h200 rfl ⟨f202, f203, f204, f205, f206, f207, hS201⟩
                    dsimp only [jnO] at hk130
                    unfold impl_areCalls_j2 at hk130
                    simp only [run_nil, put_at, put_no, ev_t, ev_c, reduceIte, Nat.reduceEqDiff, List.map_cons, List.map_nil]
                    have e208 := some_inj hk130
                    exact hN10 _ _ _ e208.symm ⟨by simp only [f202, put_at, put_no, ev_t, ev_c, reduceIte, Nat.reduceEqDiff, List.map_cons, List.map_nil], by simp only [f204,
                        put_at, put_no, ev_t, ev_c, reduceIte, Nat.reduceEqDiff, List.map_cons, List.map_nil], hS201⟩ (by simp only [f206, put_at, put_no, ev_t, ev_c, reduceIte,
                        Nat.reduceEqDiff, List.map_cons, List.map_nil]) (by simp only [f205, put_at, put_no, ev_t, ev_c, reduceIte, Nat.reduceEqDiff, List.map_cons, List.map_nil])
  · rintro _ fr212 h213 rfl ⟨f215, f216, hS214⟩
    dsimp only [jnO] at hk6
    unfold impl_areCalls_j3 at hk6
    simp only [x43_12, run_seq, run_reg, f215, run_mv, run_len, put1_some, xlen_lst, run_bin, xleq, run_ops_nil, run_ret, put_at, put_no, ev_t, ev_c, reduceIte, Nat.reduceEqDiff,
        List.map_cons, List.map_nil]
    have he := some_inj hk6
    subst he
    simp only [end_ret1, put_at, put_no, ev_t, ev_c, reduceIte, Nat.reduceEqDiff, List.map_cons, List.map_nil]
    exact rfl
theorem slices_IndexFunc_Call_x {W : Nat → Bool} {h : Heap} (hW : ∀ b,
    h.length ≤ b → W b = true) (s_0 : List Call) {g1 : Nat} {caps1 : List XV} (hm1 : E.mode g1 = 1) (f_1 : Call → Option Bool) (hf1 : ∀ (W : Nat → Bool) (h : Heap), (∀ b,
    h.length ≤ b → W b = true) → ∀ a0 r, f_1 a0 = some r → Ret E W g1 ([.agg [.int .i64 a0.Client, .int .i64 a0.Object, .bool a0.Write, .int .i64 a0.Value, .int .i64 a0.Begin,
    .int .i64 a0.End]] ++ caps1) h (fun v h' => cut h.length h' E.sz false 9 v = some (.bool r))) (r : Int)
    (hF : slices_IndexFunc_Call s_0 f_1 = some r) : Ret E W 65 [lst Call.cells s_0, .fn g1 caps1] h (fun v h' => cut h.length h' E.sz false 9 v = some (.int .i64 r)) := by
  refine Ret.of (fn := x65) rfl (Run.of ?_)
  unfold slices_IndexFunc_Call at hF
  have zf0 : argFr [lst Call.cells s_0, .fn g1 caps1] 0 = lst Call.cells s_0 := rfl
  have zf1 : argFr [lst Call.cells s_0, .fn g1 caps1] 1 = .fn g1 caps1 := rfl
  generalize argFr [lst Call.cells s_0, .fn g1 caps1] = fr0 at zf0 zf1 ⊢
  have hS : Sep h h.length [] := Sep.nil h
  simp only [x65, run_seq, run_reg, run_mv, run_ops_nil, x65_6, zf0, run_len, put1_some, xlen_lst, put_at, put_no, ev_t, ev_c, reduceIte, Nat.reduceEqDiff, List.map_cons,
      List.map_nil]
  obtain ⟨oc3, hX5, hk6⟩ := jn_some hF
  simp only [x65_5]
  refine rangeL_j (σ := Unit) s_0 (fun i1 x2 _ => slices_IndexFunc_Call_b1 f_1 i1 x2 ) (fun s fr' h' => fr' 0 = lst Call.cells s_0 ∧ fr' 1 = .fn g1 caps1 ∧ Sep h' h.length
      ([])) hX5 ⟨by simp only [zf0, put_at, put_no, ev_t, ev_c, reduceIte, Nat.reduceEqDiff, List.map_cons, List.map_nil], by simp only [zf1, put_at, put_no, ev_t, ev_c,
      reduceIte, Nat.reduceEqDiff, List.map_cons, List.map_nil], hS⟩ (by simp only [put_at, put_no, ev_t, ev_c, reduceIte, Nat.reduceEqDiff, List.map_cons,
      List.map_nil]) (by simp only [put_at, put_no, ev_t, ev_c, reduceIte, Nat.reduceEqDiff, List.map_cons,
      List.map_nil]) (fun _ _ _ h => h) rfl rfl (fun _ _ _ _ h => h) (fun _ _ _ _ h => h) (fun _ _ _ _ h => h) (by decide) ?_ ?_
  · rintro i1 x2 _ fr15 h16 hx20 ⟨f18, f19, hS17⟩ f21 f22 oc4 hF7 hr8 Q9 hN10 hB14 hK11 hR12 hE13
    unfold slices_IndexFunc_Call_b1 at hF7
    simp only [x65_3, run_seq, run_reg, f21, run_mv, run_ops_nil, x65_2, f19, f18, run_ia, put_at, put_no, ev_t, ev_c, reduceIte, Nat.reduceEqDiff, List.map_cons, List.map_nil]
    refine put1_eq (v := .ref (Call.cells x2) 0) (xia_lstN hx20 rfl) ?_
    simp only [run_ld, put_at, put_no, ev_t, ev_c, reduceIte, Nat.reduceEqDiff, List.map_cons, List.map_nil]
    refine put1_eq (v := .agg [.int .i64 x2.Client, .int .i64 x2.Object, .bool x2.Write, .int .i64 x2.Value, .int .i64 x2.Begin, .int .i64 x2.End]) rfl ?_
    obtain ⟨v23, hx24, hF25⟩ := bind_some' hF7
    simp only [run_call, put_at, put_no, ev_t, ev_c, reduceIte, Nat.reduceEqDiff, List.map_cons, List.map_nil]
    refine call1 hm1 (mapM1 (snap_agg (mapM1 snap_int (mapM1 snap_int (mapM1 snap_bool (mapM1 snap_int (mapM1 snap_int (mapM1 snap_int mapM0))))))) mapM0) (hf1 _ _
        (fun b hb => decide_eq_true hb) x2 v23 hx24) ?_
    simp only [run_ops_nil, x65_1, run_cond, put_at, put_no, ev_t, ev_c, reduceIte, Nat.reduceEqDiff, List.map_cons, List.map_nil]
    refine cond_split (t := v23) (fun hc26 => ?_) (fun hc26 => ?_)
    · rw [iteT hc26] at hF25
      simp only [run_seq, run_reg, run_mv, run_ops_nil, run_ret, put_at, put_no, ev_t, ev_c, reduceIte, Nat.reduceEqDiff, List.map_cons, List.map_nil]
      have e27 := some_inj hF25
      subst e27
      have ho28 := hr8 _ rfl
      have hk29 := hk6
      rw [ho28] at hk29
      dsimp only [jnO] at hk29
      apply hR12
      have he := some_inj hk29
      subst he
      simp only [end_ret1, put_at, put_no, ev_t, ev_c, reduceIte, Nat.reduceEqDiff, List.map_cons, List.map_nil]
      exact rfl
    · rw [iteF hc26] at hF25
      simp only [run_skip, run_nil, put_at, put_no, ev_t, ev_c, reduceIte, Nat.reduceEqDiff, List.map_cons, List.map_nil]
      have e30 := some_inj hF25
      exact hN10 _ _ _ e30.symm ⟨by simp only [f18, put_at, put_no, ev_t, ev_c, reduceIte, Nat.reduceEqDiff, List.map_cons, List.map_nil], by simp only [f19, put_at, put_no, ev_t,
          ev_c, reduceIte, Nat.reduceEqDiff, List.map_cons, List.map_nil], hS17⟩ (by simp only [f21, put_at, put_no, ev_t, ev_c, reduceIte, Nat.reduceEqDiff, List.map_cons,
          List.map_nil]) (by simp only [f22, put_at, put_no, ev_t, ev_c, reduceIte, Nat.reduceEqDiff, List.map_cons, List.map_nil])
  · rintro _ fr32 h33 rfl ⟨f35, f36, hS34⟩
    dsimp only [jnO] at hk6
    unfold slices_IndexFunc_Call_j1 at hk6
    simp only [run_seq, run_reg, run_mv, run_ops_nil, run_ret, put_at, put_no, ev_t, ev_c, reduceIte, Nat.reduceEqDiff, List.map_cons, List.map_nil]
    have he := some_inj hk6
    subst he
    simp only [end_ret1, put_at, put_no, ev_t, ev_c, reduceIte, Nat.reduceEqDiff, List.map_cons, List.map_nil]
    exact rfl
end Go.Proofs.Ytddkoiapboeemaa.X
namespace Go.Proofs.Ytddkoiapboeemaa.X
open Go
theorem slices_DeleteFunc_Call_x {W : Nat → Bool} {h : Heap} {lo : Nat} {S0 : List Obj} (hW : ∀ b,
    lo ≤ b → W b = true) (k : Nat) (pv0 : XV) (pc0 : List Obj) (s_0 : List Call) (ph0 : SlF Call.cells 6 55 pv0 s_0 pc0) {g1 : Nat} {caps1 : List XV} (hm1 : E.mode g1 = 1)
    (del_1 : Call → Option Bool) (hf1 : ∀ (W : Nat → Bool) (h : Heap), (∀ b, h.length ≤ b → W b = true) → ∀ a0 r, del_1 a0 = some r → Ret E W g1 ([.agg [.int .i64 a0.Client,
    .int .i64 a0.Object, .bool a0.Write, .int .i64 a0.Value, .int .i64 a0.Begin,
    .int .i64 a0.End]] ++ caps1) h (fun v h' => cut h.length h' E.sz false 9 v = some (.bool r))) (r : List Call) (hF : slices_DeleteFunc_Call k s_0 del_1 = some r)
    (hS : Sep h lo (pc0 ++ (S0))) : Ret E W 45 [pv0, .fn g1 caps1] h (fun v h' => ∃ rv0 rc0, v = rv0 ∧ SlF Call.cells 6 55 rv0 r rc0 ∧ Sep h' lo (rc0 ++ (S0))) := by
  refine Ret.of (fn := x45) rfl (Run.of ?_)
  unfold slices_DeleteFunc_Call at hF
  have zf0 : argFr [pv0, .fn g1 caps1] 0 = pv0 := rfl
  have zf1 : argFr [pv0, .fn g1 caps1] 1 = .fn g1 caps1 := rfl
  generalize argFr [pv0, .fn g1 caps1] = fr0 at zf0 zf1 ⊢
  obtain ⟨v1, hx2, hF3⟩ := bind_some' hF
  simp only [x45, run_seq, run_reg, run_mv, run_ops_nil, x45_14, zf0, zf1, run_call, put_at, put_no, ev_t, ev_c, reduceIte, Nat.reduceEqDiff, List.map_cons, List.map_nil]
  refine call1 rfl (mapM1 (SlF.snap ph0 hS rfl (fun _ => rfl) (fun _ => rfl)) (mapM1 snap_fn mapM0)) (slices_IndexFunc_Call_x (fun b hb => decide_eq_true hb) s_0 (g1 := g1)
      (caps1 := caps1) hm1 del_1 hf1 v1 hx2) ?_
  simp only [run_mv, run_ops_nil, x45_13, run_seq, run_reg, run_bin, put1_some, xeql, x45_1, run_cond, put_at, put_no, ev_t, ev_c, reduceIte, Nat.reduceEqDiff, List.map_cons,
      List.map_nil]
  refine cond_split (t := (decide (v1 = (-1)))) (fun hc4 => ?_) (fun hc4 => ?_)
  · rw [iteT hc4] at hF3
    simp only [run_seq, run_reg, zf0, run_mv, run_ops_nil, run_ret, put_at, put_no, ev_t, ev_c, reduceIte, Nat.reduceEqDiff, List.map_cons, List.map_nil]
    have he := some_inj hF3
    subst he
    simp only [end_ret1, put_at, put_no, ev_t, ev_c, reduceIte, Nat.reduceEqDiff, List.map_cons, List.map_nil]
    exact ⟨pv0, pc0, by first | trivial | rfl, ph0, hS⟩
  · rw [iteF hc4] at hF3
    simp only [run_skip, x45_12, run_seq, run_reg, run_mv, run_bin, put1_some, xadd, run_ops_nil, put_at, put_no, ev_t, ev_c, reduceIte, Nat.reduceEqDiff, List.map_cons,
        List.map_nil]
    obtain ⟨oc17, hX19, hk20⟩ := jn_some hF3
    simp only [x45_9]
    refine loopF_j (σ := Int × Int × (List Call)) (fun s66 => slices_DeleteFunc_Call_b1 del_1 s66.1 s66.2.1 s66.2.2) (fun s fr' h' => ∃ c13,
        fr' 0 = pv0 ∧ fr' 1 = .fn g1 caps1 ∧ fr' 5 = .int .i64 s.1 ∧ fr' 6 = .int .i64 s.2.1 ∧ SlF Call.cells 6 55 pv0 s.2.2 c13 ∧ Sep h' lo (c13 ++ (S0))) hX19 ⟨pc0,
        by simp only [zf0, put_at, put_no, ev_t, ev_c, reduceIte, Nat.reduceEqDiff, List.map_cons, List.map_nil], by simp only [zf1, put_at, put_no, ev_t, ev_c, reduceIte,
        Nat.reduceEqDiff, List.map_cons, List.map_nil], by simp only [put_at, put_no, ev_t, ev_c, reduceIte, Nat.reduceEqDiff, List.map_cons, List.map_nil], by simp only [put_at,
        put_no, ev_t, ev_c, reduceIte, Nat.reduceEqDiff, List.map_cons, List.map_nil], ph0, hS⟩ (fun _ _ _ h => h) ?_ ?_
    · rintro ⟨s10, s11, s12⟩ fr29 h30 ⟨c13, f32, f33, f34, f35, hv14, hS31⟩ oc18 hF21 hr22 Q23 hN24 hK25 hR26 hE27
      dsimp only at *
      unfold slices_DeleteFunc_Call_b1 at hF21
      simp only [x45_7, run_seq, run_reg, f35, run_mv, f32, run_len, put1_some, SlF.plen hv14, run_bin, xlss, run_ops_nil, run_cond, put_at, put_no, ev_t, ev_c, reduceIte,
          Nat.reduceEqDiff, List.map_cons, List.map_nil]
      refine cond_split (t := (decide (s11 < (List.length s12 : Int)))) (fun hc37 => ?_) (fun hc37 => ?_)
      · rw [iteT hc37] at hF21
        obtain ⟨x38, hx39, hF40⟩ := bind_some' hF21
        simp only [run_skip, x45_6, run_seq, run_block, x45_5, run_reg, f32, run_mv, f35, run_ia, put_at, put_no, ev_t, ev_c, reduceIte, Nat.reduceEqDiff, List.map_cons,
            List.map_nil]
        obtain ⟨b41, hb42⟩ := SlF.isrow hv14 (geti_ne hx39)
        refine put1_eq (SlF.ia hv14 hb42 hx39) ?_
        simp only [run_ld, put_at, put_no, ev_t, ev_c, reduceIte, Nat.reduceEqDiff, List.map_cons, List.map_nil]
        refine put1_eq (v := .agg [.int .i64 x38.Client, .int .i64 x38.Object, .bool x38.Write, .int .i64 x38.Value, .int .i64 x38.Begin,
            .int .i64 x38.End]) ((SlF.lds (o := 0) hv14 hS31 hb42 hx39 (fun _ => rfl) (Nat.le_of_ble_eq_true rfl)).trans rfl) ?_
        simp only [run_new, put_at, put_no, ev_t, ev_c, reduceIte, Nat.reduceEqDiff, List.map_cons, List.map_nil]
        refine put2_newC hS31 (fun b43 h44 hS45 => ?_)
        simp only [run_st, put_at, put_no, ev_t, ev_c, reduceIte, Nat.reduceEqDiff, List.map_cons, List.map_nil]
        refine put2_stC (cs' := [.int .i64 x38.Client, .int .i64 x38.Object, .bool x38.Write, .int .i64 x38.Value, .int .i64 x38.Begin,
            .int .i64 x38.End]) hS45 hW rfl rfl (Nat.le_of_ble_eq_true rfl) rfl (fun h47 hS48 => ?_)
        simp only [put_no, run_ops_nil, put_at, ev_t, ev_c, reduceIte, Nat.reduceEqDiff, List.map_cons, List.map_nil]
        refine frz_stepC hS48 hW (by simp only [put_at, put_no, ev_t, ev_c, reduceIte, Nat.reduceEqDiff, List.map_cons, List.map_nil]) (fun h49 hS50 => ?_)
        simp only [run_frz_nil, x45_4, run_seq, run_reg, f33, run_mv, run_ld, put_at, put_no, ev_t, ev_c, reduceIte, Nat.reduceEqDiff, List.map_cons, List.map_nil]
        refine put1_eq (v := .agg [.int .i64 x38.Client, .int .i64 x38.Object, .bool x38.Write, .int .i64 x38.Value, .int .i64 x38.Begin, .int .i64 x38.End]) rfl ?_
        obtain ⟨v51, hx52, hF53⟩ := bind_some' hF40
        simp only [run_call, put_at, put_no, ev_t, ev_c, reduceIte, Nat.reduceEqDiff, List.map_cons, List.map_nil]
        refine call1 hm1 (mapM1 (snap_agg (mapM1 snap_int (mapM1 snap_int (mapM1 snap_bool (mapM1 snap_int (mapM1 snap_int (mapM1 snap_int mapM0))))))) mapM0) (hf1 _ _
            (fun b hb => decide_eq_true hb) x38 v51 hx52) ?_
        simp only [run_un, put1_some, xnot, run_ops_nil, x45_3, run_cond, put_at, put_no, ev_t, ev_c, reduceIte, Nat.reduceEqDiff, List.map_cons, List.map_nil]
        refine cond_split (t := (!v51)) (fun hc54 => ?_) (fun hc54 => ?_)
        · rw [iteT hc54] at hF53
          simp only [x45_2, run_seq, run_reg, f32, run_mv, f34, run_ld, put_at, put_no, ev_t, ev_c, reduceIte, Nat.reduceEqDiff, List.map_cons, List.map_nil]
          refine put1_eq (v := .agg [.int .i64 x38.Client, .int .i64 x38.Object, .bool x38.Write, .int .i64 x38.Value, .int .i64 x38.Begin, .int .i64 x38.End]) rfl ?_
          obtain ⟨x55, hx56, hF57⟩ := bind_some' hF53
          simp only [run_ia, put_at, put_no, ev_t, ev_c, reduceIte, Nat.reduceEqDiff, List.map_cons, List.map_nil]
          refine put1_eq (SlF.ia hv14 hb42 hx56) ?_
          simp only [run_st, put_at, put_no, ev_t, ev_c, reduceIte, Nat.reduceEqDiff, List.map_cons, List.map_nil]
          refine put2_stF (f := Call.cells) (x' := x38) (o := 0) hv14 hS50 hW hb42 hx56 (fun _ => rfl) rfl rfl (Nat.le_of_ble_eq_true rfl) rfl (fun c60 h58 hv61 hS59 => ?_)
          have hx62 := geti_set (x' := x38) hx56
          simp only [put_no, run_ops_nil, run_reg, f34, run_mv, run_bin, put1_some, xadd, run_blk, f35, run_nil, put_at, ev_t, ev_c, reduceIte, Nat.reduceEqDiff, List.map_cons,
              List.map_nil]
          have e63 := some_inj hF57
          exact hN24 _ _ _ e63.symm ⟨c60, by simp only [f32, put_at, put_no, ev_t, ev_c, reduceIte, Nat.reduceEqDiff, List.map_cons, List.map_nil], by simp only [f33, put_at,
              put_no, ev_t, ev_c, reduceIte, Nat.reduceEqDiff, List.map_cons, List.map_nil], by simp only [put_at, put_no, ev_t, ev_c, reduceIte, Nat.reduceEqDiff, List.map_cons,
              List.map_nil], by simp only [put_at, put_no, ev_t, ev_c, reduceIte, Nat.reduceEqDiff, List.map_cons, List.map_nil], hv61, hS59⟩
        · rw [iteF hc54] at hF53
          simp only [run_skip, run_blk, run_reg, f35, run_mv, run_bin, put1_some, xadd, run_ops_nil, run_nil, put_at, put_no, ev_t, ev_c, reduceIte, Nat.reduceEqDiff,
              List.map_cons, List.map_nil]
          have e64 := some_inj hF53
          exact hN24 _ _ _ e64.symm ⟨c13, by simp only [f32, put_at, put_no, ev_t, ev_c, reduceIte, Nat.reduceEqDiff, List.map_cons, List.map_nil], by simp only [f33, put_at,
              put_no, ev_t, ev_c, reduceIte, Nat.reduceEqDiff, List.map_cons, List.map_nil], by simp only [f34, put_at, put_no, ev_t, ev_c, reduceIte, Nat.reduceEqDiff,
              List.map_cons, List.map_nil], by simp only [put_at, put_no, ev_t, ev_c, reduceIte, Nat.reduceEqDiff, List.map_cons, List.map_nil], hv14, hS50⟩
      · rw [iteF hc37] at hF21
        simp only [run_exit, out_code, out_nil, put_at, put_no, ev_t, ev_c, reduceIte, Nat.reduceEqDiff, List.map_cons, List.map_nil]
        have e65 := some_inj hF21
        exact hK25 _ _ _ e65.symm ⟨c13, by simp only [f32, put_at, put_no, ev_t, ev_c, reduceIte, Nat.reduceEqDiff, List.map_cons, List.map_nil], by simp only [f33, put_at,
            put_no, ev_t, ev_c, reduceIte, Nat.reduceEqDiff, List.map_cons, List.map_nil], by simp only [f34, put_at, put_no, ev_t, ev_c, reduceIte, Nat.reduceEqDiff,
            List.map_cons, List.map_nil], by simp only [f35, put_at, put_no, ev_t, ev_c, reduceIte, Nat.reduceEqDiff, List.map_cons, List.map_nil], hv14, hS31⟩
    · rintro ⟨s67, s68, s69⟩ fr72 h73 rfl ⟨c70, f75, f76, f77, f78, hv71, hS74⟩
      dsimp only [jnO] at hk20
      dsimp only at *
      unfold slices_DeleteFunc_Call_j1 at hk20
      obtain ⟨l79, hx80, hF81⟩ := bind_some' hk20
      simp only [x45_11, run_seq, run_reg, f75, run_mv, f77, run_slc, Option.map_some, Option.map_none, put_at, put_no, ev_t, ev_c, reduceIte, Nat.reduceEqDiff, List.map_cons,
          List.map_nil]
      obtain ⟨w82, hu83⟩ := SlF.slc (ty := 55) (n1 := 6) (f1 := Call.cells) hv71 (clrF_some hx80) hS74
      refine put1_eq hu83 ?_
      simp only [run_clr, put_at, put_no, ev_t, ev_c, reduceIte, Nat.reduceEqDiff, List.map_cons, List.map_nil]
      refine put2_clrF (f1 := Call.cells) (z := (Call.mk (0 : Int) (0 : Int) false (0 : Int) (0 : Int) (0 : Int))) hv71 hu83 hx80 (fun _ => rfl) rfl hS74 hW
          (fun c84 h85 hv86 hS87 => ?_)
      obtain ⟨l88, hx89, hF90⟩ := bind_some' hF81
      simp only [put_no, run_ops_nil, x45_10, run_seq, run_reg, f75, run_mv, f77, run_slc, Option.map_some, Option.map_none, put_at, ev_t, ev_c, reduceIte, Nat.reduceEqDiff,
          List.map_cons, List.map_nil]
      obtain ⟨v91, he92, hv93⟩ := SlF.trunc (f1 := Call.cells) hv86 hx89 (fun _ => rfl) hS87
      refine put1_eq he92 ?_
      simp only [run_mv, run_ops_nil, run_ret, put_at, put_no, ev_t, ev_c, reduceIte, Nat.reduceEqDiff, List.map_cons, List.map_nil]
      have he := some_inj hF90
      subst he
      simp only [end_ret1, put_at, put_no, ev_t, ev_c, reduceIte, Nat.reduceEqDiff, List.map_cons, List.map_nil]
      exact ⟨v91, c84, by first | trivial | rfl, hv93, hS87⟩
theorem impl_OnObject_1_x {W : Nat → Bool} {h : Heap} (hW : ∀ b,
    h.length ≤ b → W b = true) (c_0 : Call) (cap_0 : Int) (r : Bool) (hF : some (impl_OnObject_1 c_0 cap_0) = some r) : Ret E W 46 [.agg [.int .i64 c_0.Client,
    .int .i64 c_0.Object, .bool c_0.Write, .int .i64 c_0.Value, .int .i64 c_0.Begin, .int .i64 c_0.End],
    .ref (cI cap_0) 0] h (fun v h' => cut h.length h' E.sz false 9 v = some (.bool r)) := by
  refine Ret.of (fn := x46) rfl (Run.of ?_)
  unfold impl_OnObject_1 at hF
  have zf0 : argFr [.agg [.int .i64 c_0.Client, .int .i64 c_0.Object, .bool c_0.Write, .int .i64 c_0.Value, .int .i64 c_0.Begin, .int .i64 c_0.End],
      .ref (cI cap_0) 0] 0 = .agg [.int .i64 c_0.Client, .int .i64 c_0.Object, .bool c_0.Write, .int .i64 c_0.Value, .int .i64 c_0.Begin, .int .i64 c_0.End] := rfl
  have zf1 : argFr [.agg [.int .i64 c_0.Client, .int .i64 c_0.Object, .bool c_0.Write, .int .i64 c_0.Value, .int .i64 c_0.Begin, .int .i64 c_0.End],
      .ref (cI cap_0) 0] 1 = .ref (cI cap_0) 0 := rfl
  generalize argFr [.agg [.int .i64 c_0.Client, .int .i64 c_0.Object, .bool c_0.Write, .int .i64 c_0.Value, .int .i64 c_0.Begin, .int .i64 c_0.End],
      .ref (cI cap_0) 0] = fr0 at zf0 zf1 ⊢
  have hS : Sep h h.length [] := Sep.nil h
  simp only [x46, run_seq, run_reg, run_box, zf0, put_at, put_no, ev_t, ev_c, reduceIte, Nat.reduceEqDiff, List.map_cons, List.map_nil]
  refine put2_boxC (cs := [.int .i64 c_0.Client, .int .i64 c_0.Object, .bool c_0.Write, .int .i64 c_0.Value, .int .i64 c_0.Begin,
      .int .i64 c_0.End]) hS rfl rfl rfl (fun b1 h2 hS3 => ?_)
  simp only [run_mv, run_ops_nil, put_at, put_no, ev_t, ev_c, reduceIte, Nat.reduceEqDiff, List.map_cons, List.map_nil]
  refine frz_stepC hS3 hW (by simp only [put_at, put_no, ev_t, ev_c, reduceIte, Nat.reduceEqDiff, List.map_cons, List.map_nil]) (fun h5 hS6 => ?_)
  simp only [run_frz_nil, x46_1, run_seq, run_reg, run_fa, put1_some, Nat.reduceAdd, Nat.zero_add, Nat.add_zero, xfa_ref, run_ld, put_at, put_no, ev_t, ev_c, reduceIte,
      Nat.reduceEqDiff, List.map_cons, List.map_nil]
  refine put1_eq (v := .int .i64 c_0.Object) rfl ?_
  simp only [zf1, run_ld, put_at, put_no, ev_t, ev_c, reduceIte, Nat.reduceEqDiff, List.map_cons, List.map_nil]
  refine put1_eq (v := .int .i64 cap_0) rfl ?_
  simp only [run_bin, put1_some, xneq, run_mv, run_ops_nil, run_ret, put_at, put_no, ev_t, ev_c, reduceIte, Nat.reduceEqDiff, List.map_cons, List.map_nil]
  have he := some_inj hF
  subst he
  simp only [end_ret1, put_at, put_no, ev_t, ev_c, reduceIte, Nat.reduceEqDiff, List.map_cons, List.map_nil]
  exact rfl
theorem impl_OnObject_x {W : Nat → Bool} {h : Heap} (hW : ∀ b,
    h.length ≤ b → W b = true) (k : Nat) (l_0 : List Call) (object_1 : Int) (r : (List Call) × Bool) (hF : impl_OnObject k l_0 object_1 = some r) : Ret E W 14 [lst Call.cells l_0,
    .int .i64 object_1] h (fun v h' => ∃ rv0 rc0, v = .tup [rv0, .bool r.2] ∧ SlF Call.cells 6 55 rv0 r.1 rc0 ∧ Sep h' h.length (rc0 ++ ([]))) := by
  refine Ret.of (fn := x14) rfl (Run.of ?_)
  unfold impl_OnObject at hF
  have zf0 : argFr [lst Call.cells l_0, .int .i64 object_1] 0 = lst Call.cells l_0 := rfl
  have zf1 : argFr [lst Call.cells l_0, .int .i64 object_1] 1 = .int .i64 object_1 := rfl
  generalize argFr [lst Call.cells l_0, .int .i64 object_1] = fr0 at zf0 zf1 ⊢
  have hS : Sep h h.length [] := Sep.nil h
  simp only [x14, run_seq, run_reg, run_box, zf1, put_at, put_no, ev_t, ev_c, reduceIte, Nat.reduceEqDiff, List.map_cons, List.map_nil]
  refine put2_boxC (cs := [.int .i64 object_1]) hS rfl rfl rfl (fun b1 h2 hS3 => ?_)
  simp only [run_mv, run_ops_nil, put_at, put_no, ev_t, ev_c, reduceIte, Nat.reduceEqDiff, List.map_cons, List.map_nil]
  refine frz_stepC hS3 hW (by simp only [put_at, put_no, ev_t, ev_c, reduceIte, Nat.reduceEqDiff, List.map_cons, List.map_nil]) (fun h5 hS6 => ?_)
  obtain ⟨v7, hx8, hF9⟩ := bind_some' hF
  simp only [run_frz_nil, x14_3, run_seq, run_reg, zf0, run_mv, run_call, put_at, put_no, ev_t, ev_c, reduceIte, Nat.reduceEqDiff, List.map_cons, List.map_nil]
  refine call1 rfl (mapM1 snap_lst mapM0) (impl_areCalls_x (fun b hb => decide_eq_true hb) l_0 v7 hx8) ?_
  simp only [run_un, put1_some, xnot, run_mv, put_at, put_no, ev_t, ev_c, reduceIte, Nat.reduceEqDiff, List.map_cons, List.map_nil]
  refine ops_j 4 (fun fr' h' => Sep h' h.length ([]) ∧ fr' 13 = .bool ((!v7) || (!(impl_in object_1 0 2))) ∧ fr' 0 = lst Call.cells l_0 ∧ fr' 3 = .ref [.int .i64 object_1] 0)
      (fun Q10 hN11 => ?_) ?_
  · simp only [List.take_succ_cons, List.take_zero]
    simp only [run_guard (g := 9), put_at, put_no, ev_t, ev_c, reduceIte, Nat.reduceEqDiff, List.map_cons, List.map_nil]
    refine guard_split (t := (!v7)) (fun hg12 => ?_) (fun hg12 => ?_)
    · simp only [hg12, run_guard (g := 9), guard_off', run_pick, put1_some, xpick_t, run_ops_nil, run_nil, put_at, put_no, ev_t, ev_c, reduceIte, Nat.reduceEqDiff, List.map_cons,
        List.map_nil]
      exact hN11 _ _ ⟨hS6, by rw [orT hg12]; simp only [put_at, put_no, ev_t, ev_c, reduceIte, Nat.reduceEqDiff, List.map_cons, List.map_nil], by simp only [zf0, put_at, put_no,
          ev_t, ev_c, reduceIte, Nat.reduceEqDiff, List.map_cons, List.map_nil], by simp only [put_at, put_no, ev_t, ev_c, reduceIte, Nat.reduceEqDiff, List.map_cons,
          List.map_nil]⟩
    · simp only [hg12, run_guard (g := 9), guard_false, run_ld, put_at, put_no, ev_t, ev_c, reduceIte, Nat.reduceEqDiff, List.map_cons, List.map_nil]
      refine put1_eq (v := .int .i64 object_1) rfl ?_
      simp only [hg12, run_guard (g := 9), guard_false, run_call, put_at, put_no, ev_t, ev_c, reduceIte, Nat.reduceEqDiff, List.map_cons, List.map_nil]
      refine call1 rfl (mapM1 snap_int (mapM1 snap_int (mapM1 snap_int mapM0))) (impl_in_x (fun b hb => decide_eq_true hb) object_1 0 2 _ rfl) ?_
      simp only [hg12, run_guard (g := 9), guard_false, run_un, put1_some, xnot, run_pick, xpick_f, run_ops_nil, run_nil, put_at, put_no, ev_t, ev_c, reduceIte, Nat.reduceEqDiff,
          List.map_cons, List.map_nil]
      exact hN11 _ _ ⟨hS6, by rw [orF hg12]; simp only [put_at, put_no, ev_t, ev_c, reduceIte, Nat.reduceEqDiff, List.map_cons, List.map_nil], by simp only [zf0, put_at, put_no,
          ev_t, ev_c, reduceIte, Nat.reduceEqDiff, List.map_cons, List.map_nil], by simp only [put_at, put_no, ev_t, ev_c, reduceIte, Nat.reduceEqDiff, List.map_cons,
          List.map_nil]⟩
  · rintro fr13 h17 ⟨hS18, f14, f15, f16⟩
    simp only [List.drop_succ_cons, List.drop_zero]
    simp only [run_ops_nil, x14_1, f14, run_cond, put_at, put_no, ev_t, ev_c, reduceIte, Nat.reduceEqDiff, List.map_cons, List.map_nil]
    refine cond_split (t := ((!v7) || (!(impl_in object_1 0 2)))) (fun hc19 => ?_) (fun hc19 => ?_)
    · rw [iteT hc19] at hF9
      simp only [run_seq, run_reg, run_mv, run_ops_nil, run_ret, put_at, put_no, ev_t, ev_c, reduceIte, Nat.reduceEqDiff, List.map_cons, List.map_nil]
      have he := some_inj hF9
      subst he
      simp only [end_ret2, put_at, put_no, ev_t, ev_c, reduceIte, Nat.reduceEqDiff, List.map_cons, List.map_nil]
      exact ⟨.nil, [], by first | trivial | rfl, SlF.nil, hS18⟩
    · rw [iteF hc19] at hF9
      simp only [run_skip, x14_2, run_seq, run_reg, run_buildS, evp, put_at, put_no, ev_t, ev_c, reduceIte, Nat.reduceEqDiff, List.map_cons, List.map_nil]
      refine put2_buildSF (n := 6) (f := Call.cells) ([] : List Call) hS18 rfl rfl (fun v20 c21 h22 hv23 hS24 => ?_)
      simp only [f15, run_mv, run_app, put_at, put_no, ev_t, ev_c, reduceIte, Nat.reduceEqDiff, List.map_cons, List.map_nil]
      obtain ⟨l26, hx27, hF28⟩ := bind_some' hF9
      refine put2_appF (f := Call.cells) hv23 hS24 hW (fun _ => rfl) (fun _ => rfl) (firstOf_lst (fun _ => rfl)) hx27 (fun v29 c30 h31 hv32 hS33 => ?_)
      obtain ⟨v35, hx36, hF37⟩ := bind_some' hF28
      simp only [run_mkF, f16, run_call, put_at, put_no, ev_t, ev_c, reduceIte, Nat.reduceEqDiff, List.map_cons, List.map_nil]
      refine call0 rfl (slices_DeleteFunc_Call_x hW k v29 c30 l26 hv32 (g1 := 46) (caps1 := [.ref [.int .i64 object_1] 0]) rfl (fun a0 => some (impl_OnObject_1 a0 object_1))
          (fun W h hW a0 r hr => impl_OnObject_1_x hW a0 object_1 r hr) v35 hx36 hS33) ?_
      rintro v38 h42 ⟨_, c39, rfl, hv40, hS43⟩
      simp only [run_mv, run_ops_nil, run_ret, put_at, put_no, ev_t, ev_c, reduceIte, Nat.reduceEqDiff, List.map_cons, List.map_nil]
      have he := some_inj hF37
      subst he
      simp only [end_ret2, put_at, put_no, ev_t, ev_c, reduceIte, Nat.reduceEqDiff, List.map_cons, List.map_nil]
      exact ⟨v38, c39, by first | trivial | rfl, hv40, hS43⟩
theorem spec_l1In_x {W : Nat → Bool} {h : Heap} (hW : ∀ b,
    h.length ≤ b → W b = true) (n_0 : Int) (lo_1 : Int) (hi_2 : Int) (r : Bool) (hF : some (spec_l1In n_0 lo_1 hi_2) = some r) : Ret E W 41 [.int .i64 n_0, .int .i64 lo_1,
    .int .i64 hi_2] h (fun v h' => cut h.length h' E.sz false 9 v = some (.bool r)) := by
  refine Ret.of (fn := x41) rfl (Run.of ?_)
  unfold spec_l1In at hF
  have zf0 : argFr [.int .i64 n_0, .int .i64 lo_1, .int .i64 hi_2] 0 = .int .i64 n_0 := rfl
  have zf1 : argFr [.int .i64 n_0, .int .i64 lo_1, .int .i64 hi_2] 1 = .int .i64 lo_1 := rfl
  have zf2 : argFr [.int .i64 n_0, .int .i64 lo_1, .int .i64 hi_2] 2 = .int .i64 hi_2 := rfl
  generalize argFr [.int .i64 n_0, .int .i64 lo_1, .int .i64 hi_2] = fr0 at zf0 zf1 zf2 ⊢
  have hS : Sep h h.length [] := Sep.nil h
  simp only [x41, run_seq, run_reg, run_mv, run_ops_nil, x41_1, zf0, zf1, run_bin, put1_some, xgeq, put_at, put_no, ev_t, ev_c, reduceIte, Nat.reduceEqDiff, List.map_cons,
      List.map_nil]
  refine ops_j 4 (fun fr' h' => Sep h' h.length ([]) ∧ fr' 14 = .bool ((decide (lo_1 ≤ n_0)) && (decide (n_0 ≤ hi_2)))) (fun Q1 hN2 => ?_) ?_
  · simp only [List.take_succ_cons, List.take_zero]
    simp only [run_guard (g := 10), put_at, put_no, ev_t, ev_c, reduceIte, Nat.reduceEqDiff, List.map_cons, List.map_nil]
    refine guard_split (t := (decide (lo_1 ≤ n_0))) (fun hg3 => ?_) (fun hg3 => ?_)
    · simp only [hg3, run_guard (g := 10), guard_true, zf0, run_mv, zf2, run_bin, put1_some, xleq, run_pick, xpick_t, run_ops_nil, run_nil, put_at, put_no, ev_t, ev_c, reduceIte,
        Nat.reduceEqDiff, List.map_cons, List.map_nil]
      exact hN2 _ _ ⟨hS, by rw [andT hg3]; simp only [put_at, put_no, ev_t, ev_c, reduceIte, Nat.reduceEqDiff, List.map_cons, List.map_nil]⟩
    · simp only [hg3, run_guard (g := 10), guard_off, run_pick, put1_some, xpick_f, run_ops_nil, run_nil, put_at, put_no, ev_t, ev_c, reduceIte, Nat.reduceEqDiff, List.map_cons,
        List.map_nil]
      exact hN2 _ _ ⟨hS, by rw [andF hg3]; simp only [put_at, put_no, ev_t, ev_c, reduceIte, Nat.reduceEqDiff, List.map_cons, List.map_nil]⟩
  · rintro fr4 h6 ⟨hS7, f5⟩
    simp only [List.drop_succ_cons, List.drop_zero]
    simp only [f5, run_mv, run_ops_nil, run_ret, put_at, put_no, ev_t, ev_c, reduceIte, Nat.reduceEqDiff, List.map_cons, List.map_nil]
    have he := some_inj hF
    subst he
    simp only [end_ret1, put_at, put_no, ev_t, ev_c, reduceIte, Nat.reduceEqDiff, List.map_cons, List.map_nil]
    exact rfl
theorem spec_l15Call_x {W : Nat → Bool} {h : Heap} (hW : ∀ b,
    h.length ≤ b → W b = true) (x_0 : Call) (r : Bool) (hF : some (spec_l15Call x_0) = some r) : Ret E W 64 [.agg [.int .i64 x_0.Client, .int .i64 x_0.Object, .bool x_0.Write,
    .int .i64 x_0.Value, .int .i64 x_0.Begin, .int .i64 x_0.End]] h (fun v h' => cut h.length h' E.sz false 9 v = some (.bool r)) := by
  refine Ret.of (fn := x64) rfl (Run.of ?_)
  unfold spec_l15Call at hF
  have zf0 : argFr [.agg [.int .i64 x_0.Client, .int .i64 x_0.Object, .bool x_0.Write, .int .i64 x_0.Value, .int .i64 x_0.Begin,
      .int .i64 x_0.End]] 0 = .agg [.int .i64 x_0.Client, .int .i64 x_0.Object, .bool x_0.Write, .int .i64 x_0.Value, .int .i64 x_0.Begin, .int .i64 x_0.End] := rfl
  generalize argFr [.agg [.int .i64 x_0.Client, .int .i64 x_0.Object, .bool x_0.Write, .int .i64 x_0.Value, .int .i64 x_0.Begin, .int .i64 x_0.End]] = fr0 at zf0 ⊢
  have hS : Sep h h.length [] := Sep.nil h
  simp only [x64, run_seq, run_reg, run_box, zf0, put_at, put_no, ev_t, ev_c, reduceIte, Nat.reduceEqDiff, List.map_cons, List.map_nil]
  refine put2_boxC (cs := [.int .i64 x_0.Client, .int .i64 x_0.Object, .bool x_0.Write, .int .i64 x_0.Value, .int .i64 x_0.Begin,
      .int .i64 x_0.End]) hS rfl rfl rfl (fun b1 h2 hS3 => ?_)
  simp only [run_mv, run_ops_nil, put_at, put_no, ev_t, ev_c, reduceIte, Nat.reduceEqDiff, List.map_cons, List.map_nil]
  refine frz_stepC hS3 hW (by simp only [put_at, put_no, ev_t, ev_c, reduceIte, Nat.reduceEqDiff, List.map_cons, List.map_nil]) (fun h5 hS6 => ?_)
  simp only [run_frz_nil, x64_1, run_seq, run_reg, run_fa, put1_some, Nat.reduceAdd, Nat.zero_add, Nat.add_zero, xfa_ref, run_ld, put_at, put_no, ev_t, ev_c, reduceIte,
      Nat.reduceEqDiff, List.map_cons, List.map_nil]
  refine put1_eq (v := .int .i64 x_0.Client) rfl ?_
  simp only [run_call, put_at, put_no, ev_t, ev_c, reduceIte, Nat.reduceEqDiff, List.map_cons, List.map_nil]
  refine call1 rfl (mapM1 snap_int (mapM1 snap_int (mapM1 snap_int mapM0))) (spec_l1In_x (fun b hb => decide_eq_true hb) x_0.Client 0 3 _ rfl) ?_
  simp only [run_mv, put_at, put_no, ev_t, ev_c, reduceIte, Nat.reduceEqDiff, List.map_cons, List.map_nil]
  refine ops_j 4 (fun fr' h' => Sep h' h.length ([]) ∧ fr' 10 = .bool ((spec_l1In x_0.Client 0 3) && (spec_l1In x_0.Object 0 2)) ∧ fr' 1 = .ref [.int .i64 x_0.Client,
      .int .i64 x_0.Object, .bool x_0.Write, .int .i64 x_0.Value, .int .i64 x_0.Begin, .int .i64 x_0.End] 0) (fun Q7 hN8 => ?_) ?_
  · simp only [List.take_succ_cons, List.take_zero]
    simp only [run_guard (g := 6), put_at, put_no, ev_t, ev_c, reduceIte, Nat.reduceEqDiff, List.map_cons, List.map_nil]
    refine guard_split (t := (spec_l1In x_0.Client 0 3)) (fun hg9 => ?_) (fun hg9 => ?_)
    · simp only [hg9, run_guard (g := 6), guard_true, run_fa, put1_some, Nat.reduceAdd, Nat.zero_add, Nat.add_zero, xfa_ref, run_ld, put_at, put_no, ev_t, ev_c, reduceIte,
        Nat.reduceEqDiff, List.map_cons, List.map_nil]
      refine put1_eq (v := .int .i64 x_0.Object) rfl ?_
      simp only [hg9, run_guard (g := 6), guard_true, run_call, put_at, put_no, ev_t, ev_c, reduceIte, Nat.reduceEqDiff, List.map_cons, List.map_nil]
      refine call1 rfl (mapM1 snap_int (mapM1 snap_int (mapM1 snap_int mapM0))) (spec_l1In_x (fun b hb => decide_eq_true hb) x_0.Object 0 2 _ rfl) ?_
      simp only [hg9, run_pick, put1_some, xpick_t, run_ops_nil, run_nil, put_at, put_no, ev_t, ev_c, reduceIte, Nat.reduceEqDiff, List.map_cons, List.map_nil]
      exact hN8 _ _ ⟨hS6, by rw [andT hg9]; simp only [put_at, put_no, ev_t, ev_c, reduceIte, Nat.reduceEqDiff, List.map_cons, List.map_nil], by simp only [put_at, put_no, ev_t,
          ev_c, reduceIte, Nat.reduceEqDiff, List.map_cons, List.map_nil]⟩
    · simp only [hg9, run_guard (g := 6), guard_off, run_pick, put1_some, xpick_f, run_ops_nil, run_nil, put_at, put_no, ev_t, ev_c, reduceIte, Nat.reduceEqDiff, List.map_cons,
        List.map_nil]
      exact hN8 _ _ ⟨hS6, by rw [andF hg9]; simp only [put_at, put_no, ev_t, ev_c, reduceIte, Nat.reduceEqDiff, List.map_cons, List.map_nil], by simp only [put_at, put_no, ev_t,
          ev_c, reduceIte, Nat.reduceEqDiff, List.map_cons, List.map_nil]⟩
  · rintro fr10 h13 ⟨hS14, f11, f12⟩
    simp only [List.drop_succ_cons, List.drop_zero]
    simp only [f11, run_mv, put_at, put_no, ev_t, ev_c, reduceIte, Nat.reduceEqDiff, List.map_cons, List.map_nil]
    refine ops_j 4 (fun fr' h' => Sep h' h.length ([]) ∧ fr' 15 = .bool (((spec_l1In x_0.Client 0 3) && (spec_l1In x_0.Object 0 2)) &&
        (spec_l1In x_0.Value 0 9)) ∧ fr' 1 = .ref [.int .i64 x_0.Client, .int .i64 x_0.Object, .bool x_0.Write, .int .i64 x_0.Value, .int .i64 x_0.Begin,
        .int .i64 x_0.End] 0) (fun Q15 hN16 => ?_) ?_
    · simp only [List.take_succ_cons, List.take_zero]
      simp only [run_guard (g := 11), put_at, put_no, ev_t, ev_c, reduceIte, Nat.reduceEqDiff, List.map_cons, List.map_nil]
      refine guard_split (t := ((spec_l1In x_0.Client 0 3) && (spec_l1In x_0.Object 0 2))) (fun hg17 => ?_) (fun hg17 => ?_)
      · simp only [hg17, run_guard (g := 11), guard_true, f12, run_fa, put1_some, Nat.reduceAdd, Nat.zero_add, Nat.add_zero, xfa_ref, run_ld, put_at, put_no, ev_t, ev_c,
          reduceIte, Nat.reduceEqDiff, List.map_cons, List.map_nil]
        refine put1_eq (v := .int .i64 x_0.Value) rfl ?_
        simp only [hg17, run_guard (g := 11), guard_true, run_call, put_at, put_no, ev_t, ev_c, reduceIte, Nat.reduceEqDiff, List.map_cons, List.map_nil]
        refine call1 rfl (mapM1 snap_int (mapM1 snap_int (mapM1 snap_int mapM0))) (spec_l1In_x (fun b hb => decide_eq_true hb) x_0.Value 0 9 _ rfl) ?_
        simp only [hg17, run_pick, put1_some, xpick_t, run_ops_nil, run_nil, put_at, put_no, ev_t, ev_c, reduceIte, Nat.reduceEqDiff, List.map_cons, List.map_nil]
        exact hN16 _ _ ⟨hS14, by rw [andT hg17]; simp only [put_at, put_no, ev_t, ev_c, reduceIte, Nat.reduceEqDiff, List.map_cons, List.map_nil], by simp only [f12, put_at,
            put_no, ev_t, ev_c, reduceIte, Nat.reduceEqDiff, List.map_cons, List.map_nil]⟩
      · simp only [hg17, run_guard (g := 11), guard_off, run_pick, put1_some, xpick_f, run_ops_nil, run_nil, put_at, put_no, ev_t, ev_c, reduceIte, Nat.reduceEqDiff,
          List.map_cons, List.map_nil]
        exact hN16 _ _ ⟨hS14, by rw [andF hg17]; simp only [put_at, put_no, ev_t, ev_c, reduceIte, Nat.reduceEqDiff, List.map_cons, List.map_nil], by simp only [f12, put_at,
            put_no, ev_t, ev_c, reduceIte, Nat.reduceEqDiff, List.map_cons, List.map_nil]⟩
    · rintro fr18 h21 ⟨hS22, f19, f20⟩
      simp only [List.drop_succ_cons, List.drop_zero]
      simp only [f19, run_mv, put_at, put_no, ev_t, ev_c, reduceIte, Nat.reduceEqDiff, List.map_cons, List.map_nil]
      refine ops_j 9 (fun fr' h' => Sep h' h.length ([]) ∧ fr' 25 = .bool ((((spec_l1In x_0.Client 0 3) && (spec_l1In x_0.Object 0 2)) && (spec_l1In x_0.Value 0 9)) &&
          ((!x_0.Write) || (decide ((0 : Int) < x_0.Value)))) ∧ fr' 1 = .ref [.int .i64 x_0.Client, .int .i64 x_0.Object, .bool x_0.Write, .int .i64 x_0.Value,
          .int .i64 x_0.Begin, .int .i64 x_0.End] 0) (fun Q23 hN24 => ?_) ?_
      · simp only [List.take_succ_cons, List.take_zero]
        simp only [run_guard (g := 16), put_at, put_no, ev_t, ev_c, reduceIte, Nat.reduceEqDiff, List.map_cons, List.map_nil]
        refine guard_split (t := (((spec_l1In x_0.Client 0 3) && (spec_l1In x_0.Object 0 2)) && (spec_l1In x_0.Value 0 9))) (fun hg25 => ?_) (fun hg25 => ?_)
        · simp only [hg25, run_guard (g := 16), guard_true, f20, run_fa, put1_some, Nat.reduceAdd, Nat.zero_add, Nat.add_zero, xfa_ref, run_ld, put_at, put_no, ev_t, ev_c,
            reduceIte, Nat.reduceEqDiff, List.map_cons, List.map_nil]
          refine put1_eq (v := .bool x_0.Write) rfl ?_
          simp only [hg25, run_guard (g := 16), guard_true, run_un, put1_some, xnot, run_mv, put_at, put_no, ev_t, ev_c, reduceIte, Nat.reduceEqDiff, List.map_cons, List.map_nil]
          refine ops_j 4 (fun fr' h' => Sep h' h.length ([]) ∧ fr' 24 = .bool ((!x_0.Write) || (decide ((0 : Int) < x_0.Value))) ∧ fr' 1 = .ref [.int .i64 x_0.Client,
              .int .i64 x_0.Object, .bool x_0.Write, .int .i64 x_0.Value, .int .i64 x_0.Begin,
              .int .i64 x_0.End] 0 ∧ fr' 16 = .bool (((spec_l1In x_0.Client 0 3) && (spec_l1In x_0.Object 0 2)) && (spec_l1In x_0.Value 0 9))) (fun Q26 hN27 => ?_) ?_
          · simp only [List.take_succ_cons, List.take_zero]
            simp only [run_guard (g := 20), put_at, put_no, ev_t, ev_c, reduceIte, Nat.reduceEqDiff, List.map_cons, List.map_nil]
            refine guard_split (t := (!x_0.Write)) (fun hg28 => ?_) (fun hg28 => ?_)
            · simp only [hg28, run_guard (g := 20), guard_off', hg25, run_guard (g := 16), guard_true, run_pick, put1_some, xpick_t, run_ops_nil, run_nil, put_at, put_no, ev_t,
                ev_c, reduceIte, Nat.reduceEqDiff, List.map_cons, List.map_nil]
              exact hN27 _ _ ⟨hS22, by rw [orT hg28]; simp only [put_at, put_no, ev_t, ev_c, reduceIte, Nat.reduceEqDiff, List.map_cons, List.map_nil], by simp only [f20, put_at,
                  put_no, ev_t, ev_c, reduceIte, Nat.reduceEqDiff, List.map_cons, List.map_nil], by simp only [hg25, put_at, put_no, ev_t, ev_c, reduceIte, Nat.reduceEqDiff,
                  List.map_cons, List.map_nil]⟩
            · simp only [hg28, run_guard (g := 20), guard_false, f20, run_fa, put1_some, Nat.reduceAdd, Nat.zero_add, Nat.add_zero, xfa_ref, run_ld, put_at, put_no, ev_t, ev_c,
                reduceIte, Nat.reduceEqDiff, List.map_cons, List.map_nil]
              refine put1_eq (v := .int .i64 x_0.Value) rfl ?_
              simp only [hg28, run_guard (g := 20), guard_false, run_bin, put1_some, xgtr, hg25, run_guard (g := 16), guard_true, run_pick, xpick_f, run_ops_nil, run_nil, put_at,
                  put_no, ev_t, ev_c, reduceIte, Nat.reduceEqDiff, List.map_cons, List.map_nil]
              exact hN27 _ _ ⟨hS22, by rw [orF hg28]; simp only [put_at, put_no, ev_t, ev_c, reduceIte, Nat.reduceEqDiff, List.map_cons, List.map_nil], by simp only [f20, put_at,
                  put_no, ev_t, ev_c, reduceIte, Nat.reduceEqDiff, List.map_cons, List.map_nil], by simp only [hg25, put_at, put_no, ev_t, ev_c, reduceIte, Nat.reduceEqDiff,
                  List.map_cons, List.map_nil]⟩
          · rintro fr29 h33 ⟨hS34, f30, f31, f32⟩
            simp only [List.drop_succ_cons, List.drop_zero]
            simp only [f32, hg25, run_pick, put1_some, xpick_t, f30, run_ops_nil, run_nil, put_at, put_no, ev_t, ev_c, reduceIte, Nat.reduceEqDiff, List.map_cons, List.map_nil]
            exact hN24 _ _ ⟨hS34, by rw [andT hg25]; simp only [put_at, put_no, ev_t, ev_c, reduceIte, Nat.reduceEqDiff, List.map_cons, List.map_nil], by simp only [f31, put_at,
                put_no, ev_t, ev_c, reduceIte, Nat.reduceEqDiff, List.map_cons, List.map_nil]⟩
        · simp only [hg25, run_guard (g := 16), guard_off, run_guard (g := 20), guard_tup, run_pick, put1_some, xpick_f, run_ops_nil, run_nil, put_at, put_no, ev_t, ev_c,
            reduceIte, Nat.reduceEqDiff, List.map_cons, List.map_nil]
          exact hN24 _ _ ⟨hS22, by rw [andF hg25]; simp only [put_at, put_no, ev_t, ev_c, reduceIte, Nat.reduceEqDiff, List.map_cons, List.map_nil], by simp only [f20, put_at,
              put_no, ev_t, ev_c, reduceIte, Nat.reduceEqDiff, List.map_cons, List.map_nil]⟩
      · rintro fr35 h38 ⟨hS39, f36, f37⟩
        simp only [List.drop_succ_cons, List.drop_zero]
        simp only [f36, run_mv, put_at, put_no, ev_t, ev_c, reduceIte, Nat.reduceEqDiff, List.map_cons, List.map_nil]
        refine ops_j 4 (fun fr' h' => Sep h' h.length ([]) ∧ fr' 30 = .bool (((((spec_l1In x_0.Client 0 3) && (spec_l1In x_0.Object 0 2)) && (spec_l1In x_0.Value 0 9)) &&
            ((!x_0.Write) || (decide ((0 : Int) < x_0.Value)))) && (spec_l1In x_0.Begin 0 100)) ∧ fr' 1 = .ref [.int .i64 x_0.Client, .int .i64 x_0.Object, .bool x_0.Write,
            .int .i64 x_0.Value, .int .i64 x_0.Begin, .int .i64 x_0.End] 0) (fun Q40 hN41 => ?_) ?_
        · simp only [List.take_succ_cons, List.take_zero]
          simp only [run_guard (g := 26), put_at, put_no, ev_t, ev_c, reduceIte, Nat.reduceEqDiff, List.map_cons, List.map_nil]
          refine guard_split (t := ((((spec_l1In x_0.Client 0 3) && (spec_l1In x_0.Object 0 2)) && (spec_l1In x_0.Value 0 9)) && ((!x_0.Write) || (decide
              ((0 : Int) < x_0.Value))))) (fun hg42 => ?_) (fun hg42 => ?_)
          · simp only [hg42, run_guard (g := 26), guard_true, f37, run_fa, put1_some, Nat.reduceAdd, Nat.zero_add, Nat.add_zero, xfa_ref, run_ld, put_at, put_no, ev_t, ev_c,
              reduceIte, Nat.reduceEqDiff, List.map_cons, List.map_nil]
            refine put1_eq (v := .int .i64 x_0.Begin) rfl ?_
            simp only [hg42, run_guard (g := 26), guard_true, run_call, put_at, put_no, ev_t, ev_c, reduceIte, Nat.reduceEqDiff, List.map_cons, List.map_nil]
            refine call1 rfl (mapM1 snap_int (mapM1 snap_int (mapM1 snap_int mapM0))) (spec_l1In_x (fun b hb => decide_eq_true hb) x_0.Begin 0 100 _ rfl) ?_
            simp only [hg42, run_pick, put1_some, xpick_t, run_ops_nil, run_nil, put_at, put_no, ev_t, ev_c, reduceIte, Nat.reduceEqDiff, List.map_cons, List.map_nil]
            exact hN41 _ _ ⟨hS39, by rw [andT hg42]; simp only [put_at, put_no, ev_t, ev_c, reduceIte, Nat.reduceEqDiff, List.map_cons, List.map_nil], by simp only [f37, put_at,
                put_no, ev_t, ev_c, reduceIte, Nat.reduceEqDiff, List.map_cons, List.map_nil]⟩
          · simp only [hg42, run_guard (g := 26), guard_off, run_pick, put1_some, xpick_f, run_ops_nil, run_nil, put_at, put_no, ev_t, ev_c, reduceIte, Nat.reduceEqDiff,
              List.map_cons, List.map_nil]
            exact hN41 _ _ ⟨hS39, by rw [andF hg42]; simp only [put_at, put_no, ev_t, ev_c, reduceIte, Nat.reduceEqDiff, List.map_cons, List.map_nil], by simp only [f37, put_at,
                put_no, ev_t, ev_c, reduceIte, Nat.reduceEqDiff, List.map_cons, List.map_nil]⟩
        · rintro fr43 h46 ⟨hS47, f44, f45⟩
          simp only [List.drop_succ_cons, List.drop_zero]
          simp only [f44, run_mv, put_at, put_no, ev_t, ev_c, reduceIte, Nat.reduceEqDiff, List.map_cons, List.map_nil]
          refine ops_j 4 (fun fr' h' => Sep h' h.length ([]) ∧ fr' 35 = .bool ((((((spec_l1In x_0.Client 0 3) && (spec_l1In x_0.Object 0 2)) && (spec_l1In x_0.Value 0 9)) &&
              ((!x_0.Write) || (decide ((0 : Int) < x_0.Value)))) && (spec_l1In x_0.Begin 0 100)) && (spec_l1In x_0.End 0 100)) ∧ fr' 1 = .ref [.int .i64 x_0.Client,
              .int .i64 x_0.Object, .bool x_0.Write, .int .i64 x_0.Value, .int .i64 x_0.Begin, .int .i64 x_0.End] 0) (fun Q48 hN49 => ?_) ?_
          · simp only [List.take_succ_cons, List.take_zero]
            simp only [run_guard (g := 31), put_at, put_no, ev_t, ev_c, reduceIte, Nat.reduceEqDiff, List.map_cons, List.map_nil]
            refine guard_split (t := (((((spec_l1In x_0.Client 0 3) && (spec_l1In x_0.Object 0 2)) && (spec_l1In x_0.Value 0 9)) && ((!x_0.Write) || (decide
                ((0 : Int) < x_0.Value)))) && (spec_l1In x_0.Begin 0 100))) (fun hg50 => ?_) (fun hg50 => ?_)
            · simp only [hg50, run_guard (g := 31), guard_true, f45, run_fa, put1_some, Nat.reduceAdd, Nat.zero_add, Nat.add_zero, xfa_ref, run_ld, put_at, put_no, ev_t, ev_c,
                reduceIte, Nat.reduceEqDiff, List.map_cons, List.map_nil]
              refine put1_eq (v := .int .i64 x_0.End) rfl ?_
              simp only [hg50, run_guard (g := 31), guard_true, run_call, put_at, put_no, ev_t, ev_c, reduceIte, Nat.reduceEqDiff, List.map_cons, List.map_nil]
              refine call1 rfl (mapM1 snap_int (mapM1 snap_int (mapM1 snap_int mapM0))) (spec_l1In_x (fun b hb => decide_eq_true hb) x_0.End 0 100 _ rfl) ?_
              simp only [hg50, run_pick, put1_some, xpick_t, run_ops_nil, run_nil, put_at, put_no, ev_t, ev_c, reduceIte, Nat.reduceEqDiff, List.map_cons, List.map_nil]
              exact hN49 _ _ ⟨hS47, by rw [andT hg50]; simp only [put_at, put_no, ev_t, ev_c, reduceIte, Nat.reduceEqDiff, List.map_cons, List.map_nil], by simp only [f45, put_at,
                  put_no, ev_t, ev_c, reduceIte, Nat.reduceEqDiff, List.map_cons, List.map_nil]⟩
            · simp only [hg50, run_guard (g := 31), guard_off, run_pick, put1_some, xpick_f, run_ops_nil, run_nil, put_at, put_no, ev_t, ev_c, reduceIte, Nat.reduceEqDiff,
                List.map_cons, List.map_nil]
              exact hN49 _ _ ⟨hS47, by rw [andF hg50]; simp only [put_at, put_no, ev_t, ev_c, reduceIte, Nat.reduceEqDiff, List.map_cons, List.map_nil], by simp only [f45, put_at,
                  put_no, ev_t, ev_c, reduceIte, Nat.reduceEqDiff, List.map_cons, List.map_nil]⟩
          · rintro fr51 h54 ⟨hS55, f52, f53⟩
            simp only [List.drop_succ_cons, List.drop_zero]
            simp only [f52, run_mv, put_at, put_no, ev_t, ev_c, reduceIte, Nat.reduceEqDiff, List.map_cons, List.map_nil]
            refine ops_j 6 (fun fr' h' => Sep h' h.length ([]) ∧ fr' 42 = .bool (((((((spec_l1In x_0.Client 0 3) && (spec_l1In x_0.Object 0 2)) && (spec_l1In x_0.Value 0 9)) &&
                ((!x_0.Write) || (decide ((0 : Int) < x_0.Value)))) && (spec_l1In x_0.Begin 0 100)) && (spec_l1In x_0.End 0 100)) && (decide (x_0.Begin < x_0.End))))
                (fun Q56 hN57 => ?_) ?_
            · simp only [List.take_succ_cons, List.take_zero]
              simp only [run_guard (g := 36), put_at, put_no, ev_t, ev_c, reduceIte, Nat.reduceEqDiff, List.map_cons, List.map_nil]
              refine guard_split (t := ((((((spec_l1In x_0.Client 0 3) && (spec_l1In x_0.Object 0 2)) && (spec_l1In x_0.Value 0 9)) && ((!x_0.Write) || (decide
                  ((0 : Int) < x_0.Value)))) && (spec_l1In x_0.Begin 0 100)) && (spec_l1In x_0.End 0 100))) (fun hg58 => ?_) (fun hg58 => ?_)
              · simp only [hg58, run_guard (g := 36), guard_true, f53, run_fa, put1_some, Nat.reduceAdd, Nat.zero_add, Nat.add_zero, xfa_ref, run_ld, put_at, put_no, ev_t, ev_c,
                  reduceIte, Nat.reduceEqDiff, List.map_cons, List.map_nil]
                refine put1_eq (v := .int .i64 x_0.Begin) rfl ?_
                simp only [hg58, run_guard (g := 36), guard_true, f53, run_fa, put1_some, Nat.reduceAdd, Nat.zero_add, Nat.add_zero, xfa_ref, run_ld, put_at, put_no, ev_t, ev_c,
                    reduceIte, Nat.reduceEqDiff, List.map_cons, List.map_nil]
                refine put1_eq (v := .int .i64 x_0.End) rfl ?_
                simp only [hg58, run_guard (g := 36), guard_true, run_bin, put1_some, xlss, run_pick, xpick_t, run_ops_nil, run_nil, put_at, put_no, ev_t, ev_c, reduceIte,
                    Nat.reduceEqDiff, List.map_cons, List.map_nil]
                exact hN57 _ _ ⟨hS55, by rw [andT hg58]; simp only [put_at, put_no, ev_t, ev_c, reduceIte, Nat.reduceEqDiff, List.map_cons, List.map_nil]⟩
              · simp only [hg58, run_guard (g := 36), guard_off, run_pick, put1_some, xpick_f, run_ops_nil, run_nil, put_at, put_no, ev_t, ev_c, reduceIte, Nat.reduceEqDiff,
                  List.map_cons, List.map_nil]
                exact hN57 _ _ ⟨hS55, by rw [andF hg58]; simp only [put_at, put_no, ev_t, ev_c, reduceIte, Nat.reduceEqDiff, List.map_cons, List.map_nil]⟩
            · rintro fr59 h61 ⟨hS62, f60⟩
              simp only [List.drop_succ_cons, List.drop_zero]
              simp only [f60, run_mv, run_ops_nil, run_ret, put_at, put_no, ev_t, ev_c, reduceIte, Nat.reduceEqDiff, List.map_cons, List.map_nil]
              have he := some_inj hF
              subst he
              simp only [end_ret1, put_at, put_no, ev_t, ev_c, reduceIte, Nat.reduceEqDiff, List.map_cons, List.map_nil]
              exact rfl
end Go.Proofs.Ytddkoiapboeemaa.X
