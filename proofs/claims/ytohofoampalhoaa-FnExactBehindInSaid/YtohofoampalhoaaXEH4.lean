/- The functions' code comes to what the plain functions say (4). -/
import Derived.Test.YtohofoampalhoaaXEH3
set_option linter.unusedVariables false
set_option linter.unusedSimpArgs false
set_option maxRecDepth 100000
namespace Go.Proofs.Ytohofoampalhoaa.X
open Go
theorem spec_l6Has_x {W : Nat → Bool} {h : Heap} (hW : ∀ b,
    h.length ≤ b → W b = true) (a_0 : List Int) (b_1 : List Int) (r : Bool) (hF : spec_l6Has a_0 b_1 = some r) : Ret E W 97 [lst cI a_0,
    lst cI b_1] h (fun v h' => cut h.length h' E.sz false 9 v = some (.bool r)) := by
  refine Ret.of (fn := x97) rfl (Run.of ?_)
  unfold spec_l6Has at hF
  have zf0 : argFr [lst cI a_0, lst cI b_1] 0 = lst cI a_0 := rfl
  have zf1 : argFr [lst cI a_0, lst cI b_1] 1 = lst cI b_1 := rfl
  generalize argFr [lst cI a_0, lst cI b_1] = fr0 at zf0 zf1 ⊢
  have hS : Sep h h.length [] := Sep.nil h
  simp only [x97, run_seq, run_reg, run_mv, run_ops_nil, x97_5, zf1, run_len, put1_some, xlen_lst, put_at, put_no, ev_t, ev_c, reduceIte, Nat.reduceEqDiff, List.map_cons,
      List.map_nil]
  obtain ⟨oc3, hX5, hk6⟩ := jn_some hF
  simp only [x97_4]
  refine rangeL_j (σ := Unit) b_1 (fun i1 x2 _ => spec_l6Has_b1 a_0 i1 x2 ) (fun s fr' h' => fr' 0 = lst cI a_0 ∧ fr' 7 = lst cI b_1 ∧ Sep h' h.length
      ([])) hX5 ⟨by simp only [zf0, put_at, put_no, ev_t, ev_c, reduceIte, Nat.reduceEqDiff, List.map_cons, List.map_nil], by simp only [put_at, put_no, ev_t, ev_c, reduceIte,
      Nat.reduceEqDiff, List.map_cons, List.map_nil], hS⟩ (by simp only [put_at, put_no, ev_t, ev_c, reduceIte, Nat.reduceEqDiff, List.map_cons,
      List.map_nil]) (by simp only [put_at, put_no, ev_t, ev_c, reduceIte, Nat.reduceEqDiff, List.map_cons,
      List.map_nil]) (fun _ _ _ h => h) rfl rfl (fun _ _ _ _ h => h) (fun _ _ _ _ h => h) (fun _ _ _ _ h => h) (by decide) ?_ ?_
  · rintro i1 x2 _ fr15 h16 hx20 ⟨f18, f19, hS17⟩ f21 f22 oc4 hF7 hr8 Q9 hN10 hB14 hK11 hR12 hE13
    unfold spec_l6Has_b1 at hF7
    simp only [x97_2, run_seq, run_reg, f19, f21, run_ia, put_at, put_no, ev_t, ev_c, reduceIte, Nat.reduceEqDiff, List.map_cons, List.map_nil]
    refine put1_eq (v := .ref (cI x2) 0) (xia_lstN hx20 rfl) ?_
    simp only [run_ld, put_at, put_no, ev_t, ev_c, reduceIte, Nat.reduceEqDiff, List.map_cons, List.map_nil]
    refine put1_eq (v := .int .i64 x2) rfl ?_
    obtain ⟨v23, hx24, hF25⟩ := bind_some' hF7
    simp only [run_mv, run_ops_nil, x97_1, run_seq, run_reg, f18, run_call, put_at, put_no, ev_t, ev_c, reduceIte, Nat.reduceEqDiff, List.map_cons, List.map_nil]
    refine call1 rfl (mapM1 snap_lst (mapM1 snap_int mapM0)) (spec_l1Has_x (fun b hb => decide_eq_true hb) a_0 x2 v23 hx24) ?_
    simp only [run_un, put1_some, xnot, run_ops_nil, run_cond, put_at, put_no, ev_t, ev_c, reduceIte, Nat.reduceEqDiff, List.map_cons, List.map_nil]
    refine cond_split (t := (!v23)) (fun hc26 => ?_) (fun hc26 => ?_)
    · rw [iteT hc26] at hF25
      simp only [run_seq, run_reg, run_mv, run_ops_nil, run_ret, put_at, put_no, ev_t, ev_c, reduceIte, Nat.reduceEqDiff, List.map_cons, List.map_nil]
      have e27 := some_inj hF25
      subst e27
      have ho28 := hr8 _ rfl
      have hk29 := hk6
      rw [ho28] at hk29
      dsimp only [jnO] at hk29
      apply hR12
      have he := some_inj hk29
      subst he
      simp only [end_ret1, put_at, put_no, ev_t, ev_c, reduceIte, Nat.reduceEqDiff, List.map_cons, List.map_nil]
      exact rfl
    · rw [iteF hc26] at hF25
      simp only [run_skip, run_nil, put_at, put_no, ev_t, ev_c, reduceIte, Nat.reduceEqDiff, List.map_cons, List.map_nil]
      have e30 := some_inj hF25
      exact hN10 _ _ _ e30.symm ⟨by simp only [f18, put_at, put_no, ev_t, ev_c, reduceIte, Nat.reduceEqDiff, List.map_cons, List.map_nil], by simp only [f19, put_at, put_no, ev_t,
          ev_c, reduceIte, Nat.reduceEqDiff, List.map_cons, List.map_nil], hS17⟩ (by simp only [f21, put_at, put_no, ev_t, ev_c, reduceIte, Nat.reduceEqDiff, List.map_cons,
          List.map_nil]) (by simp only [f22, put_at, put_no, ev_t, ev_c, reduceIte, Nat.reduceEqDiff, List.map_cons, List.map_nil])
  · rintro _ fr32 h33 rfl ⟨f35, f36, hS34⟩
    dsimp only [jnO] at hk6
    unfold spec_l6Has_j1 at hk6
    simp only [run_seq, run_reg, run_mv, run_ops_nil, run_ret, put_at, put_no, ev_t, ev_c, reduceIte, Nat.reduceEqDiff, List.map_cons, List.map_nil]
    have he := some_inj hk6
    subst he
    simp only [end_ret1, put_at, put_no, ev_t, ev_c, reduceIte, Nat.reduceEqDiff, List.map_cons, List.map_nil]
    exact rfl
theorem spec_l14Same_x {W : Nat → Bool} {h : Heap} (hW : ∀ b,
    h.length ≤ b → W b = true) (a_0 : List Int) (b_1 : List Int) (r : Bool) (hF : spec_l14Same a_0 b_1 = some r) : Ret E W 82 [lst cI a_0,
    lst cI b_1] h (fun v h' => cut h.length h' E.sz false 9 v = some (.bool r)) := by
  refine Ret.of (fn := x82) rfl (Run.of ?_)
  unfold spec_l14Same at hF
  have zf0 : argFr [lst cI a_0, lst cI b_1] 0 = lst cI a_0 := rfl
  have zf1 : argFr [lst cI a_0, lst cI b_1] 1 = lst cI b_1 := rfl
  generalize argFr [lst cI a_0, lst cI b_1] = fr0 at zf0 zf1 ⊢
  have hS : Sep h h.length [] := Sep.nil h
  obtain ⟨v1, hx2, hF3⟩ := bind_some' hF
  simp only [x82, run_seq, run_reg, run_mv, run_ops_nil, x82_1, zf0, zf1, run_call, put_at, put_no, ev_t, ev_c, reduceIte, Nat.reduceEqDiff, List.map_cons, List.map_nil]
  refine call1 rfl (mapM1 snap_lst (mapM1 snap_lst mapM0)) (spec_l6Has_x (fun b hb => decide_eq_true hb) a_0 b_1 v1 hx2) ?_
  simp only [run_mv, put_at, put_no, ev_t, ev_c, reduceIte, Nat.reduceEqDiff, List.map_cons, List.map_nil]
  refine ops_j 6 (fun fr' h' => Sep h' h.length ([]) ∧ fr' 14 = .bool (v1 && (decide ((List.length a_0 : Int) = (List.length b_1 : Int))))) (fun Q4 hN5 => ?_) ?_
  · simp only [List.take_succ_cons, List.take_zero]
    simp only [run_guard (g := 8), put_at, put_no, ev_t, ev_c, reduceIte, Nat.reduceEqDiff, List.map_cons, List.map_nil]
    refine guard_split (t := v1) (fun hg6 => ?_) (fun hg6 => ?_)
    · simp only [hg6, run_guard (g := 8), guard_true, zf0, run_mv, run_len, put1_some, xlen_lst, zf1, run_bin, xeql, run_pick, xpick_t, run_ops_nil, run_nil, put_at, put_no, ev_t,
        ev_c, reduceIte, Nat.reduceEqDiff, List.map_cons, List.map_nil]
      exact hN5 _ _ ⟨hS, by rw [andT hg6]; simp only [put_at, put_no, ev_t, ev_c, reduceIte, Nat.reduceEqDiff, List.map_cons, List.map_nil]⟩
    · simp only [hg6, run_guard (g := 8), guard_off, run_pick, put1_some, xpick_f, run_ops_nil, run_nil, put_at, put_no, ev_t, ev_c, reduceIte, Nat.reduceEqDiff, List.map_cons,
        List.map_nil]
      exact hN5 _ _ ⟨hS, by rw [andF hg6]; simp only [put_at, put_no, ev_t, ev_c, reduceIte, Nat.reduceEqDiff, List.map_cons, List.map_nil]⟩
  · rintro fr7 h9 ⟨hS10, f8⟩
    simp only [List.drop_succ_cons, List.drop_zero]
    simp only [f8, run_mv, run_ops_nil, run_ret, put_at, put_no, ev_t, ev_c, reduceIte, Nat.reduceEqDiff, List.map_cons, List.map_nil]
    have he := some_inj hF3
    subst he
    simp only [end_ret1, put_at, put_no, ev_t, ev_c, reduceIte, Nat.reduceEqDiff, List.map_cons, List.map_nil]
    exact rfl
theorem spec_l17Same_x {W : Nat → Bool} {h : Heap} (hW : ∀ b,
    h.length ≤ b → W b = true) (a_0 : View) (b_1 : View) (r : Bool) (hF : spec_l17Same a_0 b_1 = some r) : Ret E W 61 [.agg [.int .i64 a_0.Epoch, .int .i64 a_0.Leader,
    lst cI a_0.InStep], .agg [.int .i64 b_1.Epoch, .int .i64 b_1.Leader, lst cI b_1.InStep]] h (fun v h' => cut h.length h' E.sz false 9 v = some (.bool r)) := by
  refine Ret.of (fn := x61) rfl (Run.of ?_)
  unfold spec_l17Same at hF
  have zf0 : argFr [.agg [.int .i64 a_0.Epoch, .int .i64 a_0.Leader, lst cI a_0.InStep], .agg [.int .i64 b_1.Epoch, .int .i64 b_1.Leader,
      lst cI b_1.InStep]] 0 = .agg [.int .i64 a_0.Epoch, .int .i64 a_0.Leader, lst cI a_0.InStep] := rfl
  have zf1 : argFr [.agg [.int .i64 a_0.Epoch, .int .i64 a_0.Leader, lst cI a_0.InStep], .agg [.int .i64 b_1.Epoch, .int .i64 b_1.Leader,
      lst cI b_1.InStep]] 1 = .agg [.int .i64 b_1.Epoch, .int .i64 b_1.Leader, lst cI b_1.InStep] := rfl
  generalize argFr [.agg [.int .i64 a_0.Epoch, .int .i64 a_0.Leader, lst cI a_0.InStep], .agg [.int .i64 b_1.Epoch, .int .i64 b_1.Leader, lst cI b_1.InStep]] = fr0 at zf0 zf1 ⊢
  have hS : Sep h h.length [] := Sep.nil h
  simp only [x61, run_seq, run_reg, run_box, zf0, put_at, put_no, ev_t, ev_c, reduceIte, Nat.reduceEqDiff, List.map_cons, List.map_nil]
  refine put2_boxC (cs := [.int .i64 a_0.Epoch, .int .i64 a_0.Leader, lst cI a_0.InStep]) hS rfl rfl rfl (fun b1 h2 hS3 => ?_)
  simp only [run_box, zf1, put_at, put_no, ev_t, ev_c, reduceIte, Nat.reduceEqDiff, List.map_cons, List.map_nil]
  refine put2_boxC (cs := [.int .i64 b_1.Epoch, .int .i64 b_1.Leader, lst cI b_1.InStep]) hS3 rfl rfl rfl (fun b5 h6 hS7 => ?_)
  simp only [run_mv, run_ops_nil, put_at, put_no, ev_t, ev_c, reduceIte, Nat.reduceEqDiff, List.map_cons, List.map_nil]
  refine frz_stepC (Sep.m1 hS7) hW (by simp only [put_at, put_no, ev_t, ev_c, reduceIte, Nat.reduceEqDiff, List.map_cons, List.map_nil]) (fun h9 hS10 => ?_)
  refine frz_stepC hS10 hW (by simp only [put_at, put_no, ev_t, ev_c, reduceIte, Nat.reduceEqDiff, List.map_cons, List.map_nil]) (fun h11 hS12 => ?_)
  simp only [run_frz_nil, x61_1, run_seq, run_reg, run_fa, put1_some, Nat.reduceAdd, Nat.zero_add, Nat.add_zero, xfa_ref, run_ld, put_at, put_no, ev_t, ev_c, reduceIte,
      Nat.reduceEqDiff, List.map_cons, List.map_nil]
  refine put1_eq (v := .int .i64 a_0.Epoch) rfl ?_
  simp only [run_fa, put1_some, Nat.reduceAdd, Nat.zero_add, Nat.add_zero, xfa_ref, run_ld, put_at, put_no, ev_t, ev_c, reduceIte, Nat.reduceEqDiff, List.map_cons, List.map_nil]
  refine put1_eq (v := .int .i64 b_1.Epoch) rfl ?_
  simp only [run_bin, put1_some, xeql, run_mv, put_at, put_no, ev_t, ev_c, reduceIte, Nat.reduceEqDiff, List.map_cons, List.map_nil]
  refine ops_j 6 (fun fr' h' => Sep h' h.length ([]) ∧ fr' 16 = .bool ((decide (a_0.Epoch = b_1.Epoch)) && (decide (a_0.Leader = b_1.Leader))) ∧ fr' 2 = .ref [.int .i64 a_0.Epoch,
      .int .i64 a_0.Leader, lst cI a_0.InStep] 0 ∧ fr' 3 = .ref [.int .i64 b_1.Epoch, .int .i64 b_1.Leader, lst cI b_1.InStep] 0) (fun Q13 hN14 => ?_) ?_
  · simp only [List.take_succ_cons, List.take_zero]
    simp only [run_guard (g := 10), put_at, put_no, ev_t, ev_c, reduceIte, Nat.reduceEqDiff, List.map_cons, List.map_nil]
    refine guard_split (t := (decide (a_0.Epoch = b_1.Epoch))) (fun hg15 => ?_) (fun hg15 => ?_)
    · simp only [hg15, run_guard (g := 10), guard_true, run_fa, put1_some, Nat.reduceAdd, Nat.zero_add, Nat.add_zero, xfa_ref, run_ld, put_at, put_no, ev_t, ev_c, reduceIte,
        Nat.reduceEqDiff, List.map_cons, List.map_nil]
      refine put1_eq (v := .int .i64 a_0.Leader) rfl ?_
      simp only [hg15, run_guard (g := 10), guard_true, run_fa, put1_some, Nat.reduceAdd, Nat.zero_add, Nat.add_zero, xfa_ref, run_ld, put_at, put_no, ev_t, ev_c, reduceIte,
          Nat.reduceEqDiff, List.map_cons, List.map_nil]
      refine put1_eq (v := .int .i64 b_1.Leader) rfl ?_
      simp only [hg15, run_guard (g := 10), guard_true, run_bin, put1_some, xeql, run_pick, xpick_t, run_ops_nil, run_nil, put_at, put_no, ev_t, ev_c, reduceIte, Nat.reduceEqDiff,
          List.map_cons, List.map_nil]
      exact hN14 _ _ ⟨hS12, by rw [andT hg15]; simp only [put_at, put_no, ev_t, ev_c, reduceIte, Nat.reduceEqDiff, List.map_cons, List.map_nil], by simp only [put_at, put_no,
          ev_t, ev_c, reduceIte, Nat.reduceEqDiff, List.map_cons, List.map_nil], by simp only [put_at, put_no, ev_t, ev_c, reduceIte, Nat.reduceEqDiff, List.map_cons,
          List.map_nil]⟩
    · simp only [hg15, run_guard (g := 10), guard_off, run_pick, put1_some, xpick_f, run_ops_nil, run_nil, put_at, put_no, ev_t, ev_c, reduceIte, Nat.reduceEqDiff, List.map_cons,
        List.map_nil]
      exact hN14 _ _ ⟨hS12, by rw [andF hg15]; simp only [put_at, put_no, ev_t, ev_c, reduceIte, Nat.reduceEqDiff, List.map_cons, List.map_nil], by simp only [put_at, put_no,
          ev_t, ev_c, reduceIte, Nat.reduceEqDiff, List.map_cons, List.map_nil], by simp only [put_at, put_no, ev_t, ev_c, reduceIte, Nat.reduceEqDiff, List.map_cons,
          List.map_nil]⟩
  · rintro fr16 h20 ⟨hS21, f17, f18, f19⟩
    simp only [List.drop_succ_cons, List.drop_zero]
    simp only [f17, run_mv, put_at, put_no, ev_t, ev_c, reduceIte, Nat.reduceEqDiff, List.map_cons, List.map_nil]
    obtain ⟨v25, hx26, hF27⟩ := bind_some' hF
    refine ops_j 6 (fun fr' h' => Sep h' h.length ([]) ∧ fr' 23 = .bool v25) (fun Q22 hN23 => ?_) ?_
    · simp only [List.take_succ_cons, List.take_zero]
      simp only [run_guard (g := 17), put_at, put_no, ev_t, ev_c, reduceIte, Nat.reduceEqDiff, List.map_cons, List.map_nil]
      refine guard_split (t := ((decide (a_0.Epoch = b_1.Epoch)) && (decide (a_0.Leader = b_1.Leader)))) (fun hg24 => ?_) (fun hg24 => ?_)
      · rw [iteT hg24] at hx26
        simp only [hg24, run_guard (g := 17), guard_true, f18, run_fa, put1_some, Nat.reduceAdd, Nat.zero_add, Nat.add_zero, xfa_ref, run_ld, put_at, put_no, ev_t, ev_c,
            reduceIte, Nat.reduceEqDiff, List.map_cons, List.map_nil]
        refine put1_eq (v := lst cI a_0.InStep) rfl ?_
        simp only [hg24, run_guard (g := 17), guard_true, f19, run_fa, put1_some, Nat.reduceAdd, Nat.zero_add, Nat.add_zero, xfa_ref, run_ld, put_at, put_no, ev_t, ev_c,
            reduceIte, Nat.reduceEqDiff, List.map_cons, List.map_nil]
        refine put1_eq (v := lst cI b_1.InStep) rfl ?_
        obtain ⟨v28, hx29, hF30⟩ := bind_some' hx26
        simp only [hg24, run_guard (g := 17), guard_true, run_call, put_at, put_no, ev_t, ev_c, reduceIte, Nat.reduceEqDiff, List.map_cons, List.map_nil]
        refine call1 rfl (mapM1 snap_lst (mapM1 snap_lst mapM0)) (spec_l14Same_x (fun b hb => decide_eq_true hb) a_0.InStep b_1.InStep v28 hx29) ?_
        simp only [hg24, run_pick, put1_some, xpick_t, run_ops_nil, run_nil, put_at, put_no, ev_t, ev_c, reduceIte, Nat.reduceEqDiff, List.map_cons, List.map_nil]
        have e31 := some_inj hF30
        exact hN23 _ _ ⟨hS21, by rw [← e31]; simp only [put_at, put_no, ev_t, ev_c, reduceIte, Nat.reduceEqDiff, List.map_cons, List.map_nil]⟩
      · rw [iteF hg24] at hx26
        simp only [hg24, run_guard (g := 17), guard_off, run_pick, put1_some, xpick_f, run_ops_nil, run_nil, put_at, put_no, ev_t, ev_c, reduceIte, Nat.reduceEqDiff,
            List.map_cons, List.map_nil]
        have e32 := some_inj hx26
        exact hN23 _ _ ⟨hS21, by rw [← e32]; simp only [put_at, put_no, ev_t, ev_c, reduceIte, Nat.reduceEqDiff, List.map_cons, List.map_nil]⟩
    · rintro fr33 h35 ⟨hS36, f34⟩
      simp only [List.drop_succ_cons, List.drop_zero]
      simp only [f34, run_mv, run_ops_nil, run_ret, put_at, put_no, ev_t, ev_c, reduceIte, Nat.reduceEqDiff, List.map_cons, List.map_nil]
      have he := some_inj hF27
      subst he
      simp only [end_ret1, put_at, put_no, ev_t, ev_c, reduceIte, Nat.reduceEqDiff, List.map_cons, List.map_nil]
      exact rfl
theorem spec_BehindIn_x {W : Nat → Bool} {h : Heap} (hW : ∀ b,
    h.length ≤ b → W b = true) (k : Nat) (c_0 : Cluster) (r : (List Int) × Bool) (hF : spec_BehindIn k c_0 = some r) : Ret E W 23 [.agg [.int .i64 c_0.Truth.Epoch,
    .int .i64 c_0.Truth.Leader, lst cI c_0.Truth.InStep, lst Node.cells c_0.Nodes, lst Row.cells c_0.Acked]] h (fun v h' => ∃ rv0 rc0, v = .tup [rv0,
    .bool r.2] ∧ SlF cI 1 3 rv0 r.1 rc0 ∧ Sep h' h.length (rc0 ++ ([]))) := by
  refine Ret.of (fn := x23) rfl (Run.of ?_)
  unfold spec_BehindIn at hF
  have zf0 : argFr [.agg [.int .i64 c_0.Truth.Epoch, .int .i64 c_0.Truth.Leader, lst cI c_0.Truth.InStep, lst Node.cells c_0.Nodes,
      lst Row.cells c_0.Acked]] 0 = .agg [.int .i64 c_0.Truth.Epoch, .int .i64 c_0.Truth.Leader, lst cI c_0.Truth.InStep, lst Node.cells c_0.Nodes, lst Row.cells c_0.Acked] := rfl
  generalize argFr [.agg [.int .i64 c_0.Truth.Epoch, .int .i64 c_0.Truth.Leader, lst cI c_0.Truth.InStep, lst Node.cells c_0.Nodes, lst Row.cells c_0.Acked]] = fr0 at zf0 ⊢
  have hS : Sep h h.length [] := Sep.nil h
  simp only [x23, run_seq, run_reg, run_box, zf0, put_at, put_no, ev_t, ev_c, reduceIte, Nat.reduceEqDiff, List.map_cons, List.map_nil]
  refine put2_boxC (cs := [.int .i64 c_0.Truth.Epoch, .int .i64 c_0.Truth.Leader, lst cI c_0.Truth.InStep, lst Node.cells c_0.Nodes,
      lst Row.cells c_0.Acked]) hS rfl rfl rfl (fun b1 h2 hS3 => ?_)
  simp only [run_mv, run_ops_nil, put_at, put_no, ev_t, ev_c, reduceIte, Nat.reduceEqDiff, List.map_cons, List.map_nil]
  refine frz_stepC hS3 hW (by simp only [put_at, put_no, ev_t, ev_c, reduceIte, Nat.reduceEqDiff, List.map_cons, List.map_nil]) (fun h5 hS6 => ?_)
  simp only [run_frz_nil, x23_10, run_seq, run_reg, run_ld, put_at, put_no, ev_t, ev_c, reduceIte, Nat.reduceEqDiff, List.map_cons, List.map_nil]
  refine put1_eq (v := .agg [.int .i64 c_0.Truth.Epoch, .int .i64 c_0.Truth.Leader, lst cI c_0.Truth.InStep, lst Node.cells c_0.Nodes, lst Row.cells c_0.Acked]) rfl ?_
  obtain ⟨v7, hx8, hF9⟩ := bind_some' hF
  simp only [run_call, put_at, put_no, ev_t, ev_c, reduceIte, Nat.reduceEqDiff, List.map_cons, List.map_nil]
  refine call1 rfl (mapM1 (snap_agg (mapM1 snap_int (mapM1 snap_int (mapM1 snap_lst (mapM1 snap_lst (mapM1 snap_lst mapM0)))))) mapM0) (spec_GoodCluster_x
      (fun b hb => decide_eq_true hb) k c_0 v7 hx8) ?_
  simp only [run_un, put1_some, xnot, run_ops_nil, x23_1, run_cond, put_at, put_no, ev_t, ev_c, reduceIte, Nat.reduceEqDiff, List.map_cons, List.map_nil]
  refine cond_split (t := (!v7)) (fun hc10 => ?_) (fun hc10 => ?_)
  · rw [iteT hc10] at hF9
    simp only [run_seq, run_reg, run_mv, run_ops_nil, run_ret, put_at, put_no, ev_t, ev_c, reduceIte, Nat.reduceEqDiff, List.map_cons, List.map_nil]
    have he := some_inj hF9
    subst he
    simp only [end_ret2, put_at, put_no, ev_t, ev_c, reduceIte, Nat.reduceEqDiff, List.map_cons, List.map_nil]
    exact ⟨.nil, [], by first | trivial | rfl, SlF.nil, hS6⟩
  · rw [iteF hc10] at hF9
    simp only [run_skip, x23_9, run_seq, run_reg, run_mv, run_ops_nil, x23_8, run_fa, put1_some, Nat.reduceAdd, Nat.zero_add, Nat.add_zero, xfa_ref, run_ld, put_at, put_no, ev_t,
        ev_c, reduceIte, Nat.reduceEqDiff, List.map_cons, List.map_nil]
    refine put1_eq (v := lst Node.cells c_0.Nodes) rfl ?_
    simp only [run_len, put1_some, xlen_lst, run_mv, run_ops_nil, put_at, put_no, ev_t, ev_c, reduceIte, Nat.reduceEqDiff, List.map_cons, List.map_nil]
    obtain ⟨oc23, hX25, hk26⟩ := jn_some hF9
    simp only [x23_7]
    refine rangeL_j (σ := (List Int)) c_0.Nodes (fun i21 x22 s73 => spec_BehindIn_b1 c_0 i21 x22 s73) (fun s fr' h' => ∃ v18 c19, fr' 1 = .ref [.int .i64 c_0.Truth.Epoch,
        .int .i64 c_0.Truth.Leader, lst cI c_0.Truth.InStep, lst Node.cells c_0.Nodes,
        lst Row.cells c_0.Acked] 0 ∧ fr' 4 = v18 ∧ fr' 11 = lst Node.cells c_0.Nodes ∧ SlF cI 1 3 v18 s c19 ∧ Sep h' h.length (c19 ++ ([]))) hX25 ⟨.nil, [], by simp only [put_at,
        put_no, ev_t, ev_c, reduceIte, Nat.reduceEqDiff, List.map_cons, List.map_nil], by simp only [put_at, put_no, ev_t, ev_c, reduceIte, Nat.reduceEqDiff, List.map_cons,
        List.map_nil], by simp only [put_at, put_no, ev_t, ev_c, reduceIte, Nat.reduceEqDiff, List.map_cons, List.map_nil], SlF.nil, hS6⟩ (by simp only [put_at, put_no, ev_t,
        ev_c, reduceIte, Nat.reduceEqDiff, List.map_cons, List.map_nil]) (by simp only [put_at, put_no, ev_t, ev_c, reduceIte, Nat.reduceEqDiff, List.map_cons,
        List.map_nil]) (fun _ _ _ h => h) rfl rfl (fun _ _ _ _ h => h) (fun _ _ _ _ h => h) (fun _ _ _ _ h => h) (by decide) ?_ ?_
    · rintro i21 x22 s16 fr35 h36 hx41 ⟨v18, c19, f38, f39, f40, hv20, hS37⟩ f42 f43 oc24 hF27 hr28 Q29 hN30 hB34 hK31 hR32 hE33
      unfold spec_BehindIn_b1 at hF27
      simp only [x23_5, run_seq, run_reg, f42, run_mv, f40, run_ia, put_at, put_no, ev_t, ev_c, reduceIte, Nat.reduceEqDiff, List.map_cons, List.map_nil]
      refine put1_eq (v := .ref (Node.cells x22) 0) (xia_lstN hx41 rfl) ?_
      simp only [run_ld, put_at, put_no, ev_t, ev_c, reduceIte, Nat.reduceEqDiff, List.map_cons, List.map_nil]
      refine put1_eq (v := .agg [.int .i64 x22.View.Epoch, .int .i64 x22.View.Leader, lst cI x22.View.InStep, lst Row.cells x22.Log, lst cI x22.Known, .int .i64 x22.Told]) rfl ?_
      simp only [run_new, put_at, put_no, ev_t, ev_c, reduceIte, Nat.reduceEqDiff, List.map_cons, List.map_nil]
      refine put2_newC hS37 (fun b44 h45 hS46 => ?_)
      simp only [run_mv, run_st, put_at, put_no, ev_t, ev_c, reduceIte, Nat.reduceEqDiff, List.map_cons, List.map_nil]
      refine put2_stCx (us := [.int .i64 x22.View.Epoch, .int .i64 x22.View.Leader, lst cI x22.View.InStep, lst Row.cells x22.Log, lst cI x22.Known,
          .int .i64 x22.Told]) rfl (cs' := [.int .i64 x22.View.Epoch, .int .i64 x22.View.Leader, lst cI x22.View.InStep, lst Row.cells x22.Log, lst cI x22.Known,
          .int .i64 x22.Told]) hS46 hW rfl rfl (Nat.le_of_ble_eq_true rfl) rfl (fun h48 hS49 => ?_)
      simp only [put_no, run_ops_nil, put_at, ev_t, ev_c, reduceIte, Nat.reduceEqDiff, List.map_cons, List.map_nil]
      refine frz_stepC hS49 hW (by simp only [put_at, put_no, ev_t, ev_c, reduceIte, Nat.reduceEqDiff, List.map_cons, List.map_nil]) (fun h50 hS51 => ?_)
      simp only [run_frz_nil, x23_4, run_seq, run_reg, run_fa, put1_some, Nat.reduceAdd, Nat.zero_add, Nat.add_zero, xfa_ref, run_ld, put_at, put_no, ev_t, ev_c, reduceIte,
          Nat.reduceEqDiff, List.map_cons, List.map_nil]
      refine put1_eq (v := .agg [.int .i64 x22.View.Epoch, .int .i64 x22.View.Leader, lst cI x22.View.InStep]) rfl ?_
      simp only [f38, run_fa, put1_some, Nat.reduceAdd, Nat.zero_add, Nat.add_zero, xfa_ref, run_ld, put_at, put_no, ev_t, ev_c, reduceIte, Nat.reduceEqDiff, List.map_cons,
          List.map_nil]
      refine put1_eq (v := .agg [.int .i64 c_0.Truth.Epoch, .int .i64 c_0.Truth.Leader, lst cI c_0.Truth.InStep]) rfl ?_
      obtain ⟨v52, hx53, hF54⟩ := bind_some' hF27
      simp only [run_call, put_at, put_no, ev_t, ev_c, reduceIte, Nat.reduceEqDiff, List.map_cons, List.map_nil]
      refine call1 rfl (mapM1 (snap_agg (mapM1 snap_int (mapM1 snap_int (mapM1 snap_lst mapM0)))) (mapM1 (snap_agg (mapM1 snap_int (mapM1 snap_int
          (mapM1 snap_lst mapM0)))) mapM0)) (spec_l17Same_x (fun b hb => decide_eq_true hb) x22.View c_0.Truth v52 hx53) ?_
      simp only [run_un, put1_some, xnot, run_ops_nil, x23_3, run_cond, put_at, put_no, ev_t, ev_c, reduceIte, Nat.reduceEqDiff, List.map_cons, List.map_nil]
      refine cond_split (t := (!v52)) (fun hc55 => ?_) (fun hc55 => ?_)
      · rw [iteT hc55] at hF54
        simp only [x23_2, run_reg, f39, run_mv, run_buildS, evp, put_at, put_no, ev_t, ev_c, reduceIte, Nat.reduceEqDiff, List.map_cons, List.map_nil]
        refine put2_buildSF (n := 1) (f := cI) [(i21 : Int)] hS51 rfl rfl (fun v56 c57 h58 hv59 hS60 => ?_)
        simp only [run_app, put_at, put_no, ev_t, ev_c, reduceIte, Nat.reduceEqDiff, List.map_cons, List.map_nil]
        obtain ⟨l62, hx63, hF64⟩ := bind_some' hF54
        refine put2_appF (f := cI) hv20 (Sep.m1 hS60) hW (fun _ => rfl) (fun _ => rfl) (SlF.first hv59 hS60 (fun _ => rfl)) hx63 (fun v65 c66 h67 hv68 hS69 => ?_)
        simp only [run_mv, run_ops_nil, run_nil, put_at, put_no, ev_t, ev_c, reduceIte, Nat.reduceEqDiff, List.map_cons, List.map_nil]
        have e71 := some_inj hF64
        exact hN30 _ _ _ e71.symm ⟨v65, c66, by simp only [f38, put_at, put_no, ev_t, ev_c, reduceIte, Nat.reduceEqDiff, List.map_cons, List.map_nil], by simp only [put_at,
            put_no, ev_t, ev_c, reduceIte, Nat.reduceEqDiff, List.map_cons, List.map_nil], by simp only [f40, put_at, put_no, ev_t, ev_c, reduceIte, Nat.reduceEqDiff,
            List.map_cons, List.map_nil], hv68, (Sep.dc (Sep.m1 hS69))⟩ (by simp only [f42, put_at, put_no, ev_t, ev_c, reduceIte, Nat.reduceEqDiff, List.map_cons,
            List.map_nil]) (by simp only [f43, put_at, put_no, ev_t, ev_c, reduceIte, Nat.reduceEqDiff, List.map_cons, List.map_nil])
      · rw [iteF hc55] at hF54
        simp only [run_skip, run_nil, put_at, put_no, ev_t, ev_c, reduceIte, Nat.reduceEqDiff, List.map_cons, List.map_nil]
        have e72 := some_inj hF54
        exact hN30 _ _ _ e72.symm ⟨v18, c19, by simp only [f38, put_at, put_no, ev_t, ev_c, reduceIte, Nat.reduceEqDiff, List.map_cons, List.map_nil], by simp only [f39, put_at,
            put_no, ev_t, ev_c, reduceIte, Nat.reduceEqDiff, List.map_cons, List.map_nil], by simp only [f40, put_at, put_no, ev_t, ev_c, reduceIte, Nat.reduceEqDiff,
            List.map_cons, List.map_nil], hv20, hS51⟩ (by simp only [f42, put_at, put_no, ev_t, ev_c, reduceIte, Nat.reduceEqDiff, List.map_cons,
            List.map_nil]) (by simp only [f43, put_at, put_no, ev_t, ev_c, reduceIte, Nat.reduceEqDiff, List.map_cons, List.map_nil])
    · rintro s74 fr79 h80 rfl ⟨v76, c77, f82, f83, f84, hv78, hS81⟩
      dsimp only [jnO] at hk26
      unfold spec_BehindIn_j1 at hk26
      simp only [run_seq, run_reg, f83, run_mv, run_ops_nil, run_ret, put_at, put_no, ev_t, ev_c, reduceIte, Nat.reduceEqDiff, List.map_cons, List.map_nil]
      have he := some_inj hk26
      subst he
      simp only [end_ret2, put_at, put_no, ev_t, ev_c, reduceIte, Nat.reduceEqDiff, List.map_cons, List.map_nil]
      exact ⟨v76, c77, by first | trivial | rfl, hv78, hS81⟩
theorem impl_in_x {W : Nat → Bool} {h : Heap} (hW : ∀ b,
    h.length ≤ b → W b = true) (n_0 : Int) (low_1 : Int) (high_2 : Int) (r : Bool) (hF : some (impl_in n_0 low_1 high_2) = some r) : Ret E W 39 [.int .i64 n_0, .int .i64 low_1,
    .int .i64 high_2] h (fun v h' => cut h.length h' E.sz false 9 v = some (.bool r)) := by
  refine Ret.of (fn := x39) rfl (Run.of ?_)
  unfold impl_in at hF
  have zf0 : argFr [.int .i64 n_0, .int .i64 low_1, .int .i64 high_2] 0 = .int .i64 n_0 := rfl
  have zf1 : argFr [.int .i64 n_0, .int .i64 low_1, .int .i64 high_2] 1 = .int .i64 low_1 := rfl
  have zf2 : argFr [.int .i64 n_0, .int .i64 low_1, .int .i64 high_2] 2 = .int .i64 high_2 := rfl
  generalize argFr [.int .i64 n_0, .int .i64 low_1, .int .i64 high_2] = fr0 at zf0 zf1 zf2 ⊢
  have hS : Sep h h.length [] := Sep.nil h
  simp only [x39, run_seq, run_reg, run_mv, run_ops_nil, x39_1, zf0, zf1, run_bin, put1_some, xgeq, put_at, put_no, ev_t, ev_c, reduceIte, Nat.reduceEqDiff, List.map_cons,
      List.map_nil]
  refine ops_j 4 (fun fr' h' => Sep h' h.length ([]) ∧ fr' 14 = .bool ((decide (low_1 ≤ n_0)) && (decide (n_0 ≤ high_2)))) (fun Q1 hN2 => ?_) ?_
  · simp only [List.take_succ_cons, List.take_zero]
    simp only [run_guard (g := 10), put_at, put_no, ev_t, ev_c, reduceIte, Nat.reduceEqDiff, List.map_cons, List.map_nil]
    refine guard_split (t := (decide (low_1 ≤ n_0))) (fun hg3 => ?_) (fun hg3 => ?_)
    · simp only [hg3, run_guard (g := 10), guard_true, zf0, run_mv, zf2, run_bin, put1_some, xleq, run_pick, xpick_t, run_ops_nil, run_nil, put_at, put_no, ev_t, ev_c, reduceIte,
        Nat.reduceEqDiff, List.map_cons, List.map_nil]
      exact hN2 _ _ ⟨hS, by rw [andT hg3]; simp only [put_at, put_no, ev_t, ev_c, reduceIte, Nat.reduceEqDiff, List.map_cons, List.map_nil]⟩
    · simp only [hg3, run_guard (g := 10), guard_off, run_pick, put1_some, xpick_f, run_ops_nil, run_nil, put_at, put_no, ev_t, ev_c, reduceIte, Nat.reduceEqDiff, List.map_cons,
        List.map_nil]
      exact hN2 _ _ ⟨hS, by rw [andF hg3]; simp only [put_at, put_no, ev_t, ev_c, reduceIte, Nat.reduceEqDiff, List.map_cons, List.map_nil]⟩
  · rintro fr4 h6 ⟨hS7, f5⟩
    simp only [List.drop_succ_cons, List.drop_zero]
    simp only [f5, run_mv, run_ops_nil, run_ret, put_at, put_no, ev_t, ev_c, reduceIte, Nat.reduceEqDiff, List.map_cons, List.map_nil]
    have he := some_inj hF
    subst he
    simp only [end_ret1, put_at, put_no, ev_t, ev_c, reduceIte, Nat.reduceEqDiff, List.map_cons, List.map_nil]
    exact rfl
theorem slices_Index_int_x {W : Nat → Bool} {h : Heap} (hW : ∀ b,
    h.length ≤ b → W b = true) (s_0 : List Int) (v_1 : Int) (r : Int) (hF : slices_Index_int s_0 v_1 = some r) : Ret E W 96 [lst cI s_0,
    .int .i64 v_1] h (fun v h' => cut h.length h' E.sz false 9 v = some (.int .i64 r)) := by
  refine Ret.of (fn := x96) rfl (Run.of ?_)
  unfold slices_Index_int at hF
  have zf0 : argFr [lst cI s_0, .int .i64 v_1] 0 = lst cI s_0 := rfl
  have zf1 : argFr [lst cI s_0, .int .i64 v_1] 1 = .int .i64 v_1 := rfl
  generalize argFr [lst cI s_0, .int .i64 v_1] = fr0 at zf0 zf1 ⊢
  have hS : Sep h h.length [] := Sep.nil h
  simp only [x96, run_seq, run_reg, run_mv, run_ops_nil, x96_6, zf0, run_len, put1_some, xlen_lst, put_at, put_no, ev_t, ev_c, reduceIte, Nat.reduceEqDiff, List.map_cons,
      List.map_nil]
  obtain ⟨oc3, hX5, hk6⟩ := jn_some hF
  simp only [x96_5]
  refine rangeL_j (σ := Unit) s_0 (fun i1 x2 _ => slices_Index_int_b1 v_1 i1 x2 ) (fun s fr' h' => fr' 0 = lst cI s_0 ∧ fr' 1 = .int .i64 v_1 ∧ Sep h' h.length
      ([])) hX5 ⟨by simp only [zf0, put_at, put_no, ev_t, ev_c, reduceIte, Nat.reduceEqDiff, List.map_cons, List.map_nil], by simp only [zf1, put_at, put_no, ev_t, ev_c,
      reduceIte, Nat.reduceEqDiff, List.map_cons, List.map_nil], hS⟩ (by simp only [put_at, put_no, ev_t, ev_c, reduceIte, Nat.reduceEqDiff, List.map_cons,
      List.map_nil]) (by simp only [put_at, put_no, ev_t, ev_c, reduceIte, Nat.reduceEqDiff, List.map_cons,
      List.map_nil]) (fun _ _ _ h => h) rfl rfl (fun _ _ _ _ h => h) (fun _ _ _ _ h => h) (fun _ _ _ _ h => h) (by decide) ?_ ?_
  · rintro i1 x2 _ fr15 h16 hx20 ⟨f18, f19, hS17⟩ f21 f22 oc4 hF7 hr8 Q9 hN10 hB14 hK11 hR12 hE13
    unfold slices_Index_int_b1 at hF7
    simp only [x96_3, run_seq, run_reg, f21, run_mv, run_ops_nil, x96_2, f19, f18, run_ia, put_at, put_no, ev_t, ev_c, reduceIte, Nat.reduceEqDiff, List.map_cons, List.map_nil]
    refine put1_eq (v := .ref (cI x2) 0) (xia_lstN hx20 rfl) ?_
    simp only [run_ld, put_at, put_no, ev_t, ev_c, reduceIte, Nat.reduceEqDiff, List.map_cons, List.map_nil]
    refine put1_eq (v := .int .i64 x2) rfl ?_
    simp only [run_bin, put1_some, xeql, run_ops_nil, x96_1, run_cond, put_at, put_no, ev_t, ev_c, reduceIte, Nat.reduceEqDiff, List.map_cons, List.map_nil]
    refine cond_split (t := (decide (v_1 = x2))) (fun hc23 => ?_) (fun hc23 => ?_)
    · rw [iteT hc23] at hF7
      simp only [run_seq, run_reg, run_mv, run_ops_nil, run_ret, put_at, put_no, ev_t, ev_c, reduceIte, Nat.reduceEqDiff, List.map_cons, List.map_nil]
      have e24 := some_inj hF7
      subst e24
      have ho25 := hr8 _ rfl
      have hk26 := hk6
      rw [ho25] at hk26
      dsimp only [jnO] at hk26
      apply hR12
      have he := some_inj hk26
      subst he
      simp only [end_ret1, put_at, put_no, ev_t, ev_c, reduceIte, Nat.reduceEqDiff, List.map_cons, List.map_nil]
      exact rfl
    · rw [iteF hc23] at hF7
      simp only [run_skip, run_nil, put_at, put_no, ev_t, ev_c, reduceIte, Nat.reduceEqDiff, List.map_cons, List.map_nil]
      have e27 := some_inj hF7
      exact hN10 _ _ _ e27.symm ⟨by simp only [f18, put_at, put_no, ev_t, ev_c, reduceIte, Nat.reduceEqDiff, List.map_cons, List.map_nil], by simp only [f19, put_at, put_no, ev_t,
          ev_c, reduceIte, Nat.reduceEqDiff, List.map_cons, List.map_nil], hS17⟩ (by simp only [f21, put_at, put_no, ev_t, ev_c, reduceIte, Nat.reduceEqDiff, List.map_cons,
          List.map_nil]) (by simp only [f22, put_at, put_no, ev_t, ev_c, reduceIte, Nat.reduceEqDiff, List.map_cons, List.map_nil])
  · rintro _ fr29 h30 rfl ⟨f32, f33, hS31⟩
    dsimp only [jnO] at hk6
    unfold slices_Index_int_j1 at hk6
    simp only [run_seq, run_reg, run_mv, run_ops_nil, run_ret, put_at, put_no, ev_t, ev_c, reduceIte, Nat.reduceEqDiff, List.map_cons, List.map_nil]
    have he := some_inj hk6
    subst he
    simp only [end_ret1, put_at, put_no, ev_t, ev_c, reduceIte, Nat.reduceEqDiff, List.map_cons, List.map_nil]
    exact rfl
theorem slices_Contains_int_x {W : Nat → Bool} {h : Heap} (hW : ∀ b,
    h.length ≤ b → W b = true) (s_0 : List Int) (v_1 : Int) (r : Bool) (hF : slices_Contains_int s_0 v_1 = some r) : Ret E W 80 [lst cI s_0,
    .int .i64 v_1] h (fun v h' => cut h.length h' E.sz false 9 v = some (.bool r)) := by
  refine Ret.of (fn := x80) rfl (Run.of ?_)
  unfold slices_Contains_int at hF
  have zf0 : argFr [lst cI s_0, .int .i64 v_1] 0 = lst cI s_0 := rfl
  have zf1 : argFr [lst cI s_0, .int .i64 v_1] 1 = .int .i64 v_1 := rfl
  generalize argFr [lst cI s_0, .int .i64 v_1] = fr0 at zf0 zf1 ⊢
  have hS : Sep h h.length [] := Sep.nil h
  obtain ⟨v1, hx2, hF3⟩ := bind_some' hF
  simp only [x80, run_seq, run_reg, run_mv, run_ops_nil, x80_1, zf0, zf1, run_call, put_at, put_no, ev_t, ev_c, reduceIte, Nat.reduceEqDiff, List.map_cons, List.map_nil]
  refine call1 rfl (mapM1 snap_lst (mapM1 snap_int mapM0)) (slices_Index_int_x (fun b hb => decide_eq_true hb) s_0 v_1 v1 hx2) ?_
  simp only [run_bin, put1_some, xgeq, run_mv, run_ops_nil, run_ret, put_at, put_no, ev_t, ev_c, reduceIte, Nat.reduceEqDiff, List.map_cons, List.map_nil]
  have he := some_inj hF3
  subst he
  simp only [end_ret1, put_at, put_no, ev_t, ev_c, reduceIte, Nat.reduceEqDiff, List.map_cons, List.map_nil]
  exact rfl
theorem impl_areMembers_x {W : Nat → Bool} {h : Heap} (hW : ∀ b,
    h.length ≤ b → W b = true) (list_0 : List Int) (many_1 : Int) (r : Bool) (hF : impl_areMembers list_0 many_1 = some r) : Ret E W 92 [lst cI list_0,
    .int .i64 many_1] h (fun v h' => cut h.length h' E.sz false 9 v = some (.bool r)) := by
  refine Ret.of (fn := x92) rfl (Run.of ?_)
  unfold impl_areMembers at hF
  have zf0 : argFr [lst cI list_0, .int .i64 many_1] 0 = lst cI list_0 := rfl
  have zf1 : argFr [lst cI list_0, .int .i64 many_1] 1 = .int .i64 many_1 := rfl
  generalize argFr [lst cI list_0, .int .i64 many_1] = fr0 at zf0 zf1 ⊢
  have hS : Sep h h.length [] := Sep.nil h
  simp only [x92, run_seq, run_reg, run_mv, run_ops_nil, x92_5, zf0, run_len, put1_some, xlen_lst, put_at, put_no, ev_t, ev_c, reduceIte, Nat.reduceEqDiff, List.map_cons,
      List.map_nil]
  obtain ⟨oc3, hX5, hk6⟩ := jn_some hF
  simp only [x92_4]
  refine rangeL_j (σ := Unit) list_0 (fun i1 x2 _ => impl_areMembers_b1 list_0 many_1 i1 x2 )
      (fun s fr' h' => fr' 0 = lst cI list_0 ∧ fr' 1 = .int .i64 many_1 ∧ fr' 7 = lst cI list_0 ∧ Sep h' h.length ([])) hX5 ⟨by simp only [zf0, put_at, put_no, ev_t, ev_c,
      reduceIte, Nat.reduceEqDiff, List.map_cons, List.map_nil], by simp only [zf1, put_at, put_no, ev_t, ev_c, reduceIte, Nat.reduceEqDiff, List.map_cons, List.map_nil],
      by simp only [put_at, put_no, ev_t, ev_c, reduceIte, Nat.reduceEqDiff, List.map_cons, List.map_nil], hS⟩ (by simp only [put_at, put_no, ev_t, ev_c, reduceIte,
      Nat.reduceEqDiff, List.map_cons, List.map_nil]) (by simp only [put_at, put_no, ev_t, ev_c, reduceIte, Nat.reduceEqDiff, List.map_cons,
      List.map_nil]) (fun _ _ _ h => h) rfl rfl (fun _ _ _ _ h => h) (fun _ _ _ _ h => h) (fun _ _ _ _ h => h) (by decide) ?_ ?_
  · rintro i1 x2 _ fr15 h16 hx21 ⟨f18, f19, f20, hS17⟩ f22 f23 oc4 hF7 hr8 Q9 hN10 hB14 hK11 hR12 hE13
    unfold impl_areMembers_b1 at hF7
    simp only [x92_2, run_seq, run_reg, f22, run_mv, f20, run_ia, put_at, put_no, ev_t, ev_c, reduceIte, Nat.reduceEqDiff, List.map_cons, List.map_nil]
    refine put1_eq (v := .ref (cI x2) 0) (xia_lstN hx21 rfl) ?_
    simp only [run_ld, put_at, put_no, ev_t, ev_c, reduceIte, Nat.reduceEqDiff, List.map_cons, List.map_nil]
    refine put1_eq (v := .int .i64 x2) rfl ?_
    simp only [run_mv, run_ops_nil, x92_1, run_seq, run_reg, f19, run_bin, put1_some, xsub, run_call, put_at, put_no, ev_t, ev_c, reduceIte, Nat.reduceEqDiff, List.map_cons,
        List.map_nil]
    refine call1 rfl (mapM1 snap_int (mapM1 snap_int (mapM1 snap_int mapM0))) (impl_in_x (fun b hb => decide_eq_true hb) x2 0 (IntKind.wrap .i64 (many_1 - 1)) _ rfl) ?_
    simp only [run_un, put1_some, xnot, run_mv, put_at, put_no, ev_t, ev_c, reduceIte, Nat.reduceEqDiff, List.map_cons, List.map_nil]
    obtain ⟨v27, hx28, hF29⟩ := bind_some' hF7
    refine ops_j 12 (fun fr' h' => Sep h' h.length ([]) ∧ fr' 31 = .bool v27 ∧ fr' 0 = lst cI list_0 ∧ fr' 1 = .int .i64 many_1 ∧ fr' 7 = lst cI list_0 ∧ fr' 8 = .int .i64
        (List.length list_0 : Int) ∧ fr' 9 = .int .i64 (i1 : Int)) (fun Q24 hN25 => ?_) ?_
    · simp only [List.take_succ_cons, List.take_zero]
      simp only [run_guard (g := 19), put_at, put_no, ev_t, ev_c, reduceIte, Nat.reduceEqDiff, List.map_cons, List.map_nil]
      refine guard_split (t := (!(impl_in x2 0 (IntKind.wrap .i64 (many_1 - 1))))) (fun hg26 => ?_) (fun hg26 => ?_)
      · rw [iteT hg26] at hx28
        simp only [hg26, run_guard (g := 19), guard_off', run_guard (g := 22), guard_tup, run_pick, put1_some, xpick_t, run_ops_nil, run_nil, put_at, put_no, ev_t, ev_c,
            reduceIte, Nat.reduceEqDiff, List.map_cons, List.map_nil]
        have e30 := some_inj hx28
        exact hN25 _ _ ⟨hS17, by rw [← e30]; simp only [put_at, put_no, ev_t, ev_c, reduceIte, Nat.reduceEqDiff, List.map_cons, List.map_nil], by simp only [f18, put_at, put_no,
            ev_t, ev_c, reduceIte, Nat.reduceEqDiff, List.map_cons, List.map_nil], by simp only [f19, put_at, put_no, ev_t, ev_c, reduceIte, Nat.reduceEqDiff, List.map_cons,
            List.map_nil], by simp only [f20, put_at, put_no, ev_t, ev_c, reduceIte, Nat.reduceEqDiff, List.map_cons, List.map_nil], by simp only [f23, put_at, put_no, ev_t, ev_c,
            reduceIte, Nat.reduceEqDiff, List.map_cons, List.map_nil], by simp only [f22, put_at, put_no, ev_t, ev_c, reduceIte, Nat.reduceEqDiff, List.map_cons, List.map_nil]⟩
      · rw [iteF hg26] at hx28
        simp only [hg26, run_guard (g := 19), guard_false, run_mv, run_bin, put1_some, xgtr, put_at, put_no, ev_t, ev_c, reduceIte, Nat.reduceEqDiff, List.map_cons, List.map_nil]
        obtain ⟨v34, hx35, hF36⟩ := bind_some' hx28
        refine ops_j 8 (fun fr' h' => Sep h' h.length ([]) ∧ fr' 30 = .bool v34 ∧ fr' 0 = lst cI list_0 ∧ fr' 1 = .int .i64 many_1 ∧ fr' 7 = lst cI list_0 ∧ fr' 8 = .int .i64
            (List.length list_0 : Int) ∧ fr' 9 = .int .i64 (i1 : Int) ∧ fr' 19 = .bool (!(impl_in x2 0 (IntKind.wrap .i64 (many_1 - 1))))) (fun Q31 hN32 => ?_) ?_
        · simp only [List.take_succ_cons, List.take_zero]
          simp only [run_guard (g := 22), put_at, put_no, ev_t, ev_c, reduceIte, Nat.reduceEqDiff, List.map_cons, List.map_nil]
          refine guard_split (t := (decide ((0 : Int) < (i1 : Int)))) (fun hg33 => ?_) (fun hg33 => ?_)
          · rw [iteT hg33] at hx35
            obtain ⟨x37, hx38, hF39⟩ := bind_some' hx35
            simp only [hg33, run_guard (g := 22), guard_true, f18, run_mv, run_bin, put1_some, xsub, run_ia, put_at, put_no, ev_t, ev_c, reduceIte, Nat.reduceEqDiff,
                List.map_cons, List.map_nil]
            refine put1_eq (v := .ref (cI x37) 0) (xia_lst hx38 rfl) ?_
            simp only [hg33, run_guard (g := 22), guard_true, run_ld, put_at, put_no, ev_t, ev_c, reduceIte, Nat.reduceEqDiff, List.map_cons, List.map_nil]
            refine put1_eq (v := .int .i64 x37) rfl ?_
            simp only [hg33, run_guard (g := 22), guard_true, run_mv, run_bin, put1_some, xgeq, hg26, run_guard (g := 19), guard_false, run_pick, xpick_t, run_ops_nil, run_nil,
                put_at, put_no, ev_t, ev_c, reduceIte, Nat.reduceEqDiff, List.map_cons, List.map_nil]
            have e40 := some_inj hF39
            exact hN32 _ _ ⟨hS17, by rw [← e40]; simp only [put_at, put_no, ev_t, ev_c, reduceIte, Nat.reduceEqDiff, List.map_cons, List.map_nil], by simp only [f18, put_at,
                put_no, ev_t, ev_c, reduceIte, Nat.reduceEqDiff, List.map_cons, List.map_nil], by simp only [f19, put_at, put_no, ev_t, ev_c, reduceIte, Nat.reduceEqDiff,
                List.map_cons, List.map_nil], by simp only [f20, put_at, put_no, ev_t, ev_c, reduceIte, Nat.reduceEqDiff, List.map_cons, List.map_nil], by simp only [f23, put_at,
                put_no, ev_t, ev_c, reduceIte, Nat.reduceEqDiff, List.map_cons, List.map_nil], by simp only [f22, put_at, put_no, ev_t, ev_c, reduceIte, Nat.reduceEqDiff,
                List.map_cons, List.map_nil], by simp only [hg26, put_at, put_no, ev_t, ev_c, reduceIte, Nat.reduceEqDiff, List.map_cons, List.map_nil]⟩
          · rw [iteF hg33] at hx35
            simp only [hg33, run_guard (g := 22), guard_off, hg26, run_guard (g := 19), guard_false, run_pick, put1_some, xpick_f, run_ops_nil, run_nil, put_at, put_no, ev_t,
                ev_c, reduceIte, Nat.reduceEqDiff, List.map_cons, List.map_nil]
            have e41 := some_inj hx35
            exact hN32 _ _ ⟨hS17, by rw [← e41]; simp only [put_at, put_no, ev_t, ev_c, reduceIte, Nat.reduceEqDiff, List.map_cons, List.map_nil], by simp only [f18, put_at,
                put_no, ev_t, ev_c, reduceIte, Nat.reduceEqDiff, List.map_cons, List.map_nil], by simp only [f19, put_at, put_no, ev_t, ev_c, reduceIte, Nat.reduceEqDiff,
                List.map_cons, List.map_nil], by simp only [f20, put_at, put_no, ev_t, ev_c, reduceIte, Nat.reduceEqDiff, List.map_cons, List.map_nil], by simp only [f23, put_at,
                put_no, ev_t, ev_c, reduceIte, Nat.reduceEqDiff, List.map_cons, List.map_nil], by simp only [f22, put_at, put_no, ev_t, ev_c, reduceIte, Nat.reduceEqDiff,
                List.map_cons, List.map_nil], by simp only [hg26, put_at, put_no, ev_t, ev_c, reduceIte, Nat.reduceEqDiff, List.map_cons, List.map_nil]⟩
        · rintro fr42 h50 ⟨hS51, f43, f44, f45, f46, f47, f48, f49⟩
          simp only [List.drop_succ_cons, List.drop_zero]
          simp only [f49, hg26, run_pick, put1_some, xpick_f, f43, run_ops_nil, run_nil, put_at, put_no, ev_t, ev_c, reduceIte, Nat.reduceEqDiff, List.map_cons, List.map_nil]
          have e52 := some_inj hF36
          exact hN25 _ _ ⟨hS51, by rw [← e52]; simp only [put_at, put_no, ev_t, ev_c, reduceIte, Nat.reduceEqDiff, List.map_cons, List.map_nil], by simp only [f44, put_at, put_no,
              ev_t, ev_c, reduceIte, Nat.reduceEqDiff, List.map_cons, List.map_nil], by simp only [f45, put_at, put_no, ev_t, ev_c, reduceIte, Nat.reduceEqDiff, List.map_cons,
              List.map_nil], by simp only [f46, put_at, put_no, ev_t, ev_c, reduceIte, Nat.reduceEqDiff, List.map_cons, List.map_nil], by simp only [f47, put_at, put_no, ev_t,
              ev_c, reduceIte, Nat.reduceEqDiff, List.map_cons, List.map_nil], by simp only [f48, put_at, put_no, ev_t, ev_c, reduceIte, Nat.reduceEqDiff, List.map_cons,
              List.map_nil]⟩
    · rintro fr53 h60 ⟨hS61, f54, f55, f56, f57, f58, f59⟩
      simp only [List.drop_succ_cons, List.drop_zero]
      simp only [run_ops_nil, f54, run_cond, put_at, put_no, ev_t, ev_c, reduceIte, Nat.reduceEqDiff, List.map_cons, List.map_nil]
      refine cond_split (t := v27) (fun hc62 => ?_) (fun hc62 => ?_)
      · rw [iteT hc62] at hF29
        simp only [run_seq, run_reg, run_mv, run_ops_nil, run_ret, put_at, put_no, ev_t, ev_c, reduceIte, Nat.reduceEqDiff, List.map_cons, List.map_nil]
        have e63 := some_inj hF29
        subst e63
        have ho64 := hr8 _ rfl
        have hk65 := hk6
        rw [ho64] at hk65
        dsimp only [jnO] at hk65
        apply hR12
        have he := some_inj hk65
        subst he
        simp only [end_ret1, put_at, put_no, ev_t, ev_c, reduceIte, Nat.reduceEqDiff, List.map_cons, List.map_nil]
        exact rfl
      · rw [iteF hc62] at hF29
        simp only [run_skip, run_nil, put_at, put_no, ev_t, ev_c, reduceIte, Nat.reduceEqDiff, List.map_cons, List.map_nil]
        have e66 := some_inj hF29
        exact hN10 _ _ _ e66.symm ⟨by simp only [f55, put_at, put_no, ev_t, ev_c, reduceIte, Nat.reduceEqDiff, List.map_cons, List.map_nil], by simp only [f56, put_at, put_no,
            ev_t, ev_c, reduceIte, Nat.reduceEqDiff, List.map_cons, List.map_nil], by simp only [f57, put_at, put_no, ev_t, ev_c, reduceIte, Nat.reduceEqDiff, List.map_cons,
            List.map_nil], hS61⟩ (by simp only [f59, put_at, put_no, ev_t, ev_c, reduceIte, Nat.reduceEqDiff, List.map_cons, List.map_nil]) (by simp only [f58, put_at, put_no,
            ev_t, ev_c, reduceIte, Nat.reduceEqDiff, List.map_cons, List.map_nil])
  · rintro _ fr68 h69 rfl ⟨f71, f72, f73, hS70⟩
    dsimp only [jnO] at hk6
    unfold impl_areMembers_j1 at hk6
    simp only [run_seq, run_reg, run_mv, run_ops_nil, run_ret, put_at, put_no, ev_t, ev_c, reduceIte, Nat.reduceEqDiff, List.map_cons, List.map_nil]
    have he := some_inj hk6
    subst he
    simp only [end_ret1, put_at, put_no, ev_t, ev_c, reduceIte, Nat.reduceEqDiff, List.map_cons, List.map_nil]
    exact rfl
theorem impl_isView_x {W : Nat → Bool} {h : Heap} (hW : ∀ b,
    h.length ≤ b → W b = true) (v_0 : View) (nodes_1 : Int) (r : Bool) (hF : impl_isView v_0 nodes_1 = some r) : Ret E W 78 [.agg [.int .i64 v_0.Epoch, .int .i64 v_0.Leader,
    lst cI v_0.InStep], .int .i64 nodes_1] h (fun v h' => cut h.length h' E.sz false 9 v = some (.bool r)) := by
  refine Ret.of (fn := x78) rfl (Run.of ?_)
  unfold impl_isView at hF
  have zf0 : argFr [.agg [.int .i64 v_0.Epoch, .int .i64 v_0.Leader, lst cI v_0.InStep], .int .i64 nodes_1] 0 = .agg [.int .i64 v_0.Epoch, .int .i64 v_0.Leader,
      lst cI v_0.InStep] := rfl
  have zf1 : argFr [.agg [.int .i64 v_0.Epoch, .int .i64 v_0.Leader, lst cI v_0.InStep], .int .i64 nodes_1] 1 = .int .i64 nodes_1 := rfl
  generalize argFr [.agg [.int .i64 v_0.Epoch, .int .i64 v_0.Leader, lst cI v_0.InStep], .int .i64 nodes_1] = fr0 at zf0 zf1 ⊢
  have hS : Sep h h.length [] := Sep.nil h
  simp only [x78, run_seq, run_reg, run_box, zf0, put_at, put_no, ev_t, ev_c, reduceIte, Nat.reduceEqDiff, List.map_cons, List.map_nil]
  refine put2_boxC (cs := [.int .i64 v_0.Epoch, .int .i64 v_0.Leader, lst cI v_0.InStep]) hS rfl rfl rfl (fun b1 h2 hS3 => ?_)
  simp only [run_mv, run_ops_nil, put_at, put_no, ev_t, ev_c, reduceIte, Nat.reduceEqDiff, List.map_cons, List.map_nil]
  refine frz_stepC hS3 hW (by simp only [put_at, put_no, ev_t, ev_c, reduceIte, Nat.reduceEqDiff, List.map_cons, List.map_nil]) (fun h5 hS6 => ?_)
  simp only [run_frz_nil, x78_1, run_seq, run_reg, run_fa, put1_some, Nat.reduceAdd, Nat.zero_add, Nat.add_zero, xfa_ref, run_ld, put_at, put_no, ev_t, ev_c, reduceIte,
      Nat.reduceEqDiff, List.map_cons, List.map_nil]
  refine put1_eq (v := .int .i64 v_0.Epoch) rfl ?_
  simp only [run_call, put_at, put_no, ev_t, ev_c, reduceIte, Nat.reduceEqDiff, List.map_cons, List.map_nil]
  refine call1 rfl (mapM1 snap_int (mapM1 snap_int (mapM1 snap_int mapM0))) (impl_in_x (fun b hb => decide_eq_true hb) v_0.Epoch 0 100 _ rfl) ?_
  simp only [run_mv, put_at, put_no, ev_t, ev_c, reduceIte, Nat.reduceEqDiff, List.map_cons, List.map_nil]
  obtain ⟨v10, hx11, hF12⟩ := bind_some' hF
  refine ops_j 5 (fun fr' h' => Sep h' h.length ([]) ∧ fr' 13 = .bool v10 ∧ fr' 2 = .ref [.int .i64 v_0.Epoch, .int .i64 v_0.Leader, lst cI v_0.InStep] 0) (fun Q7 hN8 => ?_) ?_
  · simp only [List.take_succ_cons, List.take_zero]
    simp only [run_guard (g := 8), put_at, put_no, ev_t, ev_c, reduceIte, Nat.reduceEqDiff, List.map_cons, List.map_nil]
    refine guard_split (t := (impl_in v_0.Epoch 0 100)) (fun hg9 => ?_) (fun hg9 => ?_)
    · rw [iteT hg9] at hx11
      simp only [hg9, run_guard (g := 8), guard_true, run_fa, put1_some, Nat.reduceAdd, Nat.zero_add, Nat.add_zero, xfa_ref, run_ld, put_at, put_no, ev_t, ev_c, reduceIte,
          Nat.reduceEqDiff, List.map_cons, List.map_nil]
      refine put1_eq (v := lst cI v_0.InStep) rfl ?_
      obtain ⟨v13, hx14, hF15⟩ := bind_some' hx11
      simp only [hg9, run_guard (g := 8), guard_true, zf1, run_mv, run_call, put_at, put_no, ev_t, ev_c, reduceIte, Nat.reduceEqDiff, List.map_cons, List.map_nil]
      refine call1 rfl (mapM1 snap_lst (mapM1 snap_int mapM0)) (impl_areMembers_x (fun b hb => decide_eq_true hb) v_0.InStep nodes_1 v13 hx14) ?_
      simp only [hg9, run_pick, put1_some, xpick_t, run_ops_nil, run_nil, put_at, put_no, ev_t, ev_c, reduceIte, Nat.reduceEqDiff, List.map_cons, List.map_nil]
      have e16 := some_inj hF15
      exact hN8 _ _ ⟨hS6, by rw [← e16]; simp only [put_at, put_no, ev_t, ev_c, reduceIte, Nat.reduceEqDiff, List.map_cons, List.map_nil], by simp only [put_at, put_no, ev_t,
          ev_c, reduceIte, Nat.reduceEqDiff, List.map_cons, List.map_nil]⟩
    · rw [iteF hg9] at hx11
      simp only [hg9, run_guard (g := 8), guard_off, run_pick, put1_some, xpick_f, run_ops_nil, run_nil, put_at, put_no, ev_t, ev_c, reduceIte, Nat.reduceEqDiff, List.map_cons,
          List.map_nil]
      have e17 := some_inj hx11
      exact hN8 _ _ ⟨hS6, by rw [← e17]; simp only [put_at, put_no, ev_t, ev_c, reduceIte, Nat.reduceEqDiff, List.map_cons, List.map_nil], by simp only [put_at, put_no, ev_t,
          ev_c, reduceIte, Nat.reduceEqDiff, List.map_cons, List.map_nil]⟩
  · rintro fr18 h21 ⟨hS22, f19, f20⟩
    simp only [List.drop_succ_cons, List.drop_zero]
    simp only [f19, run_mv, put_at, put_no, ev_t, ev_c, reduceIte, Nat.reduceEqDiff, List.map_cons, List.map_nil]
    obtain ⟨v26, hx27, hF28⟩ := bind_some' hF12
    refine ops_j 6 (fun fr' h' => Sep h' h.length ([]) ∧ fr' 20 = .bool v26) (fun Q23 hN24 => ?_) ?_
    · simp only [List.take_succ_cons, List.take_zero]
      simp only [run_guard (g := 14), put_at, put_no, ev_t, ev_c, reduceIte, Nat.reduceEqDiff, List.map_cons, List.map_nil]
      refine guard_split (t := v10) (fun hg25 => ?_) (fun hg25 => ?_)
      · rw [iteT hg25] at hx27
        simp only [hg25, run_guard (g := 14), guard_true, f20, run_fa, put1_some, Nat.reduceAdd, Nat.zero_add, Nat.add_zero, xfa_ref, run_ld, put_at, put_no, ev_t, ev_c,
            reduceIte, Nat.reduceEqDiff, List.map_cons, List.map_nil]
        refine put1_eq (v := lst cI v_0.InStep) rfl ?_
        simp only [hg25, run_guard (g := 14), guard_true, f20, run_fa, put1_some, Nat.reduceAdd, Nat.zero_add, Nat.add_zero, xfa_ref, run_ld, put_at, put_no, ev_t, ev_c,
            reduceIte, Nat.reduceEqDiff, List.map_cons, List.map_nil]
        refine put1_eq (v := .int .i64 v_0.Leader) rfl ?_
        obtain ⟨v29, hx30, hF31⟩ := bind_some' hx27
        simp only [hg25, run_guard (g := 14), guard_true, run_call, put_at, put_no, ev_t, ev_c, reduceIte, Nat.reduceEqDiff, List.map_cons, List.map_nil]
        refine call1 rfl (mapM1 snap_lst (mapM1 snap_int mapM0)) (slices_Contains_int_x (fun b hb => decide_eq_true hb) v_0.InStep v_0.Leader v29 hx30) ?_
        simp only [hg25, run_pick, put1_some, xpick_t, run_ops_nil, run_nil, put_at, put_no, ev_t, ev_c, reduceIte, Nat.reduceEqDiff, List.map_cons, List.map_nil]
        have e32 := some_inj hF31
        exact hN24 _ _ ⟨hS22, by rw [← e32]; simp only [put_at, put_no, ev_t, ev_c, reduceIte, Nat.reduceEqDiff, List.map_cons, List.map_nil]⟩
      · rw [iteF hg25] at hx27
        simp only [hg25, run_guard (g := 14), guard_off, run_pick, put1_some, xpick_f, run_ops_nil, run_nil, put_at, put_no, ev_t, ev_c, reduceIte, Nat.reduceEqDiff,
            List.map_cons, List.map_nil]
        have e33 := some_inj hx27
        exact hN24 _ _ ⟨hS22, by rw [← e33]; simp only [put_at, put_no, ev_t, ev_c, reduceIte, Nat.reduceEqDiff, List.map_cons, List.map_nil]⟩
    · rintro fr34 h36 ⟨hS37, f35⟩
      simp only [List.drop_succ_cons, List.drop_zero]
      simp only [f35, run_mv, run_ops_nil, run_ret, put_at, put_no, ev_t, ev_c, reduceIte, Nat.reduceEqDiff, List.map_cons, List.map_nil]
      have he := some_inj hF28
      subst he
      simp only [end_ret1, put_at, put_no, ev_t, ev_c, reduceIte, Nat.reduceEqDiff, List.map_cons, List.map_nil]
      exact rfl
theorem impl_isRows_x {W : Nat → Bool} {h : Heap} (hW : ∀ b,
    h.length ≤ b → W b = true) (l_0 : List Row) (most_1 : Int) (r : Bool) (hF : impl_isRows l_0 most_1 = some r) : Ret E W 93 [lst Row.cells l_0,
    .int .i64 most_1] h (fun v h' => cut h.length h' E.sz false 9 v = some (.bool r)) := by
  refine Ret.of (fn := x93) rfl (Run.of ?_)
  unfold impl_isRows at hF
  have zf0 : argFr [lst Row.cells l_0, .int .i64 most_1] 0 = lst Row.cells l_0 := rfl
  have zf1 : argFr [lst Row.cells l_0, .int .i64 most_1] 1 = .int .i64 most_1 := rfl
  generalize argFr [lst Row.cells l_0, .int .i64 most_1] = fr0 at zf0 zf1 ⊢
  have hS : Sep h h.length [] := Sep.nil h
  simp only [x93, run_seq, run_reg, run_mv, run_ops_nil, x93_7, x93_6, zf0, run_len, put1_some, xlen_lst, put_at, put_no, ev_t, ev_c, reduceIte, Nat.reduceEqDiff, List.map_cons,
      List.map_nil]
  obtain ⟨oc5, hX7, hk8⟩ := jn_some hF
  simp only [x93_4]
  refine rangeL_j (σ := Int) l_0 (fun i3 x4 s53 => impl_isRows_b1 most_1 i3 x4 s53)
      (fun s fr' h' => fr' 0 = lst Row.cells l_0 ∧ fr' 1 = .int .i64 most_1 ∧ fr' 5 = .int .i64 s ∧ fr' 8 = lst Row.cells l_0 ∧ Sep h' h.length ([])) hX7 ⟨by simp only [zf0,
      put_at, put_no, ev_t, ev_c, reduceIte, Nat.reduceEqDiff, List.map_cons, List.map_nil], by simp only [zf1, put_at, put_no, ev_t, ev_c, reduceIte, Nat.reduceEqDiff,
      List.map_cons, List.map_nil], by simp only [put_at, put_no, ev_t, ev_c, reduceIte, Nat.reduceEqDiff, List.map_cons, List.map_nil], by simp only [put_at, put_no, ev_t, ev_c,
      reduceIte, Nat.reduceEqDiff, List.map_cons, List.map_nil], hS⟩ (by simp only [put_at, put_no, ev_t, ev_c, reduceIte, Nat.reduceEqDiff, List.map_cons,
      List.map_nil]) (by simp only [put_at, put_no, ev_t, ev_c, reduceIte, Nat.reduceEqDiff, List.map_cons,
      List.map_nil]) (fun _ _ _ h => h) rfl rfl (fun _ _ _ _ h => h) (fun _ _ _ _ h => h) (fun _ _ _ _ h => h) (by decide) ?_ ?_
  · rintro i3 x4 s2 fr17 h18 hx24 ⟨f20, f21, f22, f23, hS19⟩ f25 f26 oc6 hF9 hr10 Q11 hN12 hB16 hK13 hR14 hE15
    unfold impl_isRows_b1 at hF9
    simp only [x93_2, run_seq, run_reg, f23, f25, run_ia, put_at, put_no, ev_t, ev_c, reduceIte, Nat.reduceEqDiff, List.map_cons, List.map_nil]
    refine put1_eq (v := .ref (Row.cells x4) 0) (xia_lstN hx24 rfl) ?_
    simp only [run_ld, put_at, put_no, ev_t, ev_c, reduceIte, Nat.reduceEqDiff, List.map_cons, List.map_nil]
    refine put1_eq (v := .agg [.int .i64 x4.Epoch, .int .i64 x4.Value]) rfl ?_
    simp only [run_new, put_at, put_no, ev_t, ev_c, reduceIte, Nat.reduceEqDiff, List.map_cons, List.map_nil]
    refine put2_newC hS19 (fun b27 h28 hS29 => ?_)
    simp only [run_st, put_at, put_no, ev_t, ev_c, reduceIte, Nat.reduceEqDiff, List.map_cons, List.map_nil]
    refine put2_stCx (us := [.int .i64 x4.Epoch, .int .i64 x4.Value]) rfl (cs' := [.int .i64 x4.Epoch,
        .int .i64 x4.Value]) hS29 hW rfl rfl (Nat.le_of_ble_eq_true rfl) rfl (fun h31 hS32 => ?_)
    simp only [put_no, run_ops_nil, put_at, ev_t, ev_c, reduceIte, Nat.reduceEqDiff, List.map_cons, List.map_nil]
    refine frz_stepC hS32 hW (by simp only [put_at, put_no, ev_t, ev_c, reduceIte, Nat.reduceEqDiff, List.map_cons, List.map_nil]) (fun h33 hS34 => ?_)
    simp only [run_frz_nil, x93_1, run_seq, run_reg, run_fa, put1_some, Nat.reduceAdd, Nat.zero_add, Nat.add_zero, xfa_ref, run_ld, put_at, put_no, ev_t, ev_c, reduceIte,
        Nat.reduceEqDiff, List.map_cons, List.map_nil]
    refine put1_eq (v := .int .i64 x4.Epoch) rfl ?_
    simp only [f22, run_mv, f21, run_call, put_at, put_no, ev_t, ev_c, reduceIte, Nat.reduceEqDiff, List.map_cons, List.map_nil]
    refine call1 rfl (mapM1 snap_int (mapM1 snap_int (mapM1 snap_int mapM0))) (impl_in_x (fun b hb => decide_eq_true hb) x4.Epoch s2 most_1 _ rfl) ?_
    simp only [run_un, put1_some, xnot, run_mv, put_at, put_no, ev_t, ev_c, reduceIte, Nat.reduceEqDiff, List.map_cons, List.map_nil]
    refine ops_j 5 (fun fr' h' => Sep h' h.length ([]) ∧ fr' 25 = .bool ((!(impl_in x4.Epoch s2 most_1)) ||
        (!(impl_in x4.Value 0 99))) ∧ fr' 0 = lst Row.cells l_0 ∧ fr' 1 = .int .i64 most_1 ∧ fr' 7 = .ref [.int .i64 x4.Epoch,
        .int .i64 x4.Value] 0 ∧ fr' 8 = lst Row.cells l_0 ∧ fr' 9 = .int .i64 (List.length l_0 : Int) ∧ fr' 10 = .int .i64 (i3 : Int)) (fun Q35 hN36 => ?_) ?_
    · simp only [List.take_succ_cons, List.take_zero]
      simp only [run_guard (g := 20), put_at, put_no, ev_t, ev_c, reduceIte, Nat.reduceEqDiff, List.map_cons, List.map_nil]
      refine guard_split (t := (!(impl_in x4.Epoch s2 most_1))) (fun hg37 => ?_) (fun hg37 => ?_)
      · simp only [hg37, run_guard (g := 20), guard_off', run_pick, put1_some, xpick_t, run_ops_nil, run_nil, put_at, put_no, ev_t, ev_c, reduceIte, Nat.reduceEqDiff,
          List.map_cons, List.map_nil]
        exact hN36 _ _ ⟨hS34, by rw [orT hg37]; simp only [put_at, put_no, ev_t, ev_c, reduceIte, Nat.reduceEqDiff, List.map_cons, List.map_nil], by simp only [f20, put_at,
            put_no, ev_t, ev_c, reduceIte, Nat.reduceEqDiff, List.map_cons, List.map_nil], by simp only [f21, put_at, put_no, ev_t, ev_c, reduceIte, Nat.reduceEqDiff,
            List.map_cons, List.map_nil], by simp only [put_at, put_no, ev_t, ev_c, reduceIte, Nat.reduceEqDiff, List.map_cons, List.map_nil], by simp only [f23, put_at, put_no,
            ev_t, ev_c, reduceIte, Nat.reduceEqDiff, List.map_cons, List.map_nil], by simp only [f26, put_at, put_no, ev_t, ev_c, reduceIte, Nat.reduceEqDiff, List.map_cons,
            List.map_nil], by simp only [f25, put_at, put_no, ev_t, ev_c, reduceIte, Nat.reduceEqDiff, List.map_cons, List.map_nil]⟩
      · simp only [hg37, run_guard (g := 20), guard_false, run_fa, put1_some, Nat.reduceAdd, Nat.zero_add, Nat.add_zero, xfa_ref, run_ld, put_at, put_no, ev_t, ev_c, reduceIte,
          Nat.reduceEqDiff, List.map_cons, List.map_nil]
        refine put1_eq (v := .int .i64 x4.Value) rfl ?_
        simp only [hg37, run_guard (g := 20), guard_false, run_call, put_at, put_no, ev_t, ev_c, reduceIte, Nat.reduceEqDiff, List.map_cons, List.map_nil]
        refine call1 rfl (mapM1 snap_int (mapM1 snap_int (mapM1 snap_int mapM0))) (impl_in_x (fun b hb => decide_eq_true hb) x4.Value 0 99 _ rfl) ?_
        simp only [hg37, run_guard (g := 20), guard_false, run_un, put1_some, xnot, run_pick, xpick_f, run_ops_nil, run_nil, put_at, put_no, ev_t, ev_c, reduceIte,
            Nat.reduceEqDiff, List.map_cons, List.map_nil]
        exact hN36 _ _ ⟨hS34, by rw [orF hg37]; simp only [put_at, put_no, ev_t, ev_c, reduceIte, Nat.reduceEqDiff, List.map_cons, List.map_nil], by simp only [f20, put_at,
            put_no, ev_t, ev_c, reduceIte, Nat.reduceEqDiff, List.map_cons, List.map_nil], by simp only [f21, put_at, put_no, ev_t, ev_c, reduceIte, Nat.reduceEqDiff,
            List.map_cons, List.map_nil], by simp only [put_at, put_no, ev_t, ev_c, reduceIte, Nat.reduceEqDiff, List.map_cons, List.map_nil], by simp only [f23, put_at, put_no,
            ev_t, ev_c, reduceIte, Nat.reduceEqDiff, List.map_cons, List.map_nil], by simp only [f26, put_at, put_no, ev_t, ev_c, reduceIte, Nat.reduceEqDiff, List.map_cons,
            List.map_nil], by simp only [f25, put_at, put_no, ev_t, ev_c, reduceIte, Nat.reduceEqDiff, List.map_cons, List.map_nil]⟩
    · rintro fr38 h46 ⟨hS47, f39, f40, f41, f42, f43, f44, f45⟩
      simp only [List.drop_succ_cons, List.drop_zero]
      simp only [run_ops_nil, f39, run_cond, put_at, put_no, ev_t, ev_c, reduceIte, Nat.reduceEqDiff, List.map_cons, List.map_nil]
      refine cond_split (t := ((!(impl_in x4.Epoch s2 most_1)) || (!(impl_in x4.Value 0 99)))) (fun hc48 => ?_) (fun hc48 => ?_)
      · rw [iteT hc48] at hF9
        simp only [run_seq, run_reg, run_mv, run_ops_nil, run_ret, put_at, put_no, ev_t, ev_c, reduceIte, Nat.reduceEqDiff, List.map_cons, List.map_nil]
        have e49 := some_inj hF9
        subst e49
        have ho50 := hr10 _ rfl
        have hk51 := hk8
        rw [ho50] at hk51
        dsimp only [jnO] at hk51
        apply hR14
        have he := some_inj hk51
        subst he
        simp only [end_ret1, put_at, put_no, ev_t, ev_c, reduceIte, Nat.reduceEqDiff, List.map_cons, List.map_nil]
        exact rfl
      · rw [iteF hc48] at hF9
        simp only [run_skip, run_reg, f42, run_fa, put1_some, Nat.reduceAdd, Nat.zero_add, Nat.add_zero, xfa_ref, run_ld, put_at, put_no, ev_t, ev_c, reduceIte, Nat.reduceEqDiff,
            List.map_cons, List.map_nil]
        refine put1_eq (v := .int .i64 x4.Epoch) rfl ?_
        simp only [run_mv, run_ops_nil, run_nil, put_at, put_no, ev_t, ev_c, reduceIte, Nat.reduceEqDiff, List.map_cons, List.map_nil]
        have e52 := some_inj hF9
        exact hN12 _ _ _ e52.symm ⟨by simp only [f40, put_at, put_no, ev_t, ev_c, reduceIte, Nat.reduceEqDiff, List.map_cons, List.map_nil], by simp only [f41, put_at, put_no,
            ev_t, ev_c, reduceIte, Nat.reduceEqDiff, List.map_cons, List.map_nil], by simp only [put_at, put_no, ev_t, ev_c, reduceIte, Nat.reduceEqDiff, List.map_cons,
            List.map_nil], by simp only [f43, put_at, put_no, ev_t, ev_c, reduceIte, Nat.reduceEqDiff, List.map_cons, List.map_nil], hS47⟩ (by simp only [f45, put_at, put_no,
            ev_t, ev_c, reduceIte, Nat.reduceEqDiff, List.map_cons, List.map_nil]) (by simp only [f44, put_at, put_no, ev_t, ev_c, reduceIte, Nat.reduceEqDiff, List.map_cons,
            List.map_nil])
  · rintro s54 fr55 h56 rfl ⟨f58, f59, f60, f61, hS57⟩
    dsimp only [jnO] at hk8
    unfold impl_isRows_j1 at hk8
    simp only [x93_5, run_seq, run_reg, f58, run_mv, run_len, put1_some, xlen_lst, run_bin, xleq, run_ops_nil, run_ret, put_at, put_no, ev_t, ev_c, reduceIte, Nat.reduceEqDiff,
        List.map_cons, List.map_nil]
    have he := some_inj hk8
    subst he
    simp only [end_ret1, put_at, put_no, ev_t, ev_c, reduceIte, Nat.reduceEqDiff, List.map_cons, List.map_nil]
    exact rfl
end Go.Proofs.Ytohofoampalhoaa.X
namespace Go.Proofs.Ytohofoampalhoaa.X
open Go
theorem slices_IndexFunc_int_x {W : Nat → Bool} {h : Heap} (hW : ∀ b,
    h.length ≤ b → W b = true) (s_0 : List Int) {g1 : Nat} {caps1 : List XV} (hm1 : E.mode g1 = 1) (f_1 : Int → Option Bool) (hf1 : ∀ (W : Nat → Bool) (h : Heap), (∀ b,
    h.length ≤ b → W b = true) → ∀ a0 r, f_1 a0 = some r → Ret E W g1 ([.int .i64 a0] ++ caps1) h (fun v h' => cut h.length h' E.sz false 9 v = some (.bool r))) (r : Int)
    (hF : slices_IndexFunc_int s_0 f_1 = some r) : Ret E W 101 [lst cI s_0, .fn g1 caps1] h (fun v h' => cut h.length h' E.sz false 9 v = some (.int .i64 r)) := by
  refine Ret.of (fn := x101) rfl (Run.of ?_)
  unfold slices_IndexFunc_int at hF
  have zf0 : argFr [lst cI s_0, .fn g1 caps1] 0 = lst cI s_0 := rfl
  have zf1 : argFr [lst cI s_0, .fn g1 caps1] 1 = .fn g1 caps1 := rfl
  generalize argFr [lst cI s_0, .fn g1 caps1] = fr0 at zf0 zf1 ⊢
  have hS : Sep h h.length [] := Sep.nil h
  simp only [x101, run_seq, run_reg, run_mv, run_ops_nil, x101_6, zf0, run_len, put1_some, xlen_lst, put_at, put_no, ev_t, ev_c, reduceIte, Nat.reduceEqDiff, List.map_cons,
      List.map_nil]
  obtain ⟨oc3, hX5, hk6⟩ := jn_some hF
  simp only [x101_5]
  refine rangeL_j (σ := Unit) s_0 (fun i1 x2 _ => slices_IndexFunc_int_b1 f_1 i1 x2 ) (fun s fr' h' => fr' 0 = lst cI s_0 ∧ fr' 1 = .fn g1 caps1 ∧ Sep h' h.length
      ([])) hX5 ⟨by simp only [zf0, put_at, put_no, ev_t, ev_c, reduceIte, Nat.reduceEqDiff, List.map_cons, List.map_nil], by simp only [zf1, put_at, put_no, ev_t, ev_c,
      reduceIte, Nat.reduceEqDiff, List.map_cons, List.map_nil], hS⟩ (by simp only [put_at, put_no, ev_t, ev_c, reduceIte, Nat.reduceEqDiff, List.map_cons,
      List.map_nil]) (by simp only [put_at, put_no, ev_t, ev_c, reduceIte, Nat.reduceEqDiff, List.map_cons,
      List.map_nil]) (fun _ _ _ h => h) rfl rfl (fun _ _ _ _ h => h) (fun _ _ _ _ h => h) (fun _ _ _ _ h => h) (by decide) ?_ ?_
  · rintro i1 x2 _ fr15 h16 hx20 ⟨f18, f19, hS17⟩ f21 f22 oc4 hF7 hr8 Q9 hN10 hB14 hK11 hR12 hE13
    unfold slices_IndexFunc_int_b1 at hF7
    simp only [x101_3, run_seq, run_reg, f21, run_mv, run_ops_nil, x101_2, f19, f18, run_ia, put_at, put_no, ev_t, ev_c, reduceIte, Nat.reduceEqDiff, List.map_cons, List.map_nil]
    refine put1_eq (v := .ref (cI x2) 0) (xia_lstN hx20 rfl) ?_
    simp only [run_ld, put_at, put_no, ev_t, ev_c, reduceIte, Nat.reduceEqDiff, List.map_cons, List.map_nil]
    refine put1_eq (v := .int .i64 x2) rfl ?_
    obtain ⟨v23, hx24, hF25⟩ := bind_some' hF7
    simp only [run_call, put_at, put_no, ev_t, ev_c, reduceIte, Nat.reduceEqDiff, List.map_cons, List.map_nil]
    refine call1 hm1 (mapM1 snap_int mapM0) (hf1 _ _ (fun b hb => decide_eq_true hb) x2 v23 hx24) ?_
    simp only [run_ops_nil, x101_1, run_cond, put_at, put_no, ev_t, ev_c, reduceIte, Nat.reduceEqDiff, List.map_cons, List.map_nil]
    refine cond_split (t := v23) (fun hc26 => ?_) (fun hc26 => ?_)
    · rw [iteT hc26] at hF25
      simp only [run_seq, run_reg, run_mv, run_ops_nil, run_ret, put_at, put_no, ev_t, ev_c, reduceIte, Nat.reduceEqDiff, List.map_cons, List.map_nil]
      have e27 := some_inj hF25
      subst e27
      have ho28 := hr8 _ rfl
      have hk29 := hk6
      rw [ho28] at hk29
      dsimp only [jnO] at hk29
      apply hR12
      have he := some_inj hk29
      subst he
      simp only [end_ret1, put_at, put_no, ev_t, ev_c, reduceIte, Nat.reduceEqDiff, List.map_cons, List.map_nil]
      exact rfl
    · rw [iteF hc26] at hF25
      simp only [run_skip, run_nil, put_at, put_no, ev_t, ev_c, reduceIte, Nat.reduceEqDiff, List.map_cons, List.map_nil]
      have e30 := some_inj hF25
      exact hN10 _ _ _ e30.symm ⟨by simp only [f18, put_at, put_no, ev_t, ev_c, reduceIte, Nat.reduceEqDiff, List.map_cons, List.map_nil], by simp only [f19, put_at, put_no, ev_t,
          ev_c, reduceIte, Nat.reduceEqDiff, List.map_cons, List.map_nil], hS17⟩ (by simp only [f21, put_at, put_no, ev_t, ev_c, reduceIte, Nat.reduceEqDiff, List.map_cons,
          List.map_nil]) (by simp only [f22, put_at, put_no, ev_t, ev_c, reduceIte, Nat.reduceEqDiff, List.map_cons, List.map_nil])
  · rintro _ fr32 h33 rfl ⟨f35, f36, hS34⟩
    dsimp only [jnO] at hk6
    unfold slices_IndexFunc_int_j1 at hk6
    simp only [run_seq, run_reg, run_mv, run_ops_nil, run_ret, put_at, put_no, ev_t, ev_c, reduceIte, Nat.reduceEqDiff, List.map_cons, List.map_nil]
    have he := some_inj hk6
    subst he
    simp only [end_ret1, put_at, put_no, ev_t, ev_c, reduceIte, Nat.reduceEqDiff, List.map_cons, List.map_nil]
    exact rfl
theorem slices_ContainsFunc_int_x {W : Nat → Bool} {h : Heap} (hW : ∀ b,
    h.length ≤ b → W b = true) (s_0 : List Int) {g1 : Nat} {caps1 : List XV} (hm1 : E.mode g1 = 1) (f_1 : Int → Option Bool) (hf1 : ∀ (W : Nat → Bool) (h : Heap), (∀ b,
    h.length ≤ b → W b = true) → ∀ a0 r, f_1 a0 = some r → Ret E W g1 ([.int .i64 a0] ++ caps1) h (fun v h' => cut h.length h' E.sz false 9 v = some (.bool r))) (r : Bool)
    (hF : slices_ContainsFunc_int s_0 f_1 = some r) : Ret E W 94 [lst cI s_0, .fn g1 caps1] h (fun v h' => cut h.length h' E.sz false 9 v = some (.bool r)) := by
  refine Ret.of (fn := x94) rfl (Run.of ?_)
  unfold slices_ContainsFunc_int at hF
  have zf0 : argFr [lst cI s_0, .fn g1 caps1] 0 = lst cI s_0 := rfl
  have zf1 : argFr [lst cI s_0, .fn g1 caps1] 1 = .fn g1 caps1 := rfl
  generalize argFr [lst cI s_0, .fn g1 caps1] = fr0 at zf0 zf1 ⊢
  have hS : Sep h h.length [] := Sep.nil h
  obtain ⟨v1, hx2, hF3⟩ := bind_some' hF
  simp only [x94, run_seq, run_reg, run_mv, run_ops_nil, x94_1, zf0, zf1, run_call, put_at, put_no, ev_t, ev_c, reduceIte, Nat.reduceEqDiff, List.map_cons, List.map_nil]
  refine call1 rfl (mapM1 snap_lst (mapM1 snap_fn mapM0)) (slices_IndexFunc_int_x (fun b hb => decide_eq_true hb) s_0 (g1 := g1) (caps1 := caps1) hm1 f_1 hf1 v1 hx2) ?_
  simp only [run_bin, put1_some, xgeq, run_mv, run_ops_nil, run_ret, put_at, put_no, ev_t, ev_c, reduceIte, Nat.reduceEqDiff, List.map_cons, List.map_nil]
  have he := some_inj hF3
  subst he
  simp only [end_ret1, put_at, put_no, ev_t, ev_c, reduceIte, Nat.reduceEqDiff, List.map_cons, List.map_nil]
  exact rfl
theorem impl_isClusterNode_1_x {W : Nat → Bool} {h : Heap} (hW : ∀ b,
    h.length ≤ b → W b = true) (k_0 : Int) (cap_0 : Node) (cap_1 : Int) (r : Bool) (hF : some (impl_isClusterNode_1 k_0 cap_0 cap_1) = some r) : Ret E W 95 [.int .i64 k_0,
    .ref (Node.cells cap_0) 0, .ref (cI cap_1) 0] h (fun v h' => cut h.length h' E.sz false 9 v = some (.bool r)) := by
  refine Ret.of (fn := x95) rfl (Run.of ?_)
  unfold impl_isClusterNode_1 at hF
  have zf0 : argFr [.int .i64 k_0, .ref (Node.cells cap_0) 0, .ref (cI cap_1) 0] 0 = .int .i64 k_0 := rfl
  have zf1 : argFr [.int .i64 k_0, .ref (Node.cells cap_0) 0, .ref (cI cap_1) 0] 1 = .ref (Node.cells cap_0) 0 := rfl
  have zf2 : argFr [.int .i64 k_0, .ref (Node.cells cap_0) 0, .ref (cI cap_1) 0] 2 = .ref (cI cap_1) 0 := rfl
  generalize argFr [.int .i64 k_0, .ref (Node.cells cap_0) 0, .ref (cI cap_1) 0] = fr0 at zf0 zf1 zf2 ⊢
  have hS : Sep h h.length [] := Sep.nil h
  simp only [x95, run_seq, run_reg, run_mv, run_ops_nil, x95_1, zf0, zf1, run_fa, put1_some, Nat.reduceAdd, Nat.zero_add, Nat.add_zero, xfa_ref, run_ld, put_at, put_no, ev_t,
      ev_c, reduceIte, Nat.reduceEqDiff, List.map_cons, List.map_nil]
  refine put1_eq (v := lst Row.cells cap_0.Log) rfl ?_
  simp only [run_len, put1_some, xlen_lst, run_call, put_at, put_no, ev_t, ev_c, reduceIte, Nat.reduceEqDiff, List.map_cons, List.map_nil]
  refine call1 rfl (mapM1 snap_int (mapM1 snap_int (mapM1 snap_int mapM0))) (impl_in_x (fun b hb => decide_eq_true hb) k_0 0 (List.length cap_0.Log : Int) _ rfl) ?_
  simp only [run_un, put1_some, xnot, run_mv, put_at, put_no, ev_t, ev_c, reduceIte, Nat.reduceEqDiff, List.map_cons, List.map_nil]
  refine ops_j 10 (fun fr' h' => Sep h' h.length ([]) ∧ fr' 21 = .bool ((!(impl_in k_0 0 (List.length cap_0.Log : Int))) || ((decide (cap_0.View.Leader ≠ cap_1)) && (decide
      (k_0 ≠ 0))))) (fun Q1 hN2 => ?_) ?_
  · simp only [List.take_succ_cons, List.take_zero]
    simp only [run_guard (g := 11), put_at, put_no, ev_t, ev_c, reduceIte, Nat.reduceEqDiff, List.map_cons, List.map_nil]
    refine guard_split (t := (!(impl_in k_0 0 (List.length cap_0.Log : Int)))) (fun hg3 => ?_) (fun hg3 => ?_)
    · simp only [hg3, run_guard (g := 11), guard_off', run_guard (g := 17), guard_tup, run_pick, put1_some, xpick_t, run_ops_nil, run_nil, put_at, put_no, ev_t, ev_c, reduceIte,
        Nat.reduceEqDiff, List.map_cons, List.map_nil]
      exact hN2 _ _ ⟨hS, by rw [orT hg3]; simp only [put_at, put_no, ev_t, ev_c, reduceIte, Nat.reduceEqDiff, List.map_cons, List.map_nil]⟩
    · simp only [hg3, run_guard (g := 11), guard_false, zf1, run_fa, put1_some, Nat.reduceAdd, Nat.zero_add, Nat.add_zero, xfa_ref, run_ld, put_at, put_no, ev_t, ev_c, reduceIte,
        Nat.reduceEqDiff, List.map_cons, List.map_nil]
      refine put1_eq (v := .int .i64 cap_0.View.Leader) rfl ?_
      simp only [hg3, run_guard (g := 11), guard_false, zf2, run_ld, put_at, put_no, ev_t, ev_c, reduceIte, Nat.reduceEqDiff, List.map_cons, List.map_nil]
      refine put1_eq (v := .int .i64 cap_1) rfl ?_
      simp only [hg3, run_guard (g := 11), guard_false, run_bin, put1_some, xneq, run_mv, put_at, put_no, ev_t, ev_c, reduceIte, Nat.reduceEqDiff, List.map_cons, List.map_nil]
      refine ops_j 3 (fun fr' h' => Sep h' h.length ([]) ∧ fr' 20 = .bool ((decide (cap_0.View.Leader ≠ cap_1)) && (decide (k_0 ≠ 0))) ∧ fr' 11 = .bool (!(impl_in k_0 0
          (List.length cap_0.Log : Int)))) (fun Q4 hN5 => ?_) ?_
      · simp only [List.take_succ_cons, List.take_zero]
        simp only [run_guard (g := 17), put_at, put_no, ev_t, ev_c, reduceIte, Nat.reduceEqDiff, List.map_cons, List.map_nil]
        refine guard_split (t := (decide (cap_0.View.Leader ≠ cap_1))) (fun hg6 => ?_) (fun hg6 => ?_)
        · simp only [hg6, run_guard (g := 17), guard_true, zf0, run_mv, run_bin, put1_some, xneq, hg3, run_guard (g := 11), guard_false, run_pick, xpick_t, run_ops_nil, run_nil,
            put_at, put_no, ev_t, ev_c, reduceIte, Nat.reduceEqDiff, List.map_cons, List.map_nil]
          exact hN5 _ _ ⟨hS, by rw [andT hg6]; simp only [put_at, put_no, ev_t, ev_c, reduceIte, Nat.reduceEqDiff, List.map_cons, List.map_nil], by simp only [hg3, put_at, put_no,
              ev_t, ev_c, reduceIte, Nat.reduceEqDiff, List.map_cons, List.map_nil]⟩
        · simp only [hg6, run_guard (g := 17), guard_off, hg3, run_guard (g := 11), guard_false, run_pick, put1_some, xpick_f, run_ops_nil, run_nil, put_at, put_no, ev_t, ev_c,
            reduceIte, Nat.reduceEqDiff, List.map_cons, List.map_nil]
          exact hN5 _ _ ⟨hS, by rw [andF hg6]; simp only [put_at, put_no, ev_t, ev_c, reduceIte, Nat.reduceEqDiff, List.map_cons, List.map_nil], by simp only [hg3, put_at, put_no,
              ev_t, ev_c, reduceIte, Nat.reduceEqDiff, List.map_cons, List.map_nil]⟩
      · rintro fr7 h10 ⟨hS11, f8, f9⟩
        simp only [List.drop_succ_cons, List.drop_zero]
        simp only [f9, hg3, run_pick, put1_some, xpick_f, f8, run_ops_nil, run_nil, put_at, put_no, ev_t, ev_c, reduceIte, Nat.reduceEqDiff, List.map_cons, List.map_nil]
        exact hN2 _ _ ⟨hS11, by rw [orF hg3]; simp only [put_at, put_no, ev_t, ev_c, reduceIte, Nat.reduceEqDiff, List.map_cons, List.map_nil]⟩
  · rintro fr12 h14 ⟨hS15, f13⟩
    simp only [List.drop_succ_cons, List.drop_zero]
    simp only [f13, run_mv, run_ops_nil, run_ret, put_at, put_no, ev_t, ev_c, reduceIte, Nat.reduceEqDiff, List.map_cons, List.map_nil]
    have he := some_inj hF
    subst he
    simp only [end_ret1, put_at, put_no, ev_t, ev_c, reduceIte, Nat.reduceEqDiff, List.map_cons, List.map_nil]
    exact rfl
theorem impl_isClusterNode_x {W : Nat → Bool} {h : Heap} (hW : ∀ b,
    h.length ≤ b → W b = true) (n_0 : Node) (own_1 : Int) (nodes_2 : Int) (r : Bool)
    (hF : impl_isClusterNode n_0 own_1 nodes_2 = some r) : Ret E W 79 [.agg [.int .i64 n_0.View.Epoch, .int .i64 n_0.View.Leader, lst cI n_0.View.InStep, lst Row.cells n_0.Log,
    lst cI n_0.Known, .int .i64 n_0.Told], .int .i64 own_1, .int .i64 nodes_2] h (fun v h' => cut h.length h' E.sz false 9 v = some (.bool r)) := by
  refine Ret.of (fn := x79) rfl (Run.of ?_)
  unfold impl_isClusterNode at hF
  have zf0 : argFr [.agg [.int .i64 n_0.View.Epoch, .int .i64 n_0.View.Leader, lst cI n_0.View.InStep, lst Row.cells n_0.Log, lst cI n_0.Known, .int .i64 n_0.Told],
      .int .i64 own_1, .int .i64 nodes_2] 0 = .agg [.int .i64 n_0.View.Epoch, .int .i64 n_0.View.Leader, lst cI n_0.View.InStep, lst Row.cells n_0.Log, lst cI n_0.Known,
      .int .i64 n_0.Told] := rfl
  have zf1 : argFr [.agg [.int .i64 n_0.View.Epoch, .int .i64 n_0.View.Leader, lst cI n_0.View.InStep, lst Row.cells n_0.Log, lst cI n_0.Known, .int .i64 n_0.Told],
      .int .i64 own_1, .int .i64 nodes_2] 1 = .int .i64 own_1 := rfl
  have zf2 : argFr [.agg [.int .i64 n_0.View.Epoch, .int .i64 n_0.View.Leader, lst cI n_0.View.InStep, lst Row.cells n_0.Log, lst cI n_0.Known, .int .i64 n_0.Told],
      .int .i64 own_1, .int .i64 nodes_2] 2 = .int .i64 nodes_2 := rfl
  generalize argFr [.agg [.int .i64 n_0.View.Epoch, .int .i64 n_0.View.Leader, lst cI n_0.View.InStep, lst Row.cells n_0.Log, lst cI n_0.Known, .int .i64 n_0.Told],
      .int .i64 own_1, .int .i64 nodes_2] = fr0 at zf0 zf1 zf2 ⊢
  have hS : Sep h h.length [] := Sep.nil h
  simp only [x79, run_seq, run_reg, run_box, zf0, put_at, put_no, ev_t, ev_c, reduceIte, Nat.reduceEqDiff, List.map_cons, List.map_nil]
  refine put2_boxC (cs := [.int .i64 n_0.View.Epoch, .int .i64 n_0.View.Leader, lst cI n_0.View.InStep, lst Row.cells n_0.Log, lst cI n_0.Known,
      .int .i64 n_0.Told]) hS rfl rfl rfl (fun b1 h2 hS3 => ?_)
  simp only [run_box, zf1, put_at, put_no, ev_t, ev_c, reduceIte, Nat.reduceEqDiff, List.map_cons, List.map_nil]
  refine put2_boxC (cs := [.int .i64 own_1]) hS3 rfl rfl rfl (fun b5 h6 hS7 => ?_)
  simp only [run_mv, run_ops_nil, put_at, put_no, ev_t, ev_c, reduceIte, Nat.reduceEqDiff, List.map_cons, List.map_nil]
  refine frz_stepC (Sep.m1 hS7) hW (by simp only [put_at, put_no, ev_t, ev_c, reduceIte, Nat.reduceEqDiff, List.map_cons, List.map_nil]) (fun h9 hS10 => ?_)
  refine frz_stepC hS10 hW (by simp only [put_at, put_no, ev_t, ev_c, reduceIte, Nat.reduceEqDiff, List.map_cons, List.map_nil]) (fun h11 hS12 => ?_)
  simp only [run_frz_nil, x79_2, run_seq, run_reg, run_fa, put1_some, Nat.reduceAdd, Nat.zero_add, Nat.add_zero, xfa_ref, run_ld, put_at, put_no, ev_t, ev_c, reduceIte,
      Nat.reduceEqDiff, List.map_cons, List.map_nil]
  refine put1_eq (v := .agg [.int .i64 n_0.View.Epoch, .int .i64 n_0.View.Leader, lst cI n_0.View.InStep]) rfl ?_
  obtain ⟨v13, hx14, hF15⟩ := bind_some' hF
  simp only [zf2, run_mv, run_call, put_at, put_no, ev_t, ev_c, reduceIte, Nat.reduceEqDiff, List.map_cons, List.map_nil]
  refine call1 rfl (mapM1 (snap_agg (mapM1 snap_int (mapM1 snap_int (mapM1 snap_lst mapM0)))) (mapM1 snap_int mapM0)) (impl_isView_x
      (fun b hb => decide_eq_true hb) n_0.View nodes_2 v13 hx14) ?_
  simp only [run_un, put1_some, xnot, run_mv, put_at, put_no, ev_t, ev_c, reduceIte, Nat.reduceEqDiff, List.map_cons, List.map_nil]
  obtain ⟨v19, hx20, hF21⟩ := bind_some' hF15
  refine ops_j 8 (fun fr' h' => Sep h' h.length ([]) ∧ fr' 20 = .bool v19 ∧ fr' 2 = .int .i64 nodes_2 ∧ fr' 3 = .ref [.int .i64 n_0.View.Epoch, .int .i64 n_0.View.Leader,
      lst cI n_0.View.InStep, lst Row.cells n_0.Log, lst cI n_0.Known, .int .i64 n_0.Told] 0 ∧ fr' 4 = .ref [.int .i64 own_1] 0) (fun Q16 hN17 => ?_) ?_
  · simp only [List.take_succ_cons, List.take_zero]
    simp only [run_guard (g := 12), put_at, put_no, ev_t, ev_c, reduceIte, Nat.reduceEqDiff, List.map_cons, List.map_nil]
    refine guard_split (t := (!v13)) (fun hg18 => ?_) (fun hg18 => ?_)
    · rw [iteT hg18] at hx20
      simp only [hg18, run_guard (g := 12), guard_off', run_pick, put1_some, xpick_t, run_ops_nil, run_nil, put_at, put_no, ev_t, ev_c, reduceIte, Nat.reduceEqDiff, List.map_cons,
          List.map_nil]
      have e22 := some_inj hx20
      exact hN17 _ _ ⟨hS12, by rw [← e22]; simp only [put_at, put_no, ev_t, ev_c, reduceIte, Nat.reduceEqDiff, List.map_cons, List.map_nil], by simp only [zf2, put_at, put_no,
          ev_t, ev_c, reduceIte, Nat.reduceEqDiff, List.map_cons, List.map_nil], by simp only [put_at, put_no, ev_t, ev_c, reduceIte, Nat.reduceEqDiff, List.map_cons,
          List.map_nil], by simp only [put_at, put_no, ev_t, ev_c, reduceIte, Nat.reduceEqDiff, List.map_cons, List.map_nil]⟩
    · rw [iteF hg18] at hx20
      simp only [hg18, run_guard (g := 12), guard_false, run_fa, put1_some, Nat.reduceAdd, Nat.zero_add, Nat.add_zero, xfa_ref, run_ld, put_at, put_no, ev_t, ev_c, reduceIte,
          Nat.reduceEqDiff, List.map_cons, List.map_nil]
      refine put1_eq (v := lst Row.cells n_0.Log) rfl ?_
      simp only [hg18, run_guard (g := 12), guard_false, run_fa, put1_some, Nat.reduceAdd, Nat.zero_add, Nat.add_zero, xfa_ref, run_ld, put_at, put_no, ev_t, ev_c, reduceIte,
          Nat.reduceEqDiff, List.map_cons, List.map_nil]
      refine put1_eq (v := .int .i64 n_0.View.Epoch) rfl ?_
      obtain ⟨v23, hx24, hF25⟩ := bind_some' hx20
      simp only [hg18, run_guard (g := 12), guard_false, run_call, put_at, put_no, ev_t, ev_c, reduceIte, Nat.reduceEqDiff, List.map_cons, List.map_nil]
      refine call1 rfl (mapM1 snap_lst (mapM1 snap_int mapM0)) (impl_isRows_x (fun b hb => decide_eq_true hb) n_0.Log n_0.View.Epoch v23 hx24) ?_
      simp only [hg18, run_guard (g := 12), guard_false, run_un, put1_some, xnot, run_pick, xpick_f, run_ops_nil, run_nil, put_at, put_no, ev_t, ev_c, reduceIte, Nat.reduceEqDiff,
          List.map_cons, List.map_nil]
      have e26 := some_inj hF25
      exact hN17 _ _ ⟨hS12, by rw [← e26]; simp only [put_at, put_no, ev_t, ev_c, reduceIte, Nat.reduceEqDiff, List.map_cons, List.map_nil], by simp only [zf2, put_at, put_no,
          ev_t, ev_c, reduceIte, Nat.reduceEqDiff, List.map_cons, List.map_nil], by simp only [put_at, put_no, ev_t, ev_c, reduceIte, Nat.reduceEqDiff, List.map_cons,
          List.map_nil], by simp only [put_at, put_no, ev_t, ev_c, reduceIte, Nat.reduceEqDiff, List.map_cons, List.map_nil]⟩
  · rintro fr27 h32 ⟨hS33, f28, f29, f30, f31⟩
    simp only [List.drop_succ_cons, List.drop_zero]
    simp only [f28, run_mv, put_at, put_no, ev_t, ev_c, reduceIte, Nat.reduceEqDiff, List.map_cons, List.map_nil]
    refine ops_j 6 (fun fr' h' => Sep h' h.length ([]) ∧ fr' 27 = .bool (v19 || (decide ((List.length n_0.Known : Int) ≠ nodes_2))) ∧ fr' 3 = .ref [.int .i64 n_0.View.Epoch,
        .int .i64 n_0.View.Leader, lst cI n_0.View.InStep, lst Row.cells n_0.Log, lst cI n_0.Known,
        .int .i64 n_0.Told] 0 ∧ fr' 4 = .ref [.int .i64 own_1] 0) (fun Q34 hN35 => ?_) ?_
    · simp only [List.take_succ_cons, List.take_zero]
      simp only [run_guard (g := 21), put_at, put_no, ev_t, ev_c, reduceIte, Nat.reduceEqDiff, List.map_cons, List.map_nil]
      refine guard_split (t := v19) (fun hg36 => ?_) (fun hg36 => ?_)
      · simp only [hg36, run_guard (g := 21), guard_off', run_pick, put1_some, xpick_t, run_ops_nil, run_nil, put_at, put_no, ev_t, ev_c, reduceIte, Nat.reduceEqDiff,
          List.map_cons, List.map_nil]
        exact hN35 _ _ ⟨hS33, by rw [orT hg36]; simp only [put_at, put_no, ev_t, ev_c, reduceIte, Nat.reduceEqDiff, List.map_cons, List.map_nil], by simp only [f30, put_at,
            put_no, ev_t, ev_c, reduceIte, Nat.reduceEqDiff, List.map_cons, List.map_nil], by simp only [f31, put_at, put_no, ev_t, ev_c, reduceIte, Nat.reduceEqDiff,
            List.map_cons, List.map_nil]⟩
      · simp only [hg36, run_guard (g := 21), guard_false, f30, run_fa, put1_some, Nat.reduceAdd, Nat.zero_add, Nat.add_zero, xfa_ref, run_ld, put_at, put_no, ev_t, ev_c,
          reduceIte, Nat.reduceEqDiff, List.map_cons, List.map_nil]
        refine put1_eq (v := lst cI n_0.Known) rfl ?_
        simp only [hg36, run_guard (g := 21), guard_false, run_len, put1_some, xlen_lst, f29, run_mv, run_bin, xneq, run_pick, xpick_f, run_ops_nil, run_nil, put_at, put_no, ev_t,
            ev_c, reduceIte, Nat.reduceEqDiff, List.map_cons, List.map_nil]
        exact hN35 _ _ ⟨hS33, by rw [orF hg36]; simp only [put_at, put_no, ev_t, ev_c, reduceIte, Nat.reduceEqDiff, List.map_cons, List.map_nil], by simp only [f30, put_at,
            put_no, ev_t, ev_c, reduceIte, Nat.reduceEqDiff, List.map_cons, List.map_nil], by simp only [f31, put_at, put_no, ev_t, ev_c, reduceIte, Nat.reduceEqDiff,
            List.map_cons, List.map_nil]⟩
    · rintro fr37 h41 ⟨hS42, f38, f39, f40⟩
      simp only [List.drop_succ_cons, List.drop_zero]
      simp only [f38, run_mv, put_at, put_no, ev_t, ev_c, reduceIte, Nat.reduceEqDiff, List.map_cons, List.map_nil]
      refine ops_j 8 (fun fr' h' => Sep h' h.length ([]) ∧ fr' 36 = .bool ((v19 || (decide ((List.length n_0.Known : Int) ≠ nodes_2))) || (!(impl_in n_0.Told 0
          (List.length n_0.Log : Int)))) ∧ fr' 3 = .ref [.int .i64 n_0.View.Epoch, .int .i64 n_0.View.Leader, lst cI n_0.View.InStep, lst Row.cells n_0.Log, lst cI n_0.Known,
          .int .i64 n_0.Told] 0 ∧ fr' 4 = .ref [.int .i64 own_1] 0) (fun Q43 hN44 => ?_) ?_
      · simp only [List.take_succ_cons, List.take_zero]
        simp only [run_guard (g := 28), put_at, put_no, ev_t, ev_c, reduceIte, Nat.reduceEqDiff, List.map_cons, List.map_nil]
        refine guard_split (t := (v19 || (decide ((List.length n_0.Known : Int) ≠ nodes_2)))) (fun hg45 => ?_) (fun hg45 => ?_)
        · simp only [hg45, run_guard (g := 28), guard_off', run_pick, put1_some, xpick_t, run_ops_nil, run_nil, put_at, put_no, ev_t, ev_c, reduceIte, Nat.reduceEqDiff,
            List.map_cons, List.map_nil]
          exact hN44 _ _ ⟨hS42, by rw [orT hg45]; simp only [put_at, put_no, ev_t, ev_c, reduceIte, Nat.reduceEqDiff, List.map_cons, List.map_nil], by simp only [f39, put_at,
              put_no, ev_t, ev_c, reduceIte, Nat.reduceEqDiff, List.map_cons, List.map_nil], by simp only [f40, put_at, put_no, ev_t, ev_c, reduceIte, Nat.reduceEqDiff,
              List.map_cons, List.map_nil]⟩
        · simp only [hg45, run_guard (g := 28), guard_false, f39, run_fa, put1_some, Nat.reduceAdd, Nat.zero_add, Nat.add_zero, xfa_ref, run_ld, put_at, put_no, ev_t, ev_c,
            reduceIte, Nat.reduceEqDiff, List.map_cons, List.map_nil]
          refine put1_eq (v := .int .i64 n_0.Told) rfl ?_
          simp only [hg45, run_guard (g := 28), guard_false, f39, run_fa, put1_some, Nat.reduceAdd, Nat.zero_add, Nat.add_zero, xfa_ref, run_ld, put_at, put_no, ev_t, ev_c,
              reduceIte, Nat.reduceEqDiff, List.map_cons, List.map_nil]
          refine put1_eq (v := lst Row.cells n_0.Log) rfl ?_
          simp only [hg45, run_guard (g := 28), guard_false, run_len, put1_some, xlen_lst, run_call, put_at, put_no, ev_t, ev_c, reduceIte, Nat.reduceEqDiff, List.map_cons,
              List.map_nil]
          refine call1 rfl (mapM1 snap_int (mapM1 snap_int (mapM1 snap_int mapM0))) (impl_in_x (fun b hb => decide_eq_true hb) n_0.Told 0 (List.length n_0.Log : Int) _ rfl) ?_
          simp only [hg45, run_guard (g := 28), guard_false, run_un, put1_some, xnot, run_pick, xpick_f, run_ops_nil, run_nil, put_at, put_no, ev_t, ev_c, reduceIte,
              Nat.reduceEqDiff, List.map_cons, List.map_nil]
          exact hN44 _ _ ⟨hS42, by rw [orF hg45]; simp only [put_at, put_no, ev_t, ev_c, reduceIte, Nat.reduceEqDiff, List.map_cons, List.map_nil], by simp only [f39, put_at,
              put_no, ev_t, ev_c, reduceIte, Nat.reduceEqDiff, List.map_cons, List.map_nil], by simp only [f40, put_at, put_no, ev_t, ev_c, reduceIte, Nat.reduceEqDiff,
              List.map_cons, List.map_nil]⟩
      · rintro fr46 h50 ⟨hS51, f47, f48, f49⟩
        simp only [List.drop_succ_cons, List.drop_zero]
        simp only [run_ops_nil, f47, run_cond, put_at, put_no, ev_t, ev_c, reduceIte, Nat.reduceEqDiff, List.map_cons, List.map_nil]
        refine cond_split (t := ((v19 || (decide ((List.length n_0.Known : Int) ≠ nodes_2))) || (!(impl_in n_0.Told 0 (List.length n_0.Log : Int))))) (fun hc52 => ?_)
            (fun hc52 => ?_)
        · rw [iteT hc52] at hF21
          simp only [run_seq, run_reg, run_mv, run_ops_nil, run_ret, put_at, put_no, ev_t, ev_c, reduceIte, Nat.reduceEqDiff, List.map_cons, List.map_nil]
          have he := some_inj hF21
          subst he
          simp only [end_ret1, put_at, put_no, ev_t, ev_c, reduceIte, Nat.reduceEqDiff, List.map_cons, List.map_nil]
          exact rfl
        · rw [iteF hc52] at hF21
          simp only [run_skip, x79_1, run_seq, run_reg, f48, run_fa, put1_some, Nat.reduceAdd, Nat.zero_add, Nat.add_zero, xfa_ref, run_ld, put_at, put_no, ev_t, ev_c, reduceIte,
              Nat.reduceEqDiff, List.map_cons, List.map_nil]
          refine put1_eq (v := lst cI n_0.Known) rfl ?_
          obtain ⟨v53, hx54, hF55⟩ := bind_some' hF21
          simp only [run_mkF, f48, f49, run_call, put_at, put_no, ev_t, ev_c, reduceIte, Nat.reduceEqDiff, List.map_cons, List.map_nil]
          refine call1 rfl (mapM1 snap_lst (mapM1 snap_fn mapM0)) (slices_ContainsFunc_int_x (fun b hb => decide_eq_true hb) n_0.Known (g1 := 95)
              (caps1 := [.ref [.int .i64 n_0.View.Epoch, .int .i64 n_0.View.Leader, lst cI n_0.View.InStep, lst Row.cells n_0.Log, lst cI n_0.Known, .int .i64 n_0.Told] 0,
              .ref [.int .i64 own_1] 0]) rfl (fun a0 => some (impl_isClusterNode_1 a0 n_0 own_1)) (fun W h hW a0 r hr => impl_isClusterNode_1_x hW a0 n_0 own_1 r hr) v53 hx54) ?_
          simp only [run_un, put1_some, xnot, run_mv, run_ops_nil, run_ret, put_at, put_no, ev_t, ev_c, reduceIte, Nat.reduceEqDiff, List.map_cons, List.map_nil]
          have he := some_inj hF55
          subst he
          simp only [end_ret1, put_at, put_no, ev_t, ev_c, reduceIte, Nat.reduceEqDiff, List.map_cons, List.map_nil]
          exact rfl
theorem slices_Equal_Row_x {W : Nat → Bool} {h : Heap} (hW : ∀ b,
    h.length ≤ b → W b = true) (s1_0 : List Row) (s2_1 : List Row) (r : Bool) (hF : slices_Equal_Row s1_0 s2_1 = some r) : Ret E W 81 [lst Row.cells s1_0,
    lst Row.cells s2_1] h (fun v h' => cut h.length h' E.sz false 9 v = some (.bool r)) := by
  refine Ret.of (fn := x81) rfl (Run.of ?_)
  unfold slices_Equal_Row at hF
  have zf0 : argFr [lst Row.cells s1_0, lst Row.cells s2_1] 0 = lst Row.cells s1_0 := rfl
  have zf1 : argFr [lst Row.cells s1_0, lst Row.cells s2_1] 1 = lst Row.cells s2_1 := rfl
  generalize argFr [lst Row.cells s1_0, lst Row.cells s2_1] = fr0 at zf0 zf1 ⊢
  have hS : Sep h h.length [] := Sep.nil h
  simp only [x81, run_seq, run_reg, run_mv, run_ops_nil, x81_6, zf0, run_len, put1_some, xlen_lst, zf1, run_bin, xneq, run_cond, put_at, put_no, ev_t, ev_c, reduceIte,
      Nat.reduceEqDiff, List.map_cons, List.map_nil]
  refine cond_split (t := (decide ((List.length s1_0 : Int) ≠ (List.length s2_1 : Int)))) (fun hc1 => ?_) (fun hc1 => ?_)
  · rw [iteT hc1] at hF
    simp only [run_seq, run_reg, run_mv, run_ops_nil, run_ret, put_at, put_no, ev_t, ev_c, reduceIte, Nat.reduceEqDiff, List.map_cons, List.map_nil]
    have he := some_inj hF
    subst he
    simp only [end_ret1, put_at, put_no, ev_t, ev_c, reduceIte, Nat.reduceEqDiff, List.map_cons, List.map_nil]
    exact rfl
  · rw [iteF hc1] at hF
    simp only [run_skip, x81_5, run_seq, run_reg, zf0, run_mv, run_len, put1_some, xlen_lst, run_ops_nil, put_at, put_no, ev_t, ev_c, reduceIte, Nat.reduceEqDiff, List.map_cons,
        List.map_nil]
    obtain ⟨oc4, hX6, hk7⟩ := jn_some hF
    simp only [x81_4]
    refine rangeL_j (σ := Unit) s1_0 (fun i2 x3 _ => slices_Equal_Row_b1 s2_1 i2 x3 ) (fun s fr' h' => fr' 0 = lst Row.cells s1_0 ∧ fr' 1 = lst Row.cells s2_1 ∧ Sep h' h.length
        ([])) hX6 ⟨by simp only [zf0, put_at, put_no, ev_t, ev_c, reduceIte, Nat.reduceEqDiff, List.map_cons, List.map_nil], by simp only [zf1, put_at, put_no, ev_t, ev_c,
        reduceIte, Nat.reduceEqDiff, List.map_cons, List.map_nil], hS⟩ (by simp only [put_at, put_no, ev_t, ev_c, reduceIte, Nat.reduceEqDiff, List.map_cons,
        List.map_nil]) (by simp only [put_at, put_no, ev_t, ev_c, reduceIte, Nat.reduceEqDiff, List.map_cons,
        List.map_nil]) (fun _ _ _ h => h) rfl rfl (fun _ _ _ _ h => h) (fun _ _ _ _ h => h) (fun _ _ _ _ h => h) (by decide) ?_ ?_
    · rintro i2 x3 _ fr16 h17 hx21 ⟨f19, f20, hS18⟩ f22 f23 oc5 hF8 hr9 Q10 hN11 hB15 hK12 hR13 hE14
      unfold slices_Equal_Row_b1 at hF8
      simp only [x81_2, run_seq, run_reg, f22, run_mv, run_ops_nil, x81_1, run_draw, f19, d4_mv, put1d_some, d4_ia, put_at, put_no, ev_t, ev_c, reduceIte, Nat.reduceEqDiff,
          List.map_cons, List.map_nil]
      refine put1d_eq (v := .ref (Row.cells x3) 0) (xia_lstN hx21 rfl) ?_
      simp only [d4_ld, put_at, put_no, ev_t, ev_c, reduceIte, Nat.reduceEqDiff, List.map_cons, List.map_nil]
      refine put1d_eq (v := .agg [.int .i64 x3.Epoch, .int .i64 x3.Value]) rfl ?_
      obtain ⟨x24, hx25, hF26⟩ := bind_some' hF8
      simp only [f20, d4_mv, put1d_some, d4_ia, put_at, put_no, ev_t, ev_c, reduceIte, Nat.reduceEqDiff, List.map_cons, List.map_nil]
      refine put1d_eq (v := .ref (Row.cells x24) 0) (xia_lst hx25 rfl) ?_
      simp only [d4_ld, put_at, put_no, ev_t, ev_c, reduceIte, Nat.reduceEqDiff, List.map_cons, List.map_nil]
      refine put1d_eq (v := .agg [.int .i64 x24.Epoch, .int .i64 x24.Value]) rfl ?_
      simp only [d4_eqs, put_at, put_no, ev_t, ev_c, reduceIte, Nat.reduceEqDiff, List.map_cons, List.map_nil]
      refine put1d_eq (v := .bool (!((x3.Epoch == x24.Epoch) && ((x3.Value == x24.Value) && true)))) rfl ?_
      simp only [run_draw_nil, run_cond, put_at, put_no, ev_t, ev_c, reduceIte, Nat.reduceEqDiff, List.map_cons, List.map_nil]
      refine cond_split (t := (!((x3.Epoch == x24.Epoch) && ((x3.Value == x24.Value) && true)))) (fun hc27 => ?_) (fun hc27 => ?_)
      · rw [iteT hc27] at hF26
        simp only [run_seq, run_reg, run_mv, run_ops_nil, run_ret, put_at, put_no, ev_t, ev_c, reduceIte, Nat.reduceEqDiff, List.map_cons, List.map_nil]
        have e28 := some_inj hF26
        subst e28
        have ho29 := hr9 _ rfl
        have hk30 := hk7
        rw [ho29] at hk30
        dsimp only [jnO] at hk30
        apply hR13
        have he := some_inj hk30
        subst he
        simp only [end_ret1, put_at, put_no, ev_t, ev_c, reduceIte, Nat.reduceEqDiff, List.map_cons, List.map_nil]
        exact rfl
      · rw [iteF hc27] at hF26
        simp only [run_skip, run_nil, put_at, put_no, ev_t, ev_c, reduceIte, Nat.reduceEqDiff, List.map_cons, List.map_nil]
        have e31 := some_inj hF26
        exact hN11 _ _ _ e31.symm ⟨by simp only [f19, put_at, put_no, ev_t, ev_c, reduceIte, Nat.reduceEqDiff, List.map_cons, List.map_nil], by simp only [f20, put_at, put_no,
            ev_t, ev_c, reduceIte, Nat.reduceEqDiff, List.map_cons, List.map_nil], hS18⟩ (by simp only [f22, put_at, put_no, ev_t, ev_c, reduceIte, Nat.reduceEqDiff,
            List.map_cons, List.map_nil]) (by simp only [f23, put_at, put_no, ev_t, ev_c, reduceIte, Nat.reduceEqDiff, List.map_cons, List.map_nil])
    · rintro _ fr33 h34 rfl ⟨f36, f37, hS35⟩
      dsimp only [jnO] at hk7
      unfold slices_Equal_Row_j1 at hk7
      simp only [run_seq, run_reg, run_mv, run_ops_nil, run_ret, put_at, put_no, ev_t, ev_c, reduceIte, Nat.reduceEqDiff, List.map_cons, List.map_nil]
      have he := some_inj hk7
      subst he
      simp only [end_ret1, put_at, put_no, ev_t, ev_c, reduceIte, Nat.reduceEqDiff, List.map_cons, List.map_nil]
      exact rfl
end Go.Proofs.Ytohofoampalhoaa.X
