/- The functions' code comes to what the plain functions say (2). -/
import Derived.Test.YtohofoampalhoaaXAH1
set_option linter.unusedVariables false
set_option linter.unusedSimpArgs false
set_option maxRecDepth 100000
namespace Go.Proofs.Ytohofoampalhoaa.X
open Go
theorem laws_eqRow_x {W : Nat → Bool} {h : Heap} (hW : ∀ b,
    h.length ≤ b → W b = true) (a_0 : Row) (b_1 : Row) (r : Bool) (hF : laws_eqRow a_0 b_1 = some r) : Ret E W 69 [.agg [.int .i64 a_0.Epoch, .int .i64 a_0.Value],
    .agg [.int .i64 b_1.Epoch, .int .i64 b_1.Value]] h (fun v h' => cut h.length h' E.sz false 9 v = some (.bool r)) := by
  refine Ret.of (fn := x69) rfl (Run.of ?_)
  unfold laws_eqRow at hF
  have zf0 : argFr [.agg [.int .i64 a_0.Epoch, .int .i64 a_0.Value], .agg [.int .i64 b_1.Epoch, .int .i64 b_1.Value]] 0 = .agg [.int .i64 a_0.Epoch, .int .i64 a_0.Value] := rfl
  have zf1 : argFr [.agg [.int .i64 a_0.Epoch, .int .i64 a_0.Value], .agg [.int .i64 b_1.Epoch, .int .i64 b_1.Value]] 1 = .agg [.int .i64 b_1.Epoch, .int .i64 b_1.Value] := rfl
  generalize argFr [.agg [.int .i64 a_0.Epoch, .int .i64 a_0.Value], .agg [.int .i64 b_1.Epoch, .int .i64 b_1.Value]] = fr0 at zf0 zf1 ⊢
  have hS : Sep h h.length [] := Sep.nil h
  simp only [x69, run_seq, run_reg, run_box, zf0, put_at, put_no, ev_t, ev_c, reduceIte, Nat.reduceEqDiff, List.map_cons, List.map_nil]
  refine put2_boxC (cs := [.int .i64 a_0.Epoch, .int .i64 a_0.Value]) hS rfl rfl rfl (fun b1 h2 hS3 => ?_)
  simp only [run_box, zf1, put_at, put_no, ev_t, ev_c, reduceIte, Nat.reduceEqDiff, List.map_cons, List.map_nil]
  refine put2_boxC (cs := [.int .i64 b_1.Epoch, .int .i64 b_1.Value]) hS3 rfl rfl rfl (fun b5 h6 hS7 => ?_)
  simp only [run_mv, run_ops_nil, put_at, put_no, ev_t, ev_c, reduceIte, Nat.reduceEqDiff, List.map_cons, List.map_nil]
  refine frz_stepC (Sep.m1 hS7) hW (by simp only [put_at, put_no, ev_t, ev_c, reduceIte, Nat.reduceEqDiff, List.map_cons, List.map_nil]) (fun h9 hS10 => ?_)
  refine frz_stepC hS10 hW (by simp only [put_at, put_no, ev_t, ev_c, reduceIte, Nat.reduceEqDiff, List.map_cons, List.map_nil]) (fun h11 hS12 => ?_)
  simp only [run_frz_nil, x69_2, run_seq, run_reg, run_fa, put1_some, Nat.reduceAdd, Nat.zero_add, Nat.add_zero, xfa_ref, run_ld, put_at, put_no, ev_t, ev_c, reduceIte,
      Nat.reduceEqDiff, List.map_cons, List.map_nil]
  refine put1_eq (v := .int .i64 a_0.Epoch) rfl ?_
  simp only [run_fa, put1_some, Nat.reduceAdd, Nat.zero_add, Nat.add_zero, xfa_ref, run_ld, put_at, put_no, ev_t, ev_c, reduceIte, Nat.reduceEqDiff, List.map_cons, List.map_nil]
  refine put1_eq (v := .int .i64 b_1.Epoch) rfl ?_
  simp only [run_bin, put1_some, xneq, run_ops_nil, run_cond, put_at, put_no, ev_t, ev_c, reduceIte, Nat.reduceEqDiff, List.map_cons, List.map_nil]
  refine cond_split (t := (decide (a_0.Epoch ≠ b_1.Epoch))) (fun hc13 => ?_) (fun hc13 => ?_)
  · rw [iteT hc13] at hF
    simp only [run_seq, run_reg, run_mv, run_ops_nil, run_ret, put_at, put_no, ev_t, ev_c, reduceIte, Nat.reduceEqDiff, List.map_cons, List.map_nil]
    have he := some_inj hF
    subst he
    simp only [end_ret1, put_at, put_no, ev_t, ev_c, reduceIte, Nat.reduceEqDiff, List.map_cons, List.map_nil]
    exact rfl
  · rw [iteF hc13] at hF
    simp only [run_skip, x69_1, run_seq, run_reg, run_fa, put1_some, Nat.reduceAdd, Nat.zero_add, Nat.add_zero, xfa_ref, run_ld, put_at, put_no, ev_t, ev_c, reduceIte,
        Nat.reduceEqDiff, List.map_cons, List.map_nil]
    refine put1_eq (v := .int .i64 a_0.Value) rfl ?_
    simp only [run_fa, put1_some, Nat.reduceAdd, Nat.zero_add, Nat.add_zero, xfa_ref, run_ld, put_at, put_no, ev_t, ev_c, reduceIte, Nat.reduceEqDiff, List.map_cons, List.map_nil]
    refine put1_eq (v := .int .i64 b_1.Value) rfl ?_
    simp only [run_bin, put1_some, xneq, run_ops_nil, run_cond, put_at, put_no, ev_t, ev_c, reduceIte, Nat.reduceEqDiff, List.map_cons, List.map_nil]
    refine cond_split (t := (decide (a_0.Value ≠ b_1.Value))) (fun hc14 => ?_) (fun hc14 => ?_)
    · rw [iteT hc14] at hF
      simp only [run_seq, run_reg, run_mv, run_ops_nil, run_ret, put_at, put_no, ev_t, ev_c, reduceIte, Nat.reduceEqDiff, List.map_cons, List.map_nil]
      have he := some_inj hF
      subst he
      simp only [end_ret1, put_at, put_no, ev_t, ev_c, reduceIte, Nat.reduceEqDiff, List.map_cons, List.map_nil]
      exact rfl
    · rw [iteF hc14] at hF
      simp only [run_skip, run_seq, run_reg, run_mv, run_ops_nil, run_ret, put_at, put_no, ev_t, ev_c, reduceIte, Nat.reduceEqDiff, List.map_cons, List.map_nil]
      have he := some_inj hF
      subst he
      simp only [end_ret1, put_at, put_no, ev_t, ev_c, reduceIte, Nat.reduceEqDiff, List.map_cons, List.map_nil]
      exact rfl
theorem laws_eqRowS_x {W : Nat → Bool} {h : Heap} (hW : ∀ b,
    h.length ≤ b → W b = true) (k : Nat) (a_0 : List Row) (b_1 : List Row) (r : Bool) (hF : laws_eqRowS k a_0 b_1 = some r) : Ret E W 43 [lst Row.cells a_0,
    lst Row.cells b_1] h (fun v h' => cut h.length h' E.sz false 9 v = some (.bool r)) := by
  refine Ret.of (fn := x43) rfl (Run.of ?_)
  unfold laws_eqRowS at hF
  have zf0 : argFr [lst Row.cells a_0, lst Row.cells b_1] 0 = lst Row.cells a_0 := rfl
  have zf1 : argFr [lst Row.cells a_0, lst Row.cells b_1] 1 = lst Row.cells b_1 := rfl
  generalize argFr [lst Row.cells a_0, lst Row.cells b_1] = fr0 at zf0 zf1 ⊢
  have hS : Sep h h.length [] := Sep.nil h
  simp only [x43, run_seq, run_reg, run_mv, run_ops_nil, x43_7, zf0, run_len, put1_some, xlen_lst, zf1, run_bin, xneq, run_cond, put_at, put_no, ev_t, ev_c, reduceIte,
      Nat.reduceEqDiff, List.map_cons, List.map_nil]
  refine cond_split (t := (decide ((List.length a_0 : Int) ≠ (List.length b_1 : Int)))) (fun hc1 => ?_) (fun hc1 => ?_)
  · rw [iteT hc1] at hF
    simp only [run_seq, run_reg, run_mv, run_ops_nil, run_ret, put_at, put_no, ev_t, ev_c, reduceIte, Nat.reduceEqDiff, List.map_cons, List.map_nil]
    have he := some_inj hF
    subst he
    simp only [end_ret1, put_at, put_no, ev_t, ev_c, reduceIte, Nat.reduceEqDiff, List.map_cons, List.map_nil]
    exact rfl
  · rw [iteF hc1] at hF
    simp only [run_skip, x43_6, run_seq, run_reg, run_mv, run_ops_nil, put_at, put_no, ev_t, ev_c, reduceIte, Nat.reduceEqDiff, List.map_cons, List.map_nil]
    obtain ⟨oc6, hX8, hk9⟩ := jn_some hF
    simp only [x43_5]
    refine loopF_j (σ := Int) (fun s41 => laws_eqRowS_b1 a_0 b_1 s41)
        (fun s fr' h' => fr' 0 = lst Row.cells a_0 ∧ fr' 1 = lst Row.cells b_1 ∧ fr' 5 = .int .i64 s ∧ Sep h' h.length ([])) hX8 ⟨by simp only [zf0, put_at, put_no, ev_t, ev_c,
        reduceIte, Nat.reduceEqDiff, List.map_cons, List.map_nil], by simp only [zf1, put_at, put_no, ev_t, ev_c, reduceIte, Nat.reduceEqDiff, List.map_cons, List.map_nil],
        by simp only [put_at, put_no, ev_t, ev_c, reduceIte, Nat.reduceEqDiff, List.map_cons, List.map_nil], hS⟩ (fun _ _ _ h => h) ?_ ?_
    · rintro s3 fr18 h19 ⟨f21, f22, f23, hS20⟩ oc7 hF10 hr11 Q12 hN13 hK14 hR15 hE16
      unfold laws_eqRowS_b1 at hF10
      simp only [x43_3, run_seq, run_reg, f23, run_mv, f21, run_len, put1_some, xlen_lst, run_bin, xlss, run_ops_nil, run_cond, put_at, put_no, ev_t, ev_c, reduceIte,
          Nat.reduceEqDiff, List.map_cons, List.map_nil]
      refine cond_split (t := (decide (s3 < (List.length a_0 : Int)))) (fun hc25 => ?_) (fun hc25 => ?_)
      · rw [iteT hc25] at hF10
        obtain ⟨x26, hx27, hF28⟩ := bind_some' hF10
        simp only [run_skip, x43_2, run_seq, run_block, x43_1, run_draw, f21, d4_mv, put1d_some, f23, d4_ia, put_at, put_no, ev_t, ev_c, reduceIte, Nat.reduceEqDiff,
            List.map_cons, List.map_nil]
        refine put1d_eq (v := .ref (Row.cells x26) 0) (xia_lst hx27 rfl) ?_
        simp only [d4_ld, put_at, put_no, ev_t, ev_c, reduceIte, Nat.reduceEqDiff, List.map_cons, List.map_nil]
        refine put1d_eq (v := .agg [.int .i64 x26.Epoch, .int .i64 x26.Value]) rfl ?_
        obtain ⟨x29, hx30, hF31⟩ := bind_some' hF28
        simp only [f22, d4_mv, put1d_some, f23, d4_ia, put_at, put_no, ev_t, ev_c, reduceIte, Nat.reduceEqDiff, List.map_cons, List.map_nil]
        refine put1d_eq (v := .ref (Row.cells x29) 0) (xia_lst hx30 rfl) ?_
        simp only [d4_ld, put_at, put_no, ev_t, ev_c, reduceIte, Nat.reduceEqDiff, List.map_cons, List.map_nil]
        refine put1d_eq (v := .agg [.int .i64 x29.Epoch, .int .i64 x29.Value]) rfl ?_
        obtain ⟨v32, hx33, hF34⟩ := bind_some' hF31
        simp only [run_d3_call, put_at, put_no, ev_t, ev_c, reduceIte, Nat.reduceEqDiff, List.map_cons, List.map_nil]
        refine call1d rfl (mapM1 (snap_agg (mapM1 snap_int (mapM1 snap_int mapM0))) (mapM1 (snap_agg (mapM1 snap_int (mapM1 snap_int mapM0))) mapM0)) (laws_eqRow_x
            (fun b hb => decide_eq_true hb) x26 x29 v32 hx33) ?_
        simp only [d4_un, put1d_some, xnot, run_draw_nil, run_cond, put_at, put_no, ev_t, ev_c, reduceIte, Nat.reduceEqDiff, List.map_cons, List.map_nil]
        refine cond_split (t := (!v32)) (fun hc35 => ?_) (fun hc35 => ?_)
        · rw [iteT hc35] at hF34
          simp only [run_seq, run_reg, run_mv, run_ops_nil, run_ret, put_at, put_no, ev_t, ev_c, reduceIte, Nat.reduceEqDiff, List.map_cons, List.map_nil]
          have e36 := some_inj hF34
          subst e36
          have ho37 := hr11 _ rfl
          have hk38 := hk9
          rw [ho37] at hk38
          dsimp only [jnO] at hk38
          apply hR15
          have he := some_inj hk38
          subst he
          simp only [end_ret1, put_at, put_no, ev_t, ev_c, reduceIte, Nat.reduceEqDiff, List.map_cons, List.map_nil]
          exact rfl
        · rw [iteF hc35] at hF34
          simp only [run_skip, run_blk, run_reg, f23, run_mv, run_bin, put1_some, xadd, run_ops_nil, run_nil, put_at, put_no, ev_t, ev_c, reduceIte, Nat.reduceEqDiff,
              List.map_cons, List.map_nil]
          have e39 := some_inj hF34
          exact hN13 _ _ _ e39.symm ⟨by simp only [f21, put_at, put_no, ev_t, ev_c, reduceIte, Nat.reduceEqDiff, List.map_cons, List.map_nil], by simp only [f22, put_at, put_no,
              ev_t, ev_c, reduceIte, Nat.reduceEqDiff, List.map_cons, List.map_nil], by simp only [put_at, put_no, ev_t, ev_c, reduceIte, Nat.reduceEqDiff, List.map_cons,
              List.map_nil], hS20⟩
      · rw [iteF hc25] at hF10
        simp only [run_exit, out_code, out_nil, put_at, put_no, ev_t, ev_c, reduceIte, Nat.reduceEqDiff, List.map_cons, List.map_nil]
        have e40 := some_inj hF10
        exact hK14 _ _ _ e40.symm ⟨by simp only [f21, put_at, put_no, ev_t, ev_c, reduceIte, Nat.reduceEqDiff, List.map_cons, List.map_nil], by simp only [f22, put_at, put_no,
            ev_t, ev_c, reduceIte, Nat.reduceEqDiff, List.map_cons, List.map_nil], by simp only [f23, put_at, put_no, ev_t, ev_c, reduceIte, Nat.reduceEqDiff, List.map_cons,
            List.map_nil], hS20⟩
    · rintro s42 fr43 h44 rfl ⟨f46, f47, f48, hS45⟩
      dsimp only [jnO] at hk9
      unfold laws_eqRowS_j1 at hk9
      simp only [run_seq, run_reg, run_mv, run_ops_nil, run_ret, put_at, put_no, ev_t, ev_c, reduceIte, Nat.reduceEqDiff, List.map_cons, List.map_nil]
      have he := some_inj hk9
      subst he
      simp only [end_ret1, put_at, put_no, ev_t, ev_c, reduceIte, Nat.reduceEqDiff, List.map_cons, List.map_nil]
      exact rfl
theorem laws_eqNode_x {W : Nat → Bool} {h : Heap} (hW : ∀ b,
    h.length ≤ b → W b = true) (k : Nat) (a_0 : Node) (b_1 : Node) (r : Bool) (hF : laws_eqNode k a_0 b_1 = some r) : Ret E W 68 [.agg [.int .i64 a_0.View.Epoch,
    .int .i64 a_0.View.Leader, lst cI a_0.View.InStep, lst Row.cells a_0.Log, lst cI a_0.Known, .int .i64 a_0.Told], .agg [.int .i64 b_1.View.Epoch, .int .i64 b_1.View.Leader,
    lst cI b_1.View.InStep, lst Row.cells b_1.Log, lst cI b_1.Known, .int .i64 b_1.Told]] h (fun v h' => cut h.length h' E.sz false 9 v = some (.bool r)) := by
  refine Ret.of (fn := x68) rfl (Run.of ?_)
  unfold laws_eqNode at hF
  have zf0 : argFr [.agg [.int .i64 a_0.View.Epoch, .int .i64 a_0.View.Leader, lst cI a_0.View.InStep, lst Row.cells a_0.Log, lst cI a_0.Known, .int .i64 a_0.Told],
      .agg [.int .i64 b_1.View.Epoch, .int .i64 b_1.View.Leader, lst cI b_1.View.InStep, lst Row.cells b_1.Log, lst cI b_1.Known,
      .int .i64 b_1.Told]] 0 = .agg [.int .i64 a_0.View.Epoch, .int .i64 a_0.View.Leader, lst cI a_0.View.InStep, lst Row.cells a_0.Log, lst cI a_0.Known,
      .int .i64 a_0.Told] := rfl
  have zf1 : argFr [.agg [.int .i64 a_0.View.Epoch, .int .i64 a_0.View.Leader, lst cI a_0.View.InStep, lst Row.cells a_0.Log, lst cI a_0.Known, .int .i64 a_0.Told],
      .agg [.int .i64 b_1.View.Epoch, .int .i64 b_1.View.Leader, lst cI b_1.View.InStep, lst Row.cells b_1.Log, lst cI b_1.Known,
      .int .i64 b_1.Told]] 1 = .agg [.int .i64 b_1.View.Epoch, .int .i64 b_1.View.Leader, lst cI b_1.View.InStep, lst Row.cells b_1.Log, lst cI b_1.Known,
      .int .i64 b_1.Told] := rfl
  generalize argFr [.agg [.int .i64 a_0.View.Epoch, .int .i64 a_0.View.Leader, lst cI a_0.View.InStep, lst Row.cells a_0.Log, lst cI a_0.Known, .int .i64 a_0.Told],
      .agg [.int .i64 b_1.View.Epoch, .int .i64 b_1.View.Leader, lst cI b_1.View.InStep, lst Row.cells b_1.Log, lst cI b_1.Known, .int .i64 b_1.Told]] = fr0 at zf0 zf1 ⊢
  have hS : Sep h h.length [] := Sep.nil h
  simp only [x68, run_seq, run_reg, run_box, zf0, put_at, put_no, ev_t, ev_c, reduceIte, Nat.reduceEqDiff, List.map_cons, List.map_nil]
  refine put2_boxC (cs := [.int .i64 a_0.View.Epoch, .int .i64 a_0.View.Leader, lst cI a_0.View.InStep, lst Row.cells a_0.Log, lst cI a_0.Known,
      .int .i64 a_0.Told]) hS rfl rfl rfl (fun b1 h2 hS3 => ?_)
  simp only [run_box, zf1, put_at, put_no, ev_t, ev_c, reduceIte, Nat.reduceEqDiff, List.map_cons, List.map_nil]
  refine put2_boxC (cs := [.int .i64 b_1.View.Epoch, .int .i64 b_1.View.Leader, lst cI b_1.View.InStep, lst Row.cells b_1.Log, lst cI b_1.Known,
      .int .i64 b_1.Told]) hS3 rfl rfl rfl (fun b5 h6 hS7 => ?_)
  simp only [run_mv, run_ops_nil, put_at, put_no, ev_t, ev_c, reduceIte, Nat.reduceEqDiff, List.map_cons, List.map_nil]
  refine frz_stepC (Sep.m1 hS7) hW (by simp only [put_at, put_no, ev_t, ev_c, reduceIte, Nat.reduceEqDiff, List.map_cons, List.map_nil]) (fun h9 hS10 => ?_)
  refine frz_stepC hS10 hW (by simp only [put_at, put_no, ev_t, ev_c, reduceIte, Nat.reduceEqDiff, List.map_cons, List.map_nil]) (fun h11 hS12 => ?_)
  simp only [run_frz_nil, x68_4, run_seq, run_reg, run_fa, put1_some, Nat.reduceAdd, Nat.zero_add, Nat.add_zero, xfa_ref, run_ld, put_at, put_no, ev_t, ev_c, reduceIte,
      Nat.reduceEqDiff, List.map_cons, List.map_nil]
  refine put1_eq (v := .agg [.int .i64 a_0.View.Epoch, .int .i64 a_0.View.Leader, lst cI a_0.View.InStep]) rfl ?_
  simp only [run_fa, put1_some, Nat.reduceAdd, Nat.zero_add, Nat.add_zero, xfa_ref, run_ld, put_at, put_no, ev_t, ev_c, reduceIte, Nat.reduceEqDiff, List.map_cons, List.map_nil]
  refine put1_eq (v := .agg [.int .i64 b_1.View.Epoch, .int .i64 b_1.View.Leader, lst cI b_1.View.InStep]) rfl ?_
  obtain ⟨v13, hx14, hF15⟩ := bind_some' hF
  simp only [run_call, put_at, put_no, ev_t, ev_c, reduceIte, Nat.reduceEqDiff, List.map_cons, List.map_nil]
  refine call1 rfl (mapM1 (snap_agg (mapM1 snap_int (mapM1 snap_int (mapM1 snap_lst mapM0)))) (mapM1 (snap_agg (mapM1 snap_int (mapM1 snap_int (mapM1 snap_lst mapM0)))) mapM0))
      (laws_eqView_x (fun b hb => decide_eq_true hb) k a_0.View b_1.View v13 hx14) ?_
  simp only [run_un, put1_some, xnot, run_ops_nil, run_cond, put_at, put_no, ev_t, ev_c, reduceIte, Nat.reduceEqDiff, List.map_cons, List.map_nil]
  refine cond_split (t := (!v13)) (fun hc16 => ?_) (fun hc16 => ?_)
  · rw [iteT hc16] at hF15
    simp only [run_seq, run_reg, run_mv, run_ops_nil, run_ret, put_at, put_no, ev_t, ev_c, reduceIte, Nat.reduceEqDiff, List.map_cons, List.map_nil]
    have he := some_inj hF15
    subst he
    simp only [end_ret1, put_at, put_no, ev_t, ev_c, reduceIte, Nat.reduceEqDiff, List.map_cons, List.map_nil]
    exact rfl
  · rw [iteF hc16] at hF15
    simp only [run_skip, x68_3, run_seq, run_reg, run_fa, put1_some, Nat.reduceAdd, Nat.zero_add, Nat.add_zero, xfa_ref, run_ld, put_at, put_no, ev_t, ev_c, reduceIte,
        Nat.reduceEqDiff, List.map_cons, List.map_nil]
    refine put1_eq (v := lst Row.cells a_0.Log) rfl ?_
    simp only [run_fa, put1_some, Nat.reduceAdd, Nat.zero_add, Nat.add_zero, xfa_ref, run_ld, put_at, put_no, ev_t, ev_c, reduceIte, Nat.reduceEqDiff, List.map_cons, List.map_nil]
    refine put1_eq (v := lst Row.cells b_1.Log) rfl ?_
    obtain ⟨v17, hx18, hF19⟩ := bind_some' hF15
    simp only [run_call, put_at, put_no, ev_t, ev_c, reduceIte, Nat.reduceEqDiff, List.map_cons, List.map_nil]
    refine call1 rfl (mapM1 snap_lst (mapM1 snap_lst mapM0)) (laws_eqRowS_x (fun b hb => decide_eq_true hb) k a_0.Log b_1.Log v17 hx18) ?_
    simp only [run_un, put1_some, xnot, run_ops_nil, run_cond, put_at, put_no, ev_t, ev_c, reduceIte, Nat.reduceEqDiff, List.map_cons, List.map_nil]
    refine cond_split (t := (!v17)) (fun hc20 => ?_) (fun hc20 => ?_)
    · rw [iteT hc20] at hF19
      simp only [run_seq, run_reg, run_mv, run_ops_nil, run_ret, put_at, put_no, ev_t, ev_c, reduceIte, Nat.reduceEqDiff, List.map_cons, List.map_nil]
      have he := some_inj hF19
      subst he
      simp only [end_ret1, put_at, put_no, ev_t, ev_c, reduceIte, Nat.reduceEqDiff, List.map_cons, List.map_nil]
      exact rfl
    · rw [iteF hc20] at hF19
      simp only [run_skip, x68_2, run_seq, run_reg, run_fa, put1_some, Nat.reduceAdd, Nat.zero_add, Nat.add_zero, xfa_ref, run_ld, put_at, put_no, ev_t, ev_c, reduceIte,
          Nat.reduceEqDiff, List.map_cons, List.map_nil]
      refine put1_eq (v := lst cI a_0.Known) rfl ?_
      simp only [run_fa, put1_some, Nat.reduceAdd, Nat.zero_add, Nat.add_zero, xfa_ref, run_ld, put_at, put_no, ev_t, ev_c, reduceIte, Nat.reduceEqDiff, List.map_cons,
          List.map_nil]
      refine put1_eq (v := lst cI b_1.Known) rfl ?_
      obtain ⟨v21, hx22, hF23⟩ := bind_some' hF19
      simp only [run_call, put_at, put_no, ev_t, ev_c, reduceIte, Nat.reduceEqDiff, List.map_cons, List.map_nil]
      refine call1 rfl (mapM1 snap_lst (mapM1 snap_lst mapM0)) (laws_eqIntS_x (fun b hb => decide_eq_true hb) k a_0.Known b_1.Known v21 hx22) ?_
      simp only [run_un, put1_some, xnot, run_ops_nil, run_cond, put_at, put_no, ev_t, ev_c, reduceIte, Nat.reduceEqDiff, List.map_cons, List.map_nil]
      refine cond_split (t := (!v21)) (fun hc24 => ?_) (fun hc24 => ?_)
      · rw [iteT hc24] at hF23
        simp only [run_seq, run_reg, run_mv, run_ops_nil, run_ret, put_at, put_no, ev_t, ev_c, reduceIte, Nat.reduceEqDiff, List.map_cons, List.map_nil]
        have he := some_inj hF23
        subst he
        simp only [end_ret1, put_at, put_no, ev_t, ev_c, reduceIte, Nat.reduceEqDiff, List.map_cons, List.map_nil]
        exact rfl
      · rw [iteF hc24] at hF23
        simp only [run_skip, x68_1, run_seq, run_reg, run_fa, put1_some, Nat.reduceAdd, Nat.zero_add, Nat.add_zero, xfa_ref, run_ld, put_at, put_no, ev_t, ev_c, reduceIte,
            Nat.reduceEqDiff, List.map_cons, List.map_nil]
        refine put1_eq (v := .int .i64 a_0.Told) rfl ?_
        simp only [run_fa, put1_some, Nat.reduceAdd, Nat.zero_add, Nat.add_zero, xfa_ref, run_ld, put_at, put_no, ev_t, ev_c, reduceIte, Nat.reduceEqDiff, List.map_cons,
            List.map_nil]
        refine put1_eq (v := .int .i64 b_1.Told) rfl ?_
        simp only [run_bin, put1_some, xneq, run_ops_nil, run_cond, put_at, put_no, ev_t, ev_c, reduceIte, Nat.reduceEqDiff, List.map_cons, List.map_nil]
        refine cond_split (t := (decide (a_0.Told ≠ b_1.Told))) (fun hc25 => ?_) (fun hc25 => ?_)
        · rw [iteT hc25] at hF23
          simp only [run_seq, run_reg, run_mv, run_ops_nil, run_ret, put_at, put_no, ev_t, ev_c, reduceIte, Nat.reduceEqDiff, List.map_cons, List.map_nil]
          have he := some_inj hF23
          subst he
          simp only [end_ret1, put_at, put_no, ev_t, ev_c, reduceIte, Nat.reduceEqDiff, List.map_cons, List.map_nil]
          exact rfl
        · rw [iteF hc25] at hF23
          simp only [run_skip, run_seq, run_reg, run_mv, run_ops_nil, run_ret, put_at, put_no, ev_t, ev_c, reduceIte, Nat.reduceEqDiff, List.map_cons, List.map_nil]
          have he := some_inj hF23
          subst he
          simp only [end_ret1, put_at, put_no, ev_t, ev_c, reduceIte, Nat.reduceEqDiff, List.map_cons, List.map_nil]
          exact rfl
theorem laws_eqNodeS_x {W : Nat → Bool} {h : Heap} (hW : ∀ b,
    h.length ≤ b → W b = true) (k : Nat) (a_0 : List Node) (b_1 : List Node) (r : Bool) (hF : laws_eqNodeS k a_0 b_1 = some r) : Ret E W 42 [lst Node.cells a_0,
    lst Node.cells b_1] h (fun v h' => cut h.length h' E.sz false 9 v = some (.bool r)) := by
  refine Ret.of (fn := x42) rfl (Run.of ?_)
  unfold laws_eqNodeS at hF
  have zf0 : argFr [lst Node.cells a_0, lst Node.cells b_1] 0 = lst Node.cells a_0 := rfl
  have zf1 : argFr [lst Node.cells a_0, lst Node.cells b_1] 1 = lst Node.cells b_1 := rfl
  generalize argFr [lst Node.cells a_0, lst Node.cells b_1] = fr0 at zf0 zf1 ⊢
  have hS : Sep h h.length [] := Sep.nil h
  simp only [x42, run_seq, run_reg, run_mv, run_ops_nil, x42_7, zf0, run_len, put1_some, xlen_lst, zf1, run_bin, xneq, run_cond, put_at, put_no, ev_t, ev_c, reduceIte,
      Nat.reduceEqDiff, List.map_cons, List.map_nil]
  refine cond_split (t := (decide ((List.length a_0 : Int) ≠ (List.length b_1 : Int)))) (fun hc1 => ?_) (fun hc1 => ?_)
  · rw [iteT hc1] at hF
    simp only [run_seq, run_reg, run_mv, run_ops_nil, run_ret, put_at, put_no, ev_t, ev_c, reduceIte, Nat.reduceEqDiff, List.map_cons, List.map_nil]
    have he := some_inj hF
    subst he
    simp only [end_ret1, put_at, put_no, ev_t, ev_c, reduceIte, Nat.reduceEqDiff, List.map_cons, List.map_nil]
    exact rfl
  · rw [iteF hc1] at hF
    simp only [run_skip, x42_6, run_seq, run_reg, run_mv, run_ops_nil, put_at, put_no, ev_t, ev_c, reduceIte, Nat.reduceEqDiff, List.map_cons, List.map_nil]
    obtain ⟨oc6, hX8, hk9⟩ := jn_some hF
    simp only [x42_5]
    refine loopF_j (σ := Int) (fun s41 => laws_eqNodeS_b1 k a_0 b_1 s41)
        (fun s fr' h' => fr' 0 = lst Node.cells a_0 ∧ fr' 1 = lst Node.cells b_1 ∧ fr' 5 = .int .i64 s ∧ Sep h' h.length ([])) hX8 ⟨by simp only [zf0, put_at, put_no, ev_t, ev_c,
        reduceIte, Nat.reduceEqDiff, List.map_cons, List.map_nil], by simp only [zf1, put_at, put_no, ev_t, ev_c, reduceIte, Nat.reduceEqDiff, List.map_cons, List.map_nil],
        by simp only [put_at, put_no, ev_t, ev_c, reduceIte, Nat.reduceEqDiff, List.map_cons, List.map_nil], hS⟩ (fun _ _ _ h => h) ?_ ?_
    · rintro s3 fr18 h19 ⟨f21, f22, f23, hS20⟩ oc7 hF10 hr11 Q12 hN13 hK14 hR15 hE16
      unfold laws_eqNodeS_b1 at hF10
      simp only [x42_3, run_seq, run_reg, f23, run_mv, f21, run_len, put1_some, xlen_lst, run_bin, xlss, run_ops_nil, run_cond, put_at, put_no, ev_t, ev_c, reduceIte,
          Nat.reduceEqDiff, List.map_cons, List.map_nil]
      refine cond_split (t := (decide (s3 < (List.length a_0 : Int)))) (fun hc25 => ?_) (fun hc25 => ?_)
      · rw [iteT hc25] at hF10
        obtain ⟨x26, hx27, hF28⟩ := bind_some' hF10
        simp only [run_skip, x42_2, run_seq, run_block, x42_1, run_draw, f21, d4_mv, put1d_some, f23, d4_ia, put_at, put_no, ev_t, ev_c, reduceIte, Nat.reduceEqDiff,
            List.map_cons, List.map_nil]
        refine put1d_eq (v := .ref (Node.cells x26) 0) (xia_lst hx27 rfl) ?_
        simp only [d4_ld, put_at, put_no, ev_t, ev_c, reduceIte, Nat.reduceEqDiff, List.map_cons, List.map_nil]
        refine put1d_eq (v := .agg [.int .i64 x26.View.Epoch, .int .i64 x26.View.Leader, lst cI x26.View.InStep, lst Row.cells x26.Log, lst cI x26.Known,
            .int .i64 x26.Told]) rfl ?_
        obtain ⟨x29, hx30, hF31⟩ := bind_some' hF28
        simp only [f22, d4_mv, put1d_some, f23, d4_ia, put_at, put_no, ev_t, ev_c, reduceIte, Nat.reduceEqDiff, List.map_cons, List.map_nil]
        refine put1d_eq (v := .ref (Node.cells x29) 0) (xia_lst hx30 rfl) ?_
        simp only [d4_ld, put_at, put_no, ev_t, ev_c, reduceIte, Nat.reduceEqDiff, List.map_cons, List.map_nil]
        refine put1d_eq (v := .agg [.int .i64 x29.View.Epoch, .int .i64 x29.View.Leader, lst cI x29.View.InStep, lst Row.cells x29.Log, lst cI x29.Known,
            .int .i64 x29.Told]) rfl ?_
        obtain ⟨v32, hx33, hF34⟩ := bind_some' hF31
        simp only [run_d3_call, put_at, put_no, ev_t, ev_c, reduceIte, Nat.reduceEqDiff, List.map_cons, List.map_nil]
        refine call1d rfl (mapM1 (snap_agg (mapM1 snap_int (mapM1 snap_int (mapM1 snap_lst (mapM1 snap_lst (mapM1 snap_lst (mapM1 snap_int mapM0))))))) (mapM1 (snap_agg
            (mapM1 snap_int (mapM1 snap_int (mapM1 snap_lst (mapM1 snap_lst (mapM1 snap_lst (mapM1 snap_int mapM0))))))) mapM0)) (laws_eqNode_x
            (fun b hb => decide_eq_true hb) k x26 x29 v32 hx33) ?_
        simp only [d4_un, put1d_some, xnot, run_draw_nil, run_cond, put_at, put_no, ev_t, ev_c, reduceIte, Nat.reduceEqDiff, List.map_cons, List.map_nil]
        refine cond_split (t := (!v32)) (fun hc35 => ?_) (fun hc35 => ?_)
        · rw [iteT hc35] at hF34
          simp only [run_seq, run_reg, run_mv, run_ops_nil, run_ret, put_at, put_no, ev_t, ev_c, reduceIte, Nat.reduceEqDiff, List.map_cons, List.map_nil]
          have e36 := some_inj hF34
          subst e36
          have ho37 := hr11 _ rfl
          have hk38 := hk9
          rw [ho37] at hk38
          dsimp only [jnO] at hk38
          apply hR15
          have he := some_inj hk38
          subst he
          simp only [end_ret1, put_at, put_no, ev_t, ev_c, reduceIte, Nat.reduceEqDiff, List.map_cons, List.map_nil]
          exact rfl
        · rw [iteF hc35] at hF34
          simp only [run_skip, run_blk, run_reg, f23, run_mv, run_bin, put1_some, xadd, run_ops_nil, run_nil, put_at, put_no, ev_t, ev_c, reduceIte, Nat.reduceEqDiff,
              List.map_cons, List.map_nil]
          have e39 := some_inj hF34
          exact hN13 _ _ _ e39.symm ⟨by simp only [f21, put_at, put_no, ev_t, ev_c, reduceIte, Nat.reduceEqDiff, List.map_cons, List.map_nil], by simp only [f22, put_at, put_no,
              ev_t, ev_c, reduceIte, Nat.reduceEqDiff, List.map_cons, List.map_nil], by simp only [put_at, put_no, ev_t, ev_c, reduceIte, Nat.reduceEqDiff, List.map_cons,
              List.map_nil], hS20⟩
      · rw [iteF hc25] at hF10
        simp only [run_exit, out_code, out_nil, put_at, put_no, ev_t, ev_c, reduceIte, Nat.reduceEqDiff, List.map_cons, List.map_nil]
        have e40 := some_inj hF10
        exact hK14 _ _ _ e40.symm ⟨by simp only [f21, put_at, put_no, ev_t, ev_c, reduceIte, Nat.reduceEqDiff, List.map_cons, List.map_nil], by simp only [f22, put_at, put_no,
            ev_t, ev_c, reduceIte, Nat.reduceEqDiff, List.map_cons, List.map_nil], by simp only [f23, put_at, put_no, ev_t, ev_c, reduceIte, Nat.reduceEqDiff, List.map_cons,
            List.map_nil], hS20⟩
    · rintro s42 fr43 h44 rfl ⟨f46, f47, f48, hS45⟩
      dsimp only [jnO] at hk9
      unfold laws_eqNodeS_j1 at hk9
      simp only [run_seq, run_reg, run_mv, run_ops_nil, run_ret, put_at, put_no, ev_t, ev_c, reduceIte, Nat.reduceEqDiff, List.map_cons, List.map_nil]
      have he := some_inj hk9
      subst he
      simp only [end_ret1, put_at, put_no, ev_t, ev_c, reduceIte, Nat.reduceEqDiff, List.map_cons, List.map_nil]
      exact rfl
theorem laws_eqCluster_x {W : Nat → Bool} {h : Heap} (hW : ∀ b,
    h.length ≤ b → W b = true) (k : Nat) (a_0 : Cluster) (b_1 : Cluster) (r : Bool) (hF : laws_eqCluster k a_0 b_1 = some r) : Ret E W 11 [.agg [.int .i64 a_0.Truth.Epoch,
    .int .i64 a_0.Truth.Leader, lst cI a_0.Truth.InStep, lst Node.cells a_0.Nodes, lst Row.cells a_0.Acked], .agg [.int .i64 b_1.Truth.Epoch, .int .i64 b_1.Truth.Leader,
    lst cI b_1.Truth.InStep, lst Node.cells b_1.Nodes, lst Row.cells b_1.Acked]] h (fun v h' => cut h.length h' E.sz false 9 v = some (.bool r)) := by
  refine Ret.of (fn := x11) rfl (Run.of ?_)
  unfold laws_eqCluster at hF
  have zf0 : argFr [.agg [.int .i64 a_0.Truth.Epoch, .int .i64 a_0.Truth.Leader, lst cI a_0.Truth.InStep, lst Node.cells a_0.Nodes, lst Row.cells a_0.Acked],
      .agg [.int .i64 b_1.Truth.Epoch, .int .i64 b_1.Truth.Leader, lst cI b_1.Truth.InStep, lst Node.cells b_1.Nodes,
      lst Row.cells b_1.Acked]] 0 = .agg [.int .i64 a_0.Truth.Epoch, .int .i64 a_0.Truth.Leader, lst cI a_0.Truth.InStep, lst Node.cells a_0.Nodes, lst Row.cells a_0.Acked] := rfl
  have zf1 : argFr [.agg [.int .i64 a_0.Truth.Epoch, .int .i64 a_0.Truth.Leader, lst cI a_0.Truth.InStep, lst Node.cells a_0.Nodes, lst Row.cells a_0.Acked],
      .agg [.int .i64 b_1.Truth.Epoch, .int .i64 b_1.Truth.Leader, lst cI b_1.Truth.InStep, lst Node.cells b_1.Nodes,
      lst Row.cells b_1.Acked]] 1 = .agg [.int .i64 b_1.Truth.Epoch, .int .i64 b_1.Truth.Leader, lst cI b_1.Truth.InStep, lst Node.cells b_1.Nodes, lst Row.cells b_1.Acked] := rfl
  generalize argFr [.agg [.int .i64 a_0.Truth.Epoch, .int .i64 a_0.Truth.Leader, lst cI a_0.Truth.InStep, lst Node.cells a_0.Nodes, lst Row.cells a_0.Acked],
      .agg [.int .i64 b_1.Truth.Epoch, .int .i64 b_1.Truth.Leader, lst cI b_1.Truth.InStep, lst Node.cells b_1.Nodes, lst Row.cells b_1.Acked]] = fr0 at zf0 zf1 ⊢
  have hS : Sep h h.length [] := Sep.nil h
  simp only [x11, run_seq, run_reg, run_box, zf0, put_at, put_no, ev_t, ev_c, reduceIte, Nat.reduceEqDiff, List.map_cons, List.map_nil]
  refine put2_boxC (cs := [.int .i64 a_0.Truth.Epoch, .int .i64 a_0.Truth.Leader, lst cI a_0.Truth.InStep, lst Node.cells a_0.Nodes,
      lst Row.cells a_0.Acked]) hS rfl rfl rfl (fun b1 h2 hS3 => ?_)
  simp only [run_box, zf1, put_at, put_no, ev_t, ev_c, reduceIte, Nat.reduceEqDiff, List.map_cons, List.map_nil]
  refine put2_boxC (cs := [.int .i64 b_1.Truth.Epoch, .int .i64 b_1.Truth.Leader, lst cI b_1.Truth.InStep, lst Node.cells b_1.Nodes,
      lst Row.cells b_1.Acked]) hS3 rfl rfl rfl (fun b5 h6 hS7 => ?_)
  simp only [run_mv, run_ops_nil, put_at, put_no, ev_t, ev_c, reduceIte, Nat.reduceEqDiff, List.map_cons, List.map_nil]
  refine frz_stepC (Sep.m1 hS7) hW (by simp only [put_at, put_no, ev_t, ev_c, reduceIte, Nat.reduceEqDiff, List.map_cons, List.map_nil]) (fun h9 hS10 => ?_)
  refine frz_stepC hS10 hW (by simp only [put_at, put_no, ev_t, ev_c, reduceIte, Nat.reduceEqDiff, List.map_cons, List.map_nil]) (fun h11 hS12 => ?_)
  simp only [run_frz_nil, x11_3, run_seq, run_reg, run_fa, put1_some, Nat.reduceAdd, Nat.zero_add, Nat.add_zero, xfa_ref, run_ld, put_at, put_no, ev_t, ev_c, reduceIte,
      Nat.reduceEqDiff, List.map_cons, List.map_nil]
  refine put1_eq (v := .agg [.int .i64 a_0.Truth.Epoch, .int .i64 a_0.Truth.Leader, lst cI a_0.Truth.InStep]) rfl ?_
  simp only [run_fa, put1_some, Nat.reduceAdd, Nat.zero_add, Nat.add_zero, xfa_ref, run_ld, put_at, put_no, ev_t, ev_c, reduceIte, Nat.reduceEqDiff, List.map_cons, List.map_nil]
  refine put1_eq (v := .agg [.int .i64 b_1.Truth.Epoch, .int .i64 b_1.Truth.Leader, lst cI b_1.Truth.InStep]) rfl ?_
  obtain ⟨v13, hx14, hF15⟩ := bind_some' hF
  simp only [run_call, put_at, put_no, ev_t, ev_c, reduceIte, Nat.reduceEqDiff, List.map_cons, List.map_nil]
  refine call1 rfl (mapM1 (snap_agg (mapM1 snap_int (mapM1 snap_int (mapM1 snap_lst mapM0)))) (mapM1 (snap_agg (mapM1 snap_int (mapM1 snap_int (mapM1 snap_lst mapM0)))) mapM0))
      (laws_eqView_x (fun b hb => decide_eq_true hb) k a_0.Truth b_1.Truth v13 hx14) ?_
  simp only [run_un, put1_some, xnot, run_ops_nil, run_cond, put_at, put_no, ev_t, ev_c, reduceIte, Nat.reduceEqDiff, List.map_cons, List.map_nil]
  refine cond_split (t := (!v13)) (fun hc16 => ?_) (fun hc16 => ?_)
  · rw [iteT hc16] at hF15
    simp only [run_seq, run_reg, run_mv, run_ops_nil, run_ret, put_at, put_no, ev_t, ev_c, reduceIte, Nat.reduceEqDiff, List.map_cons, List.map_nil]
    have he := some_inj hF15
    subst he
    simp only [end_ret1, put_at, put_no, ev_t, ev_c, reduceIte, Nat.reduceEqDiff, List.map_cons, List.map_nil]
    exact rfl
  · rw [iteF hc16] at hF15
    simp only [run_skip, x11_2, run_seq, run_reg, run_fa, put1_some, Nat.reduceAdd, Nat.zero_add, Nat.add_zero, xfa_ref, run_ld, put_at, put_no, ev_t, ev_c, reduceIte,
        Nat.reduceEqDiff, List.map_cons, List.map_nil]
    refine put1_eq (v := lst Node.cells a_0.Nodes) rfl ?_
    simp only [run_fa, put1_some, Nat.reduceAdd, Nat.zero_add, Nat.add_zero, xfa_ref, run_ld, put_at, put_no, ev_t, ev_c, reduceIte, Nat.reduceEqDiff, List.map_cons, List.map_nil]
    refine put1_eq (v := lst Node.cells b_1.Nodes) rfl ?_
    obtain ⟨v17, hx18, hF19⟩ := bind_some' hF15
    simp only [run_call, put_at, put_no, ev_t, ev_c, reduceIte, Nat.reduceEqDiff, List.map_cons, List.map_nil]
    refine call1 rfl (mapM1 snap_lst (mapM1 snap_lst mapM0)) (laws_eqNodeS_x (fun b hb => decide_eq_true hb) k a_0.Nodes b_1.Nodes v17 hx18) ?_
    simp only [run_un, put1_some, xnot, run_ops_nil, run_cond, put_at, put_no, ev_t, ev_c, reduceIte, Nat.reduceEqDiff, List.map_cons, List.map_nil]
    refine cond_split (t := (!v17)) (fun hc20 => ?_) (fun hc20 => ?_)
    · rw [iteT hc20] at hF19
      simp only [run_seq, run_reg, run_mv, run_ops_nil, run_ret, put_at, put_no, ev_t, ev_c, reduceIte, Nat.reduceEqDiff, List.map_cons, List.map_nil]
      have he := some_inj hF19
      subst he
      simp only [end_ret1, put_at, put_no, ev_t, ev_c, reduceIte, Nat.reduceEqDiff, List.map_cons, List.map_nil]
      exact rfl
    · rw [iteF hc20] at hF19
      simp only [run_skip, x11_1, run_seq, run_reg, run_fa, put1_some, Nat.reduceAdd, Nat.zero_add, Nat.add_zero, xfa_ref, run_ld, put_at, put_no, ev_t, ev_c, reduceIte,
          Nat.reduceEqDiff, List.map_cons, List.map_nil]
      refine put1_eq (v := lst Row.cells a_0.Acked) rfl ?_
      simp only [run_fa, put1_some, Nat.reduceAdd, Nat.zero_add, Nat.add_zero, xfa_ref, run_ld, put_at, put_no, ev_t, ev_c, reduceIte, Nat.reduceEqDiff, List.map_cons,
          List.map_nil]
      refine put1_eq (v := lst Row.cells b_1.Acked) rfl ?_
      obtain ⟨v21, hx22, hF23⟩ := bind_some' hF19
      simp only [run_call, put_at, put_no, ev_t, ev_c, reduceIte, Nat.reduceEqDiff, List.map_cons, List.map_nil]
      refine call1 rfl (mapM1 snap_lst (mapM1 snap_lst mapM0)) (laws_eqRowS_x (fun b hb => decide_eq_true hb) k a_0.Acked b_1.Acked v21 hx22) ?_
      simp only [run_un, put1_some, xnot, run_ops_nil, run_cond, put_at, put_no, ev_t, ev_c, reduceIte, Nat.reduceEqDiff, List.map_cons, List.map_nil]
      refine cond_split (t := (!v21)) (fun hc24 => ?_) (fun hc24 => ?_)
      · rw [iteT hc24] at hF23
        simp only [run_seq, run_reg, run_mv, run_ops_nil, run_ret, put_at, put_no, ev_t, ev_c, reduceIte, Nat.reduceEqDiff, List.map_cons, List.map_nil]
        have he := some_inj hF23
        subst he
        simp only [end_ret1, put_at, put_no, ev_t, ev_c, reduceIte, Nat.reduceEqDiff, List.map_cons, List.map_nil]
        exact rfl
      · rw [iteF hc24] at hF23
        simp only [run_skip, run_seq, run_reg, run_mv, run_ops_nil, run_ret, put_at, put_no, ev_t, ev_c, reduceIte, Nat.reduceEqDiff, List.map_cons, List.map_nil]
        have he := some_inj hF23
        subst he
        simp only [end_ret1, put_at, put_no, ev_t, ev_c, reduceIte, Nat.reduceEqDiff, List.map_cons, List.map_nil]
        exact rfl
theorem laws_markIntS_x {W : Nat → Bool} {h : Heap} {lo : Nat} {S0 : List Obj} (hW : ∀ b,
    lo ≤ b → W b = true) (k : Nat) (pv0 : XV) (pc0 : List Obj) (a_0 : List Int) (ph0 : SlF cI 1 3 pv0 a_0 pc0) (k_1 : Int) (r : Int × (List Int))
    (hF : laws_markIntS k a_0 k_1 = some r) (hS : Sep h lo (pc0 ++ (S0))) : Ret E W 21 [pv0, .int .i64 k_1] h (fun v h' => ∃ ic0,
    v = .int .i64 r.1 ∧ SlF cI 1 3 pv0 r.2 ic0 ∧ Sep h' lo (ic0 ++ (S0))) := by
  refine Ret.of (fn := x21) rfl (Run.of ?_)
  unfold laws_markIntS at hF
  have zf0 : argFr [pv0, .int .i64 k_1] 0 = pv0 := rfl
  have zf1 : argFr [pv0, .int .i64 k_1] 1 = .int .i64 k_1 := rfl
  generalize argFr [pv0, .int .i64 k_1] = fr0 at zf0 zf1 ⊢
  simp only [x21, run_seq, run_reg, run_mv, run_ops_nil, x21_6, put_at, put_no, ev_t, ev_c, reduceIte, Nat.reduceEqDiff, List.map_cons, List.map_nil]
  obtain ⟨oc13, hX15, hk16⟩ := jn_some hF
  simp only [x21_5]
  refine loopF_j (σ := Int × Int × (List Int)) (fun s45 => laws_markIntS_b1 s45.1 s45.2.1 s45.2.2) (fun s fr' h' => ∃ c9,
      fr' 0 = pv0 ∧ fr' 1 = .int .i64 s.1 ∧ fr' 5 = .int .i64 s.2.1 ∧ SlF cI 1 3 pv0 s.2.2 c9 ∧ Sep h' lo (c9 ++ (S0))) hX15 ⟨pc0, by simp only [zf0, put_at, put_no, ev_t, ev_c,
      reduceIte, Nat.reduceEqDiff, List.map_cons, List.map_nil], by simp only [zf1, put_at, put_no, ev_t, ev_c, reduceIte, Nat.reduceEqDiff, List.map_cons, List.map_nil],
      by simp only [put_at, put_no, ev_t, ev_c, reduceIte, Nat.reduceEqDiff, List.map_cons, List.map_nil], ph0, hS⟩ (fun _ _ _ h => h) ?_ ?_
  · rintro ⟨s6, s7, s8⟩ fr25 h26 ⟨c9, f28, f29, f30, hv10, hS27⟩ oc14 hF17 hr18 Q19 hN20 hK21 hR22 hE23
    dsimp only at *
    unfold laws_markIntS_b1 at hF17
    simp only [x21_3, run_seq, run_reg, f30, run_mv, f28, run_len, put1_some, SlF.plen hv10, run_bin, xlss, run_ops_nil, run_cond, put_at, put_no, ev_t, ev_c, reduceIte,
        Nat.reduceEqDiff, List.map_cons, List.map_nil]
    refine cond_split (t := (decide (s7 < (List.length s8 : Int)))) (fun hc32 => ?_) (fun hc32 => ?_)
    · rw [iteT hc32] at hF17
      obtain ⟨x33, hx34, hF35⟩ := bind_some' hF17
      simp only [run_skip, x21_2, run_seq, run_block, x21_1, run_reg, f28, run_mv, f30, f29, run_ia, put_at, put_no, ev_t, ev_c, reduceIte, Nat.reduceEqDiff, List.map_cons,
          List.map_nil]
      obtain ⟨b36, hb37⟩ := SlF.isrow hv10 (geti_ne hx34)
      refine put1_eq (SlF.ia hv10 hb37 hx34) ?_
      simp only [run_st, put_at, put_no, ev_t, ev_c, reduceIte, Nat.reduceEqDiff, List.map_cons, List.map_nil]
      refine put2_stF (f := cI) (x' := s6) (o := 0) hv10 hS27 hW hb37 hx34 (fun _ => rfl) rfl rfl (Nat.le_of_ble_eq_true rfl) rfl (fun c40 h38 hv41 hS39 => ?_)
      have hx42 := geti_set (x' := s6) hx34
      simp only [put_no, run_ops_nil, run_reg, f29, run_mv, run_bin, put1_some, xadd, run_blk, f30, run_nil, put_at, ev_t, ev_c, reduceIte, Nat.reduceEqDiff, List.map_cons,
          List.map_nil]
      have e43 := some_inj hF35
      exact hN20 _ _ _ e43.symm ⟨c40, by simp only [f28, put_at, put_no, ev_t, ev_c, reduceIte, Nat.reduceEqDiff, List.map_cons, List.map_nil], by simp only [put_at, put_no, ev_t,
          ev_c, reduceIte, Nat.reduceEqDiff, List.map_cons, List.map_nil], by simp only [put_at, put_no, ev_t, ev_c, reduceIte, Nat.reduceEqDiff, List.map_cons, List.map_nil],
          hv41, hS39⟩
    · rw [iteF hc32] at hF17
      simp only [run_exit, out_code, out_nil, put_at, put_no, ev_t, ev_c, reduceIte, Nat.reduceEqDiff, List.map_cons, List.map_nil]
      have e44 := some_inj hF17
      exact hK21 _ _ _ e44.symm ⟨c9, by simp only [f28, put_at, put_no, ev_t, ev_c, reduceIte, Nat.reduceEqDiff, List.map_cons, List.map_nil], by simp only [f29, put_at, put_no,
          ev_t, ev_c, reduceIte, Nat.reduceEqDiff, List.map_cons, List.map_nil], by simp only [f30, put_at, put_no, ev_t, ev_c, reduceIte, Nat.reduceEqDiff, List.map_cons,
          List.map_nil], hv10, hS27⟩
  · rintro ⟨s46, s47, s48⟩ fr51 h52 rfl ⟨c49, f54, f55, f56, hv50, hS53⟩
    dsimp only [jnO] at hk16
    dsimp only at *
    unfold laws_markIntS_j1 at hk16
    simp only [run_seq, run_reg, f55, run_mv, run_ops_nil, run_ret, put_at, put_no, ev_t, ev_c, reduceIte, Nat.reduceEqDiff, List.map_cons, List.map_nil]
    have he := some_inj hk16
    subst he
    simp only [end_ret1, put_at, put_no, ev_t, ev_c, reduceIte, Nat.reduceEqDiff, List.map_cons, List.map_nil]
    exact ⟨c49, by first | trivial | rfl, hv50, hS53⟩
theorem laws_markView_x {W : Nat → Bool} {h : Heap} {lo : Nat} {S0 : List Obj} (hW : ∀ b,
    lo ≤ b → W b = true) (k : Nat) (a_0 : View) (pv0_2 : XV) (pc0_2 : List Obj) (ph0_2 : SlF cI 1 3 pv0_2 a_0.InStep pc0_2) (k_1 : Int) (r : Int × View)
    (hF : laws_markView k a_0 k_1 = some r) (hS : Sep h lo (pc0_2 ++ (S0))) : Ret E W 44 [.agg [.int .i64 a_0.Epoch, .int .i64 a_0.Leader, pv0_2],
    .int .i64 k_1] h (fun v h' => ∃ ic0_2, v = .int .i64 r.1 ∧ SlF cI 1 3 pv0_2 r.2.InStep ic0_2 ∧ Sep h' lo (ic0_2 ++ (S0))) := by
  refine Ret.of (fn := x44) rfl (Run.of ?_)
  unfold laws_markView at hF
  have zf0 : argFr [.agg [.int .i64 a_0.Epoch, .int .i64 a_0.Leader, pv0_2], .int .i64 k_1] 0 = .agg [.int .i64 a_0.Epoch, .int .i64 a_0.Leader, pv0_2] := rfl
  have zf1 : argFr [.agg [.int .i64 a_0.Epoch, .int .i64 a_0.Leader, pv0_2], .int .i64 k_1] 1 = .int .i64 k_1 := rfl
  generalize argFr [.agg [.int .i64 a_0.Epoch, .int .i64 a_0.Leader, pv0_2], .int .i64 k_1] = fr0 at zf0 zf1 ⊢
  simp only [x44, run_seq, run_reg, run_box, zf0, put_at, put_no, ev_t, ev_c, reduceIte, Nat.reduceEqDiff, List.map_cons, List.map_nil]
  refine put2_boxC (cs := [.int .i64 a_0.Epoch, .int .i64 a_0.Leader, pv0_2]) hS rfl rfl (all_c rfl (all_c rfl (all_c (SlF.one ph0_2) all_n))) (fun b1 h2 hS3 => ?_)
  simp only [run_mv, run_ops_nil, put_at, put_no, ev_t, ev_c, reduceIte, Nat.reduceEqDiff, List.map_cons, List.map_nil]
  refine frz_stepC hS3 hW (by simp only [put_at, put_no, ev_t, ev_c, reduceIte, Nat.reduceEqDiff, List.map_cons, List.map_nil]) (fun h5 hS6 => ?_)
  simp only [run_frz_nil, x44_1, run_seq, run_reg, run_fa, put1_some, Nat.reduceAdd, Nat.zero_add, Nat.add_zero, xfa_ref, run_ld, put_at, put_no, ev_t, ev_c, reduceIte,
      Nat.reduceEqDiff, List.map_cons, List.map_nil]
  refine put1_eq (v := pv0_2) rfl ?_
  obtain ⟨v7, hx8, hF9⟩ := bind_some' hF
  simp only [zf1, run_mv, run_call, put_at, put_no, ev_t, ev_c, reduceIte, Nat.reduceEqDiff, List.map_cons, List.map_nil]
  refine call0 rfl (laws_markIntS_x hW k pv0_2 pc0_2 a_0.InStep ph0_2 k_1 v7 hx8 hS6) ?_
  rintro _ h12 ⟨c10, rfl, hv11, hS13⟩
  simp only [run_mv, run_ops_nil, run_seq, run_reg, run_ret, put_at, put_no, ev_t, ev_c, reduceIte, Nat.reduceEqDiff, List.map_cons, List.map_nil]
  have he := some_inj hF9
  subst he
  simp only [end_ret1, put_at, put_no, ev_t, ev_c, reduceIte, Nat.reduceEqDiff, List.map_cons, List.map_nil]
  exact ⟨c10, by first | trivial | rfl, hv11, hS13⟩
theorem laws_markRowS_x {W : Nat → Bool} {h : Heap} {lo : Nat} {S0 : List Obj} (hW : ∀ b,
    lo ≤ b → W b = true) (k : Nat) (pv0 : XV) (pc0 : List Obj) (a_0 : List Row) (ph0 : SlF Row.cells 2 92 pv0 a_0 pc0) (k_1 : Int) (r : Int × (List Row))
    (hF : laws_markRowS k a_0 k_1 = some r) (hS : Sep h lo (pc0 ++ (S0))) : Ret E W 46 [pv0, .int .i64 k_1] h (fun v h' => ∃ ic0,
    v = .int .i64 r.1 ∧ SlF Row.cells 2 92 pv0 r.2 ic0 ∧ Sep h' lo (ic0 ++ (S0))) := by
  refine Ret.of (fn := x46) rfl (Run.of ?_)
  unfold laws_markRowS at hF
  have zf0 : argFr [pv0, .int .i64 k_1] 0 = pv0 := rfl
  have zf1 : argFr [pv0, .int .i64 k_1] 1 = .int .i64 k_1 := rfl
  generalize argFr [pv0, .int .i64 k_1] = fr0 at zf0 zf1 ⊢
  simp only [x46, run_seq, run_reg, run_mv, run_ops_nil, x46_8, put_at, put_no, ev_t, ev_c, reduceIte, Nat.reduceEqDiff, List.map_cons, List.map_nil]
  obtain ⟨oc13, hX15, hk16⟩ := jn_some hF
  simp only [x46_7]
  refine loopF_j (σ := Int × Int × (List Row)) (fun s50 => laws_markRowS_b1 s50.1 s50.2.1 s50.2.2) (fun s fr' h' => ∃ c9,
      fr' 0 = pv0 ∧ fr' 1 = .int .i64 s.1 ∧ fr' 5 = .int .i64 s.2.1 ∧ SlF Row.cells 2 92 pv0 s.2.2 c9 ∧ Sep h' lo (c9 ++ (S0))) hX15 ⟨pc0, by simp only [zf0, put_at, put_no, ev_t,
      ev_c, reduceIte, Nat.reduceEqDiff, List.map_cons, List.map_nil], by simp only [zf1, put_at, put_no, ev_t, ev_c, reduceIte, Nat.reduceEqDiff, List.map_cons, List.map_nil],
      by simp only [put_at, put_no, ev_t, ev_c, reduceIte, Nat.reduceEqDiff, List.map_cons, List.map_nil], ph0, hS⟩ (fun _ _ _ h => h) ?_ ?_
  · rintro ⟨s6, s7, s8⟩ fr25 h26 ⟨c9, f28, f29, f30, hv10, hS27⟩ oc14 hF17 hr18 Q19 hN20 hK21 hR22 hE23
    dsimp only at *
    unfold laws_markRowS_b1 at hF17
    simp only [x46_5, run_seq, run_reg, f30, run_mv, f28, run_len, put1_some, SlF.plen hv10, run_bin, xlss, run_ops_nil, run_cond, put_at, put_no, ev_t, ev_c, reduceIte,
        Nat.reduceEqDiff, List.map_cons, List.map_nil]
    refine cond_split (t := (decide (s7 < (List.length s8 : Int)))) (fun hc32 => ?_) (fun hc32 => ?_)
    · rw [iteT hc32] at hF17
      obtain ⟨x33, hx34, hF35⟩ := bind_some' hF17
      simp only [run_skip, x46_4, run_seq, run_block, x46_3, run_reg, f28, run_mv, f30, f29, run_ia, put_at, put_no, ev_t, ev_c, reduceIte, Nat.reduceEqDiff, List.map_cons,
          List.map_nil]
      obtain ⟨b36, hb37⟩ := SlF.isrow hv10 (geti_ne hx34)
      refine put1_eq (SlF.ia hv10 hb37 hx34) ?_
      simp only [run_fa, put1_some, Nat.reduceAdd, Nat.zero_add, Nat.add_zero, xfa_ptr, run_st, put_at, put_no, ev_t, ev_c, reduceIte, Nat.reduceEqDiff, List.map_cons,
          List.map_nil]
      refine put2_stF (f := Row.cells) (x' := (Row.mk s6 x33.Value)) (o := 0) hv10 hS27 hW hb37 hx34 (fun _ => rfl) rfl rfl (Nat.le_of_ble_eq_true rfl) rfl
          (fun c40 h38 hv41 hS39 => ?_)
      have hx42 := geti_set (x' := (Row.mk s6 x33.Value)) hx34
      simp only [put_no, run_ops_nil, x46_2, run_seq, run_reg, f29, run_mv, run_bin, put1_some, xadd, x46_1, f28, f30, run_ia, put_at, ev_t, ev_c, reduceIte, Nat.reduceEqDiff,
          List.map_cons, List.map_nil]
      refine put1_eq (SlF.ia hv41 hb37 hx42) ?_
      simp only [run_fa, put1_some, Nat.reduceAdd, Nat.zero_add, Nat.add_zero, xfa_ptr, run_st, put_at, put_no, ev_t, ev_c, reduceIte, Nat.reduceEqDiff, List.map_cons,
          List.map_nil]
      refine put2_stF (f := Row.cells) (x' := (Row.mk s6 (IntKind.wrap .i64 (s6 + 1)))) (o := 1) hv41 hS39 hW hb37 hx42 (fun _ => rfl) rfl rfl (Nat.le_of_ble_eq_true rfl) rfl
          (fun c45 h43 hv46 hS44 => ?_)
      rw [List.set_set] at hv46
      have hx47 := geti_set (x' := (Row.mk s6 (IntKind.wrap .i64 (s6 + 1)))) hx34
      simp only [put_no, run_ops_nil, run_reg, run_mv, run_bin, put1_some, xadd, run_blk, f30, run_nil, put_at, ev_t, ev_c, reduceIte, Nat.reduceEqDiff, List.map_cons,
          List.map_nil]
      have e48 := some_inj hF35
      exact hN20 _ _ _ e48.symm ⟨c45, by simp only [f28, put_at, put_no, ev_t, ev_c, reduceIte, Nat.reduceEqDiff, List.map_cons, List.map_nil], by simp only [put_at, put_no, ev_t,
          ev_c, reduceIte, Nat.reduceEqDiff, List.map_cons, List.map_nil], by simp only [put_at, put_no, ev_t, ev_c, reduceIte, Nat.reduceEqDiff, List.map_cons, List.map_nil],
          hv46, hS44⟩
    · rw [iteF hc32] at hF17
      simp only [run_exit, out_code, out_nil, put_at, put_no, ev_t, ev_c, reduceIte, Nat.reduceEqDiff, List.map_cons, List.map_nil]
      have e49 := some_inj hF17
      exact hK21 _ _ _ e49.symm ⟨c9, by simp only [f28, put_at, put_no, ev_t, ev_c, reduceIte, Nat.reduceEqDiff, List.map_cons, List.map_nil], by simp only [f29, put_at, put_no,
          ev_t, ev_c, reduceIte, Nat.reduceEqDiff, List.map_cons, List.map_nil], by simp only [f30, put_at, put_no, ev_t, ev_c, reduceIte, Nat.reduceEqDiff, List.map_cons,
          List.map_nil], hv10, hS27⟩
  · rintro ⟨s51, s52, s53⟩ fr56 h57 rfl ⟨c54, f59, f60, f61, hv55, hS58⟩
    dsimp only [jnO] at hk16
    dsimp only at *
    unfold laws_markRowS_j1 at hk16
    simp only [run_seq, run_reg, f60, run_mv, run_ops_nil, run_ret, put_at, put_no, ev_t, ev_c, reduceIte, Nat.reduceEqDiff, List.map_cons, List.map_nil]
    have he := some_inj hk16
    subst he
    simp only [end_ret1, put_at, put_no, ev_t, ev_c, reduceIte, Nat.reduceEqDiff, List.map_cons, List.map_nil]
    exact ⟨c54, by first | trivial | rfl, hv55, hS58⟩
theorem laws_markNodeS_x {W : Nat → Bool} {h : Heap} {lo : Nat} {S0 : List Obj} (hW : ∀ b,
    lo ≤ b → W b = true) (k : Nat) (pv0 : XV) (pc0 : List Obj) (a_0 : List Node) (ph0 : SlN Node.R 6 68 pv0 a_0 pc0) (k_1 : Int) (r : Int × (List Node))
    (hF : laws_markNodeS k a_0 k_1 = some r) (hS : Sep h lo (pc0 ++ (S0))) : Ret E W 45 [pv0, .int .i64 k_1] h (fun v h' => ∃ ic0,
    v = .int .i64 r.1 ∧ SlN Node.R 6 68 pv0 r.2 ic0 ∧ Sep h' lo (ic0 ++ (S0))) := by
  refine Ret.of (fn := x45) rfl (Run.of ?_)
  unfold laws_markNodeS at hF
  have zf0 : argFr [pv0, .int .i64 k_1] 0 = pv0 := rfl
  have zf1 : argFr [pv0, .int .i64 k_1] 1 = .int .i64 k_1 := rfl
  generalize argFr [pv0, .int .i64 k_1] = fr0 at zf0 zf1 ⊢
  simp only [x45, run_seq, run_reg, run_mv, run_ops_nil, x45_13, put_at, put_no, ev_t, ev_c, reduceIte, Nat.reduceEqDiff, List.map_cons, List.map_nil]
  obtain ⟨oc13, hX15, hk16⟩ := jn_some hF
  simp only [x45_12]
  refine loopF_j (σ := Int × Int × (List Node)) (fun s97 => laws_markNodeS_b1 k s97.1 s97.2.1 s97.2.2) (fun s fr' h' => ∃ c9,
      fr' 0 = pv0 ∧ fr' 1 = .int .i64 s.1 ∧ fr' 5 = .int .i64 s.2.1 ∧ SlN Node.R 6 68 pv0 s.2.2 c9 ∧ Sep h' lo (c9 ++ (S0))) hX15 ⟨pc0, by simp only [zf0, put_at, put_no, ev_t,
      ev_c, reduceIte, Nat.reduceEqDiff, List.map_cons, List.map_nil], by simp only [zf1, put_at, put_no, ev_t, ev_c, reduceIte, Nat.reduceEqDiff, List.map_cons, List.map_nil],
      by simp only [put_at, put_no, ev_t, ev_c, reduceIte, Nat.reduceEqDiff, List.map_cons, List.map_nil], ph0, hS⟩ (fun _ _ _ h => h) ?_ ?_
  · rintro ⟨s6, s7, s8⟩ fr25 h26 ⟨c9, f28, f29, f30, hv10, hS27⟩ oc14 hF17 hr18 Q19 hN20 hK21 hR22 hE23
    dsimp only at *
    unfold laws_markNodeS_b1 at hF17
    simp only [x45_10, run_seq, run_reg, f30, run_mv, f28, run_len, put1_some, SlN.len hv10, run_bin, xlss, run_ops_nil, run_cond, put_at, put_no, ev_t, ev_c, reduceIte,
        Nat.reduceEqDiff, List.map_cons, List.map_nil]
    refine cond_split (t := (decide (s7 < (List.length s8 : Int)))) (fun hc32 => ?_) (fun hc32 => ?_)
    · rw [iteT hc32] at hF17
      obtain ⟨x33, hx34, hF35⟩ := bind_some' hF17
      simp only [run_skip, x45_9, run_seq, run_block, x45_8, run_reg, f28, run_mv, f30, f29, run_ia, put_at, put_no, ev_t, ev_c, reduceIte, Nat.reduceEqDiff, List.map_cons,
          List.map_nil]
      obtain ⟨b36, hb37⟩ := SlN.isrow hv10 (geti_ne hx34)
      refine put1_eq (SlN.ia hv10 hb37 hx34) ?_
      obtain ⟨c40, cs41, os42, hv43, hR44, hS45⟩ := SlG.opn (SlN.toG hv10 hb37 Node.RO.len) hx34 hk_nil Node.RO.len hS27
      obtain ⟨v47, c48, v51, c52, v55, c56, hv49, hv53, hv57, rfl, rfl⟩ := hR44
      have hS46 := Sep.no3 hS45
      simp only [run_fa, put1_some, Nat.reduceAdd, Nat.zero_add, Nat.add_zero, xfa_ptr, run_st, put_at, put_no, ev_t, ev_c, reduceIte, Nat.reduceEqDiff, List.map_cons,
          List.map_nil]
      refine put2_stGx (us := [.int .i64 s6]) (o := 0) (cs' := [.int .i64 s6, .int .i64 x33.View.Leader, v47, v51, v55,
          .int .i64 x33.Told]) rfl hv43 rfl hx34 hS46 hW rfl rfl (Nat.le_of_ble_eq_true rfl) rfl (fun c59 h38 hv60 hS39 => ?_)
      simp only [put_no, run_ops_nil, x45_7, run_seq, run_reg, f29, run_mv, run_bin, put1_some, xadd, x45_6, f28, f30, run_ia, put_at, ev_t, ev_c, reduceIte, Nat.reduceEqDiff,
          List.map_cons, List.map_nil]
      refine put1_eq (SlG.ia hv60 hx34) ?_
      simp only [run_fa, put1_some, Nat.reduceAdd, Nat.zero_add, Nat.add_zero, xfa_ptr, run_st, put_at, put_no, ev_t, ev_c, reduceIte, Nat.reduceEqDiff, List.map_cons,
          List.map_nil]
      refine put2_stGx (us := [.int .i64 (IntKind.wrap .i64 (s6 + 1))]) (o := 1) (cs' := [.int .i64 s6, .int .i64 (IntKind.wrap .i64 (s6 + 1)), v47, v51, v55,
          .int .i64 x33.Told]) rfl hv60 rfl hx34 hS39 hW rfl rfl (Nat.le_of_ble_eq_true rfl) rfl (fun c63 h61 hv64 hS62 => ?_)
      simp only [put_no, run_ops_nil, x45_5, run_seq, run_reg, run_mv, run_bin, put1_some, xadd, x45_4, f28, f30, run_ia, put_at, ev_t, ev_c, reduceIte, Nat.reduceEqDiff,
          List.map_cons, List.map_nil]
      refine put1_eq (SlG.ia hv64 hx34) ?_
      simp only [run_fa, put1_some, Nat.reduceAdd, Nat.zero_add, Nat.add_zero, xfa_ptr, run_ld, put_at, put_no, ev_t, ev_c, reduceIte, Nat.reduceEqDiff, List.map_cons,
          List.map_nil]
      refine put1_eq (v := v47) ((SlG.ld (o := 2) hv64 rfl hx34 hS62 (Nat.le_of_ble_eq_true rfl)).trans rfl) ?_
      obtain ⟨v65, hx66, hF67⟩ := bind_some' hF35
      simp only [run_mv, run_call, put_at, put_no, ev_t, ev_c, reduceIte, Nat.reduceEqDiff, List.map_cons, List.map_nil]
      refine call0 rfl (laws_markIntS_x hW k v47 c48 x33.View.InStep hv49 (IntKind.wrap .i64 ((IntKind.wrap .i64 (s6 + 1)) + 1)) v65 hx66 (Sep.m1 hS62)) ?_
      rintro _ h70 ⟨c68, rfl, hv69, hS71⟩
      simp only [run_mv, run_ops_nil, x45_3, run_seq, run_reg, f28, f30, run_ia, put_at, put_no, ev_t, ev_c, reduceIte, Nat.reduceEqDiff, List.map_cons, List.map_nil]
      refine put1_eq (SlG.ia hv64 hx34) ?_
      simp only [run_fa, put1_some, Nat.reduceAdd, Nat.zero_add, Nat.add_zero, xfa_ptr, run_ld, put_at, put_no, ev_t, ev_c, reduceIte, Nat.reduceEqDiff, List.map_cons,
          List.map_nil]
      refine put1_eq (v := v51) ((SlG.ld (o := 3) hv64 rfl hx34 (Sep.m1 hS71) (Nat.le_of_ble_eq_true rfl)).trans rfl) ?_
      obtain ⟨v72, hx73, hF74⟩ := bind_some' hF67
      simp only [run_mv, run_call, put_at, put_no, ev_t, ev_c, reduceIte, Nat.reduceEqDiff, List.map_cons, List.map_nil]
      refine call0 rfl (laws_markRowS_x hW k v51 c52 x33.Log hv53 v65.1 v72 hx73 (Sep.m2 hS71)) ?_
      rintro _ h77 ⟨c75, rfl, hv76, hS78⟩
      simp only [run_mv, run_ops_nil, x45_2, run_seq, run_reg, f28, f30, run_ia, put_at, put_no, ev_t, ev_c, reduceIte, Nat.reduceEqDiff, List.map_cons, List.map_nil]
      refine put1_eq (SlG.ia hv64 hx34) ?_
      simp only [run_fa, put1_some, Nat.reduceAdd, Nat.zero_add, Nat.add_zero, xfa_ptr, run_ld, put_at, put_no, ev_t, ev_c, reduceIte, Nat.reduceEqDiff, List.map_cons,
          List.map_nil]
      refine put1_eq (v := v55) ((SlG.ld (o := 4) hv64 rfl hx34 (Sep.m2 hS78) (Nat.le_of_ble_eq_true rfl)).trans rfl) ?_
      obtain ⟨v79, hx80, hF81⟩ := bind_some' hF74
      simp only [run_mv, run_call, put_at, put_no, ev_t, ev_c, reduceIte, Nat.reduceEqDiff, List.map_cons, List.map_nil]
      refine call0 rfl (laws_markIntS_x hW k v55 c56 x33.Known hv57 v72.1 v79 hx80 (Sep.m3 hS78)) ?_
      rintro _ h84 ⟨c82, rfl, hv83, hS85⟩
      simp only [run_mv, run_ops_nil, x45_1, run_seq, run_reg, f28, f30, run_ia, put_at, put_no, ev_t, ev_c, reduceIte, Nat.reduceEqDiff, List.map_cons, List.map_nil]
      refine put1_eq (SlG.ia hv64 hx34) ?_
      simp only [run_fa, put1_some, Nat.reduceAdd, Nat.zero_add, Nat.add_zero, xfa_ptr, run_st, put_at, put_no, ev_t, ev_c, reduceIte, Nat.reduceEqDiff, List.map_cons,
          List.map_nil]
      refine put2_stGx (us := [.int .i64 v79.1]) (o := 5) (cs' := [.int .i64 s6, .int .i64 (IntKind.wrap .i64 (s6 + 1)), v47, v51, v55,
          .int .i64 v79.1]) rfl hv64 rfl hx34 (Sep.m3 hS85) hW rfl rfl (Nat.le_of_ble_eq_true rfl) rfl (fun c88 h86 hv89 hS87 => ?_)
      simp only [put_no, run_ops_nil, run_reg, run_mv, run_bin, put1_some, xadd, run_blk, f30, run_nil, put_at, ev_t, ev_c, reduceIte, Nat.reduceEqDiff, List.map_cons,
          List.map_nil]
      obtain ⟨c90, hv91, hS92⟩ := SlG.cls (e' := (Node.mk (View.mk s6 (IntKind.wrap .i64 (s6 + 1)) v65.2) v72.2 v79.2 v79.1)) (c := c88) (os := c68 ++ (c75 ++
          (c82))) hv89 rfl hx34 hk_nil (Node.RI (x := (Node.mk (View.mk s6 (IntKind.wrap .i64 (s6 + 1)) v65.2) v72.2 v79.2 v79.1)) hv69 hv76 hv83) (Sep.ni3 (c1 := c68)
          (c2 := c75) (c3 := c82) (Sep.m3 (Sep.m3 (Sep.m2 (Sep.m1 hS87)))))
      have hx93 := geti_set (x' := (Node.mk (View.mk s6 (IntKind.wrap .i64 (s6 + 1)) v65.2) v72.2 v79.2 v79.1)) hx34
      have hv94 := SlG.toN hv91
      have e95 := some_inj hF81
      exact hN20 _ _ _ e95.symm ⟨c90, by simp only [f28, put_at, put_no, ev_t, ev_c, reduceIte, Nat.reduceEqDiff, List.map_cons, List.map_nil], by simp only [put_at, put_no, ev_t,
          ev_c, reduceIte, Nat.reduceEqDiff, List.map_cons, List.map_nil], by simp only [put_at, put_no, ev_t, ev_c, reduceIte, Nat.reduceEqDiff, List.map_cons, List.map_nil],
          hv94, hS92⟩
    · rw [iteF hc32] at hF17
      simp only [run_exit, out_code, out_nil, put_at, put_no, ev_t, ev_c, reduceIte, Nat.reduceEqDiff, List.map_cons, List.map_nil]
      have e96 := some_inj hF17
      exact hK21 _ _ _ e96.symm ⟨c9, by simp only [f28, put_at, put_no, ev_t, ev_c, reduceIte, Nat.reduceEqDiff, List.map_cons, List.map_nil], by simp only [f29, put_at, put_no,
          ev_t, ev_c, reduceIte, Nat.reduceEqDiff, List.map_cons, List.map_nil], by simp only [f30, put_at, put_no, ev_t, ev_c, reduceIte, Nat.reduceEqDiff, List.map_cons,
          List.map_nil], hv10, hS27⟩
  · rintro ⟨s98, s99, s100⟩ fr103 h104 rfl ⟨c101, f106, f107, f108, hv102, hS105⟩
    dsimp only [jnO] at hk16
    dsimp only at *
    unfold laws_markNodeS_j1 at hk16
    simp only [run_seq, run_reg, f107, run_mv, run_ops_nil, run_ret, put_at, put_no, ev_t, ev_c, reduceIte, Nat.reduceEqDiff, List.map_cons, List.map_nil]
    have he := some_inj hk16
    subst he
    simp only [end_ret1, put_at, put_no, ev_t, ev_c, reduceIte, Nat.reduceEqDiff, List.map_cons, List.map_nil]
    exact ⟨c101, by first | trivial | rfl, hv102, hS105⟩
theorem laws_markCluster_x {W : Nat → Bool} {h : Heap} {lo : Nat} {S0 : List Obj} (hW : ∀ b,
    lo ≤ b → W b = true) (k : Nat) (a_0 : Cluster) (pv0_2 : XV) (pc0_2 : List Obj) (ph0_2 : SlF cI 1 3 pv0_2 a_0.Truth.InStep pc0_2) (pv0_3 : XV) (pc0_3 : List Obj)
    (ph0_3 : SlN Node.R 6 68 pv0_3 a_0.Nodes pc0_3) (pv0_4 : XV) (pc0_4 : List Obj) (ph0_4 : SlF Row.cells 2 92 pv0_4 a_0.Acked pc0_4) (k_1 : Int) (r : Int × Cluster)
    (hF : laws_markCluster k a_0 k_1 = some r) (hS : Sep h lo (pc0_2 ++ (pc0_3 ++ (pc0_4 ++ (S0))))) : Ret E W 12 [.agg [.int .i64 a_0.Truth.Epoch, .int .i64 a_0.Truth.Leader,
    pv0_2, pv0_3, pv0_4], .int .i64 k_1] h (fun v h' => ∃ ic0_2 ic0_3 ic0_4,
    v = .int .i64 r.1 ∧ SlF cI 1 3 pv0_2 r.2.Truth.InStep ic0_2 ∧ SlN Node.R 6 68 pv0_3 r.2.Nodes ic0_3 ∧ SlF Row.cells 2 92 pv0_4 r.2.Acked ic0_4 ∧ Sep h' lo (ic0_2 ++ (ic0_3 ++
    (ic0_4 ++ (S0))))) := by
  refine Ret.of (fn := x12) rfl (Run.of ?_)
  unfold laws_markCluster at hF
  have zf0 : argFr [.agg [.int .i64 a_0.Truth.Epoch, .int .i64 a_0.Truth.Leader, pv0_2, pv0_3, pv0_4], .int .i64 k_1] 0 = .agg [.int .i64 a_0.Truth.Epoch,
      .int .i64 a_0.Truth.Leader, pv0_2, pv0_3, pv0_4] := rfl
  have zf1 : argFr [.agg [.int .i64 a_0.Truth.Epoch, .int .i64 a_0.Truth.Leader, pv0_2, pv0_3, pv0_4], .int .i64 k_1] 1 = .int .i64 k_1 := rfl
  generalize argFr [.agg [.int .i64 a_0.Truth.Epoch, .int .i64 a_0.Truth.Leader, pv0_2, pv0_3, pv0_4], .int .i64 k_1] = fr0 at zf0 zf1 ⊢
  simp only [x12, run_seq, run_reg, run_box, zf0, put_at, put_no, ev_t, ev_c, reduceIte, Nat.reduceEqDiff, List.map_cons, List.map_nil]
  refine put2_boxC (cs := [.int .i64 a_0.Truth.Epoch, .int .i64 a_0.Truth.Leader, pv0_2, pv0_3,
      pv0_4]) hS rfl rfl (all_c rfl (all_c rfl (all_c (SlF.one ph0_2) (all_c (SlN.one ph0_3) (all_c (SlF.one ph0_4) all_n))))) (fun b1 h2 hS3 => ?_)
  simp only [run_mv, run_ops_nil, put_at, put_no, ev_t, ev_c, reduceIte, Nat.reduceEqDiff, List.map_cons, List.map_nil]
  refine frz_stepC hS3 hW (by simp only [put_at, put_no, ev_t, ev_c, reduceIte, Nat.reduceEqDiff, List.map_cons, List.map_nil]) (fun h5 hS6 => ?_)
  simp only [run_frz_nil, x12_3, run_seq, run_reg, run_fa, put1_some, Nat.reduceAdd, Nat.zero_add, Nat.add_zero, xfa_ref, run_ld, put_at, put_no, ev_t, ev_c, reduceIte,
      Nat.reduceEqDiff, List.map_cons, List.map_nil]
  refine put1_eq (v := .agg [.int .i64 a_0.Truth.Epoch, .int .i64 a_0.Truth.Leader, pv0_2]) rfl ?_
  obtain ⟨v7, hx8, hF9⟩ := bind_some' hF
  simp only [zf1, run_mv, run_call, put_at, put_no, ev_t, ev_c, reduceIte, Nat.reduceEqDiff, List.map_cons, List.map_nil]
  refine call0 rfl (laws_markView_x hW k a_0.Truth pv0_2 pc0_2 ph0_2 k_1 v7 hx8 hS6) ?_
  rintro _ h12 ⟨c10, rfl, hv11, hS13⟩
  simp only [run_mv, run_ops_nil, x12_2, run_seq, run_reg, run_fa, put1_some, Nat.reduceAdd, Nat.zero_add, Nat.add_zero, xfa_ref, run_ld, put_at, put_no, ev_t, ev_c, reduceIte,
      Nat.reduceEqDiff, List.map_cons, List.map_nil]
  refine put1_eq (v := pv0_3) rfl ?_
  obtain ⟨v14, hx15, hF16⟩ := bind_some' hF9
  simp only [run_mv, run_call, put_at, put_no, ev_t, ev_c, reduceIte, Nat.reduceEqDiff, List.map_cons, List.map_nil]
  refine call0 rfl (laws_markNodeS_x hW k pv0_3 pc0_3 a_0.Nodes ph0_3 v7.1 v14 hx15 (Sep.m1 hS13)) ?_
  rintro _ h19 ⟨c17, rfl, hv18, hS20⟩
  simp only [run_mv, run_ops_nil, x12_1, run_seq, run_reg, run_fa, put1_some, Nat.reduceAdd, Nat.zero_add, Nat.add_zero, xfa_ref, run_ld, put_at, put_no, ev_t, ev_c, reduceIte,
      Nat.reduceEqDiff, List.map_cons, List.map_nil]
  refine put1_eq (v := pv0_4) rfl ?_
  obtain ⟨v21, hx22, hF23⟩ := bind_some' hF16
  simp only [run_mv, run_call, put_at, put_no, ev_t, ev_c, reduceIte, Nat.reduceEqDiff, List.map_cons, List.map_nil]
  refine call0 rfl (laws_markRowS_x hW k pv0_4 pc0_4 a_0.Acked ph0_4 v14.1 v21 hx22 (Sep.m2 hS20)) ?_
  rintro _ h26 ⟨c24, rfl, hv25, hS27⟩
  simp only [run_mv, run_ops_nil, run_seq, run_reg, run_ret, put_at, put_no, ev_t, ev_c, reduceIte, Nat.reduceEqDiff, List.map_cons, List.map_nil]
  have he := some_inj hF23
  subst he
  simp only [end_ret1, put_at, put_no, ev_t, ev_c, reduceIte, Nat.reduceEqDiff, List.map_cons, List.map_nil]
  exact ⟨c10, c17, c24, by first | trivial | rfl, hv11, hv18, hv25, (Sep.m2 (Sep.m1 hS27))⟩
end Go.Proofs.Ytohofoampalhoaa.X
namespace Go.Proofs.Ytohofoampalhoaa.X
open Go
theorem laws_heldIntS_x {W : Nat → Bool} {h : Heap} (hW : ∀ b,
    h.length ≤ b → W b = true) (k : Nat) (a_0 : List Int) (k_1 : Int) (r : Int) (hF : laws_heldIntS k a_0 k_1 = some r) : Ret E W 22 [lst cI a_0,
    .int .i64 k_1] h (fun v h' => cut h.length h' E.sz false 9 v = some (.int .i64 r)) := by
  refine Ret.of (fn := x22) rfl (Run.of ?_)
  unfold laws_heldIntS at hF
  have zf0 : argFr [lst cI a_0, .int .i64 k_1] 0 = lst cI a_0 := rfl
  have zf1 : argFr [lst cI a_0, .int .i64 k_1] 1 = .int .i64 k_1 := rfl
  generalize argFr [lst cI a_0, .int .i64 k_1] = fr0 at zf0 zf1 ⊢
  have hS : Sep h h.length [] := Sep.nil h
  simp only [x22, run_seq, run_reg, run_mv, run_ops_nil, x22_6, put_at, put_no, ev_t, ev_c, reduceIte, Nat.reduceEqDiff, List.map_cons, List.map_nil]
  obtain ⟨oc7, hX9, hk10⟩ := jn_some hF
  simp only [x22_5]
  refine loopF_j (σ := Int × Int) (fun s36 => laws_heldIntS_b1 a_0 s36.1 s36.2)
      (fun s fr' h' => fr' 0 = lst cI a_0 ∧ fr' 1 = .int .i64 s.1 ∧ fr' 5 = .int .i64 s.2 ∧ Sep h' h.length ([])) hX9 ⟨by simp only [zf0, put_at, put_no, ev_t, ev_c, reduceIte,
      Nat.reduceEqDiff, List.map_cons, List.map_nil], by simp only [zf1, put_at, put_no, ev_t, ev_c, reduceIte, Nat.reduceEqDiff, List.map_cons, List.map_nil],
      by simp only [put_at, put_no, ev_t, ev_c, reduceIte, Nat.reduceEqDiff, List.map_cons, List.map_nil], hS⟩ (fun _ _ _ h => h) ?_ ?_
  · rintro ⟨s3, s4⟩ fr19 h20 ⟨f22, f23, f24, hS21⟩ oc8 hF11 hr12 Q13 hN14 hK15 hR16 hE17
    dsimp only at *
    unfold laws_heldIntS_b1 at hF11
    simp only [x22_3, run_seq, run_reg, f24, run_mv, f22, run_len, put1_some, xlen_lst, run_bin, xlss, run_ops_nil, run_cond, put_at, put_no, ev_t, ev_c, reduceIte,
        Nat.reduceEqDiff, List.map_cons, List.map_nil]
    refine cond_split (t := (decide (s4 < (List.length a_0 : Int)))) (fun hc26 => ?_) (fun hc26 => ?_)
    · rw [iteT hc26] at hF11
      obtain ⟨x27, hx28, hF29⟩ := bind_some' hF11
      simp only [run_skip, x22_2, run_seq, run_block, x22_1, run_reg, f22, run_mv, f24, run_ia, put_at, put_no, ev_t, ev_c, reduceIte, Nat.reduceEqDiff, List.map_cons,
          List.map_nil]
      refine put1_eq (v := .ref (cI x27) 0) (xia_lst hx28 rfl) ?_
      simp only [run_ld, put_at, put_no, ev_t, ev_c, reduceIte, Nat.reduceEqDiff, List.map_cons, List.map_nil]
      refine put1_eq (v := .int .i64 x27) rfl ?_
      simp only [f23, run_mv, run_bin, put1_some, xneq, run_ops_nil, run_cond, put_at, put_no, ev_t, ev_c, reduceIte, Nat.reduceEqDiff, List.map_cons, List.map_nil]
      refine cond_split (t := (decide (x27 ≠ s3))) (fun hc30 => ?_) (fun hc30 => ?_)
      · rw [iteT hc30] at hF29
        simp only [run_seq, run_reg, run_mv, run_ops_nil, run_ret, put_at, put_no, ev_t, ev_c, reduceIte, Nat.reduceEqDiff, List.map_cons, List.map_nil]
        have e31 := some_inj hF29
        subst e31
        have ho32 := hr12 _ rfl
        have hk33 := hk10
        rw [ho32] at hk33
        dsimp only [jnO] at hk33
        apply hR16
        have he := some_inj hk33
        subst he
        simp only [end_ret1, put_at, put_no, ev_t, ev_c, reduceIte, Nat.reduceEqDiff, List.map_cons, List.map_nil]
        exact rfl
      · rw [iteF hc30] at hF29
        simp only [run_skip, run_reg, f23, run_mv, run_bin, put1_some, xadd, run_ops_nil, run_blk, f24, run_nil, put_at, put_no, ev_t, ev_c, reduceIte, Nat.reduceEqDiff,
            List.map_cons, List.map_nil]
        have e34 := some_inj hF29
        exact hN14 _ _ _ e34.symm ⟨by simp only [f22, put_at, put_no, ev_t, ev_c, reduceIte, Nat.reduceEqDiff, List.map_cons, List.map_nil], by simp only [put_at, put_no, ev_t,
            ev_c, reduceIte, Nat.reduceEqDiff, List.map_cons, List.map_nil], by simp only [put_at, put_no, ev_t, ev_c, reduceIte, Nat.reduceEqDiff, List.map_cons, List.map_nil],
            hS21⟩
    · rw [iteF hc26] at hF11
      simp only [run_exit, out_code, out_nil, put_at, put_no, ev_t, ev_c, reduceIte, Nat.reduceEqDiff, List.map_cons, List.map_nil]
      have e35 := some_inj hF11
      exact hK15 _ _ _ e35.symm ⟨by simp only [f22, put_at, put_no, ev_t, ev_c, reduceIte, Nat.reduceEqDiff, List.map_cons, List.map_nil], by simp only [f23, put_at, put_no, ev_t,
          ev_c, reduceIte, Nat.reduceEqDiff, List.map_cons, List.map_nil], by simp only [f24, put_at, put_no, ev_t, ev_c, reduceIte, Nat.reduceEqDiff, List.map_cons,
          List.map_nil], hS21⟩
  · rintro ⟨s37, s38⟩ fr39 h40 rfl ⟨f42, f43, f44, hS41⟩
    dsimp only [jnO] at hk10
    dsimp only at *
    unfold laws_heldIntS_j1 at hk10
    simp only [run_seq, run_reg, f43, run_mv, run_ops_nil, run_ret, put_at, put_no, ev_t, ev_c, reduceIte, Nat.reduceEqDiff, List.map_cons, List.map_nil]
    have he := some_inj hk10
    subst he
    simp only [end_ret1, put_at, put_no, ev_t, ev_c, reduceIte, Nat.reduceEqDiff, List.map_cons, List.map_nil]
    exact rfl
theorem laws_heldView_x {W : Nat → Bool} {h : Heap} (hW : ∀ b,
    h.length ≤ b → W b = true) (k : Nat) (a_0 : View) (k_1 : Int) (r : Int) (hF : laws_heldView k a_0 k_1 = some r) : Ret E W 47 [.agg [.int .i64 a_0.Epoch, .int .i64 a_0.Leader,
    lst cI a_0.InStep], .int .i64 k_1] h (fun v h' => cut h.length h' E.sz false 9 v = some (.int .i64 r)) := by
  refine Ret.of (fn := x47) rfl (Run.of ?_)
  unfold laws_heldView at hF
  have zf0 : argFr [.agg [.int .i64 a_0.Epoch, .int .i64 a_0.Leader, lst cI a_0.InStep], .int .i64 k_1] 0 = .agg [.int .i64 a_0.Epoch, .int .i64 a_0.Leader,
      lst cI a_0.InStep] := rfl
  have zf1 : argFr [.agg [.int .i64 a_0.Epoch, .int .i64 a_0.Leader, lst cI a_0.InStep], .int .i64 k_1] 1 = .int .i64 k_1 := rfl
  generalize argFr [.agg [.int .i64 a_0.Epoch, .int .i64 a_0.Leader, lst cI a_0.InStep], .int .i64 k_1] = fr0 at zf0 zf1 ⊢
  have hS : Sep h h.length [] := Sep.nil h
  simp only [x47, run_seq, run_reg, run_box, zf0, put_at, put_no, ev_t, ev_c, reduceIte, Nat.reduceEqDiff, List.map_cons, List.map_nil]
  refine put2_boxC (cs := [.int .i64 a_0.Epoch, .int .i64 a_0.Leader, lst cI a_0.InStep]) hS rfl rfl rfl (fun b1 h2 hS3 => ?_)
  simp only [run_mv, run_ops_nil, put_at, put_no, ev_t, ev_c, reduceIte, Nat.reduceEqDiff, List.map_cons, List.map_nil]
  refine frz_stepC hS3 hW (by simp only [put_at, put_no, ev_t, ev_c, reduceIte, Nat.reduceEqDiff, List.map_cons, List.map_nil]) (fun h5 hS6 => ?_)
  simp only [run_frz_nil, x47_2, run_seq, run_reg, run_fa, put1_some, Nat.reduceAdd, Nat.zero_add, Nat.add_zero, xfa_ref, run_ld, put_at, put_no, ev_t, ev_c, reduceIte,
      Nat.reduceEqDiff, List.map_cons, List.map_nil]
  refine put1_eq (v := lst cI a_0.InStep) rfl ?_
  obtain ⟨v7, hx8, hF9⟩ := bind_some' hF
  simp only [zf1, run_mv, run_call, put_at, put_no, ev_t, ev_c, reduceIte, Nat.reduceEqDiff, List.map_cons, List.map_nil]
  refine call1 rfl (mapM1 snap_lst (mapM1 snap_int mapM0)) (laws_heldIntS_x (fun b hb => decide_eq_true hb) k a_0.InStep k_1 v7 hx8) ?_
  simp only [run_mv, run_ops_nil, x47_1, run_seq, run_reg, run_bin, put1_some, xlss, run_cond, put_at, put_no, ev_t, ev_c, reduceIte, Nat.reduceEqDiff, List.map_cons, List.map_nil]
  refine cond_split (t := (decide (v7 < 0))) (fun hc10 => ?_) (fun hc10 => ?_)
  · rw [iteT hc10] at hF9
    simp only [run_seq, run_reg, run_mv, run_ops_nil, run_ret, put_at, put_no, ev_t, ev_c, reduceIte, Nat.reduceEqDiff, List.map_cons, List.map_nil]
    have he := some_inj hF9
    subst he
    simp only [end_ret1, put_at, put_no, ev_t, ev_c, reduceIte, Nat.reduceEqDiff, List.map_cons, List.map_nil]
    exact rfl
  · rw [iteF hc10] at hF9
    simp only [run_skip, run_seq, run_reg, run_mv, run_ops_nil, run_ret, put_at, put_no, ev_t, ev_c, reduceIte, Nat.reduceEqDiff, List.map_cons, List.map_nil]
    have he := some_inj hF9
    subst he
    simp only [end_ret1, put_at, put_no, ev_t, ev_c, reduceIte, Nat.reduceEqDiff, List.map_cons, List.map_nil]
    exact rfl
theorem laws_heldRowS_x {W : Nat → Bool} {h : Heap} (hW : ∀ b,
    h.length ≤ b → W b = true) (k : Nat) (a_0 : List Row) (k_1 : Int) (r : Int) (hF : laws_heldRowS k a_0 k_1 = some r) : Ret E W 49 [lst Row.cells a_0,
    .int .i64 k_1] h (fun v h' => cut h.length h' E.sz false 9 v = some (.int .i64 r)) := by
  refine Ret.of (fn := x49) rfl (Run.of ?_)
  unfold laws_heldRowS at hF
  have zf0 : argFr [lst Row.cells a_0, .int .i64 k_1] 0 = lst Row.cells a_0 := rfl
  have zf1 : argFr [lst Row.cells a_0, .int .i64 k_1] 1 = .int .i64 k_1 := rfl
  generalize argFr [lst Row.cells a_0, .int .i64 k_1] = fr0 at zf0 zf1 ⊢
  have hS : Sep h h.length [] := Sep.nil h
  simp only [x49, run_seq, run_reg, run_mv, run_ops_nil, x49_8, put_at, put_no, ev_t, ev_c, reduceIte, Nat.reduceEqDiff, List.map_cons, List.map_nil]
  obtain ⟨oc7, hX9, hk10⟩ := jn_some hF
  simp only [x49_7]
  refine loopF_j (σ := Int × Int) (fun s43 => laws_heldRowS_b1 a_0 s43.1 s43.2)
      (fun s fr' h' => fr' 0 = lst Row.cells a_0 ∧ fr' 1 = .int .i64 s.1 ∧ fr' 5 = .int .i64 s.2 ∧ Sep h' h.length ([])) hX9 ⟨by simp only [zf0, put_at, put_no, ev_t, ev_c,
      reduceIte, Nat.reduceEqDiff, List.map_cons, List.map_nil], by simp only [zf1, put_at, put_no, ev_t, ev_c, reduceIte, Nat.reduceEqDiff, List.map_cons, List.map_nil],
      by simp only [put_at, put_no, ev_t, ev_c, reduceIte, Nat.reduceEqDiff, List.map_cons, List.map_nil], hS⟩ (fun _ _ _ h => h) ?_ ?_
  · rintro ⟨s3, s4⟩ fr19 h20 ⟨f22, f23, f24, hS21⟩ oc8 hF11 hr12 Q13 hN14 hK15 hR16 hE17
    dsimp only at *
    unfold laws_heldRowS_b1 at hF11
    simp only [x49_5, run_seq, run_reg, f24, run_mv, f22, run_len, put1_some, xlen_lst, run_bin, xlss, run_ops_nil, run_cond, put_at, put_no, ev_t, ev_c, reduceIte,
        Nat.reduceEqDiff, List.map_cons, List.map_nil]
    refine cond_split (t := (decide (s4 < (List.length a_0 : Int)))) (fun hc26 => ?_) (fun hc26 => ?_)
    · rw [iteT hc26] at hF11
      obtain ⟨x27, hx28, hF29⟩ := bind_some' hF11
      simp only [run_skip, x49_4, run_seq, run_block, x49_3, run_reg, f22, run_mv, f24, run_ia, put_at, put_no, ev_t, ev_c, reduceIte, Nat.reduceEqDiff, List.map_cons,
          List.map_nil]
      refine put1_eq (v := .ref (Row.cells x27) 0) (xia_lst hx28 rfl) ?_
      simp only [run_fa, put1_some, Nat.reduceAdd, Nat.zero_add, Nat.add_zero, xfa_ref, run_ld, put_at, put_no, ev_t, ev_c, reduceIte, Nat.reduceEqDiff, List.map_cons,
          List.map_nil]
      refine put1_eq (v := .int .i64 x27.Epoch) rfl ?_
      simp only [f23, run_mv, run_bin, put1_some, xneq, run_ops_nil, run_cond, put_at, put_no, ev_t, ev_c, reduceIte, Nat.reduceEqDiff, List.map_cons, List.map_nil]
      refine cond_split (t := (decide (x27.Epoch ≠ s3))) (fun hc30 => ?_) (fun hc30 => ?_)
      · rw [iteT hc30] at hF29
        simp only [run_seq, run_reg, run_mv, run_ops_nil, run_ret, put_at, put_no, ev_t, ev_c, reduceIte, Nat.reduceEqDiff, List.map_cons, List.map_nil]
        have e31 := some_inj hF29
        subst e31
        have ho32 := hr12 _ rfl
        have hk33 := hk10
        rw [ho32] at hk33
        dsimp only [jnO] at hk33
        apply hR16
        have he := some_inj hk33
        subst he
        simp only [end_ret1, put_at, put_no, ev_t, ev_c, reduceIte, Nat.reduceEqDiff, List.map_cons, List.map_nil]
        exact rfl
      · rw [iteF hc30] at hF29
        obtain ⟨x34, hx35, hF36⟩ := bind_some' hF29
        simp only [run_skip, x49_2, run_seq, run_reg, f23, run_mv, run_bin, put1_some, xadd, run_ops_nil, x49_1, f22, f24, run_ia, put_at, put_no, ev_t, ev_c, reduceIte,
            Nat.reduceEqDiff, List.map_cons, List.map_nil]
        refine put1_eq (v := .ref (Row.cells x34) 0) (xia_lst hx35 rfl) ?_
        simp only [run_fa, put1_some, Nat.reduceAdd, Nat.zero_add, Nat.add_zero, xfa_ref, run_ld, put_at, put_no, ev_t, ev_c, reduceIte, Nat.reduceEqDiff, List.map_cons,
            List.map_nil]
        refine put1_eq (v := .int .i64 x34.Value) rfl ?_
        simp only [run_mv, run_bin, put1_some, xneq, run_ops_nil, run_cond, put_at, put_no, ev_t, ev_c, reduceIte, Nat.reduceEqDiff, List.map_cons, List.map_nil]
        refine cond_split (t := (decide (x34.Value ≠ (IntKind.wrap .i64 (s3 + 1))))) (fun hc37 => ?_) (fun hc37 => ?_)
        · rw [iteT hc37] at hF36
          simp only [run_seq, run_reg, run_mv, run_ops_nil, run_ret, put_at, put_no, ev_t, ev_c, reduceIte, Nat.reduceEqDiff, List.map_cons, List.map_nil]
          have e38 := some_inj hF36
          subst e38
          have ho39 := hr12 _ rfl
          have hk40 := hk10
          rw [ho39] at hk40
          dsimp only [jnO] at hk40
          apply hR16
          have he := some_inj hk40
          subst he
          simp only [end_ret1, put_at, put_no, ev_t, ev_c, reduceIte, Nat.reduceEqDiff, List.map_cons, List.map_nil]
          exact rfl
        · rw [iteF hc37] at hF36
          simp only [run_skip, run_reg, run_mv, run_bin, put1_some, xadd, run_ops_nil, run_blk, f24, run_nil, put_at, put_no, ev_t, ev_c, reduceIte, Nat.reduceEqDiff,
              List.map_cons, List.map_nil]
          have e41 := some_inj hF36
          exact hN14 _ _ _ e41.symm ⟨by simp only [f22, put_at, put_no, ev_t, ev_c, reduceIte, Nat.reduceEqDiff, List.map_cons, List.map_nil], by simp only [put_at, put_no, ev_t,
              ev_c, reduceIte, Nat.reduceEqDiff, List.map_cons, List.map_nil], by simp only [put_at, put_no, ev_t, ev_c, reduceIte, Nat.reduceEqDiff, List.map_cons, List.map_nil],
              hS21⟩
    · rw [iteF hc26] at hF11
      simp only [run_exit, out_code, out_nil, put_at, put_no, ev_t, ev_c, reduceIte, Nat.reduceEqDiff, List.map_cons, List.map_nil]
      have e42 := some_inj hF11
      exact hK15 _ _ _ e42.symm ⟨by simp only [f22, put_at, put_no, ev_t, ev_c, reduceIte, Nat.reduceEqDiff, List.map_cons, List.map_nil], by simp only [f23, put_at, put_no, ev_t,
          ev_c, reduceIte, Nat.reduceEqDiff, List.map_cons, List.map_nil], by simp only [f24, put_at, put_no, ev_t, ev_c, reduceIte, Nat.reduceEqDiff, List.map_cons,
          List.map_nil], hS21⟩
  · rintro ⟨s44, s45⟩ fr46 h47 rfl ⟨f49, f50, f51, hS48⟩
    dsimp only [jnO] at hk10
    dsimp only at *
    unfold laws_heldRowS_j1 at hk10
    simp only [run_seq, run_reg, f50, run_mv, run_ops_nil, run_ret, put_at, put_no, ev_t, ev_c, reduceIte, Nat.reduceEqDiff, List.map_cons, List.map_nil]
    have he := some_inj hk10
    subst he
    simp only [end_ret1, put_at, put_no, ev_t, ev_c, reduceIte, Nat.reduceEqDiff, List.map_cons, List.map_nil]
    exact rfl
theorem laws_heldNodeS_x {W : Nat → Bool} {h : Heap} (hW : ∀ b,
    h.length ≤ b → W b = true) (k : Nat) (v_0 : List Node) (v_1 : Int) (r : Int) (hF : laws_heldNodeS k v_0 v_1 = some r) : Ret E W 48 [lst Node.cells v_0,
    .int .i64 v_1] h (fun v h' => cut h.length h' E.sz false 9 v = some (.int .i64 r)) := by
  refine Ret.of (fn := x48) rfl (Run.of ?_)
  unfold laws_heldNodeS at hF
  have zf0 : argFr [lst Node.cells v_0, .int .i64 v_1] 0 = lst Node.cells v_0 := rfl
  have zf1 : argFr [lst Node.cells v_0, .int .i64 v_1] 1 = .int .i64 v_1 := rfl
  generalize argFr [lst Node.cells v_0, .int .i64 v_1] = fr0 at zf0 zf1 ⊢
  have hS : Sep h h.length [] := Sep.nil h
  simp only [x48, run_seq, run_reg, run_mv, run_ops_nil, x48_16, put_at, put_no, ev_t, ev_c, reduceIte, Nat.reduceEqDiff, List.map_cons, List.map_nil]
  obtain ⟨oc7, hX9, hk10⟩ := jn_some hF
  simp only [x48_15]
  refine loopF_j (σ := Int × Int) (fun s80 => laws_heldNodeS_b1 k v_0 s80.1 s80.2)
      (fun s fr' h' => fr' 0 = lst Node.cells v_0 ∧ fr' 1 = .int .i64 s.1 ∧ fr' 5 = .int .i64 s.2 ∧ Sep h' h.length ([])) hX9 ⟨by simp only [zf0, put_at, put_no, ev_t, ev_c,
      reduceIte, Nat.reduceEqDiff, List.map_cons, List.map_nil], by simp only [zf1, put_at, put_no, ev_t, ev_c, reduceIte, Nat.reduceEqDiff, List.map_cons, List.map_nil],
      by simp only [put_at, put_no, ev_t, ev_c, reduceIte, Nat.reduceEqDiff, List.map_cons, List.map_nil], hS⟩ (fun _ _ _ h => h) ?_ ?_
  · rintro ⟨s3, s4⟩ fr19 h20 ⟨f22, f23, f24, hS21⟩ oc8 hF11 hr12 Q13 hN14 hK15 hR16 hE17
    dsimp only at *
    unfold laws_heldNodeS_b1 at hF11
    simp only [x48_13, run_seq, run_reg, f24, run_mv, f22, run_len, put1_some, xlen_lst, run_bin, xlss, run_ops_nil, run_cond, put_at, put_no, ev_t, ev_c, reduceIte,
        Nat.reduceEqDiff, List.map_cons, List.map_nil]
    refine cond_split (t := (decide (s4 < (List.length v_0 : Int)))) (fun hc26 => ?_) (fun hc26 => ?_)
    · rw [iteT hc26] at hF11
      obtain ⟨x27, hx28, hF29⟩ := bind_some' hF11
      simp only [run_skip, x48_12, run_seq, run_block, x48_11, run_reg, f22, run_mv, f24, run_ia, put_at, put_no, ev_t, ev_c, reduceIte, Nat.reduceEqDiff, List.map_cons,
          List.map_nil]
      refine put1_eq (v := .ref (Node.cells x27) 0) (xia_lst hx28 rfl) ?_
      simp only [run_fa, put1_some, Nat.reduceAdd, Nat.zero_add, Nat.add_zero, xfa_ref, run_ld, put_at, put_no, ev_t, ev_c, reduceIte, Nat.reduceEqDiff, List.map_cons,
          List.map_nil]
      refine put1_eq (v := .int .i64 x27.View.Epoch) rfl ?_
      simp only [f23, run_mv, run_bin, put1_some, xneq, run_ops_nil, run_cond, put_at, put_no, ev_t, ev_c, reduceIte, Nat.reduceEqDiff, List.map_cons, List.map_nil]
      refine cond_split (t := (decide (x27.View.Epoch ≠ s3))) (fun hc30 => ?_) (fun hc30 => ?_)
      · rw [iteT hc30] at hF29
        simp only [run_seq, run_reg, run_mv, run_ops_nil, run_ret, put_at, put_no, ev_t, ev_c, reduceIte, Nat.reduceEqDiff, List.map_cons, List.map_nil]
        have e31 := some_inj hF29
        subst e31
        have ho32 := hr12 _ rfl
        have hk33 := hk10
        rw [ho32] at hk33
        dsimp only [jnO] at hk33
        apply hR16
        have he := some_inj hk33
        subst he
        simp only [end_ret1, put_at, put_no, ev_t, ev_c, reduceIte, Nat.reduceEqDiff, List.map_cons, List.map_nil]
        exact rfl
      · rw [iteF hc30] at hF29
        obtain ⟨x34, hx35, hF36⟩ := bind_some' hF29
        simp only [run_skip, x48_10, run_seq, run_reg, f23, run_mv, run_bin, put1_some, xadd, run_ops_nil, x48_9, f22, f24, run_ia, put_at, put_no, ev_t, ev_c, reduceIte,
            Nat.reduceEqDiff, List.map_cons, List.map_nil]
        refine put1_eq (v := .ref (Node.cells x34) 0) (xia_lst hx35 rfl) ?_
        simp only [run_fa, put1_some, Nat.reduceAdd, Nat.zero_add, Nat.add_zero, xfa_ref, run_ld, put_at, put_no, ev_t, ev_c, reduceIte, Nat.reduceEqDiff, List.map_cons,
            List.map_nil]
        refine put1_eq (v := .int .i64 x34.View.Leader) rfl ?_
        simp only [run_mv, run_bin, put1_some, xneq, run_ops_nil, run_cond, put_at, put_no, ev_t, ev_c, reduceIte, Nat.reduceEqDiff, List.map_cons, List.map_nil]
        refine cond_split (t := (decide (x34.View.Leader ≠ (IntKind.wrap .i64 (s3 + 1))))) (fun hc37 => ?_) (fun hc37 => ?_)
        · rw [iteT hc37] at hF36
          simp only [run_seq, run_reg, run_mv, run_ops_nil, run_ret, put_at, put_no, ev_t, ev_c, reduceIte, Nat.reduceEqDiff, List.map_cons, List.map_nil]
          have e38 := some_inj hF36
          subst e38
          have ho39 := hr12 _ rfl
          have hk40 := hk10
          rw [ho39] at hk40
          dsimp only [jnO] at hk40
          apply hR16
          have he := some_inj hk40
          subst he
          simp only [end_ret1, put_at, put_no, ev_t, ev_c, reduceIte, Nat.reduceEqDiff, List.map_cons, List.map_nil]
          exact rfl
        · rw [iteF hc37] at hF36
          obtain ⟨x41, hx42, hF43⟩ := bind_some' hF36
          simp only [run_skip, x48_8, run_seq, run_reg, run_mv, run_bin, put1_some, xadd, run_ops_nil, x48_7, f22, f24, run_ia, put_at, put_no, ev_t, ev_c, reduceIte,
              Nat.reduceEqDiff, List.map_cons, List.map_nil]
          refine put1_eq (v := .ref (Node.cells x41) 0) (xia_lst hx42 rfl) ?_
          simp only [run_fa, put1_some, Nat.reduceAdd, Nat.zero_add, Nat.add_zero, xfa_ref, run_ld, put_at, put_no, ev_t, ev_c, reduceIte, Nat.reduceEqDiff, List.map_cons,
              List.map_nil]
          refine put1_eq (v := lst cI x41.View.InStep) rfl ?_
          obtain ⟨v44, hx45, hF46⟩ := bind_some' hF43
          simp only [run_mv, run_call, put_at, put_no, ev_t, ev_c, reduceIte, Nat.reduceEqDiff, List.map_cons, List.map_nil]
          refine call1 rfl (mapM1 snap_lst (mapM1 snap_int mapM0)) (laws_heldIntS_x (fun b hb => decide_eq_true hb) k x41.View.InStep (IntKind.wrap .i64 ((IntKind.wrap .i64
              (s3 + 1)) + 1)) v44 hx45) ?_
          simp only [run_mv, run_ops_nil, x48_6, run_seq, run_reg, run_bin, put1_some, xlss, run_cond, put_at, put_no, ev_t, ev_c, reduceIte, Nat.reduceEqDiff, List.map_cons,
              List.map_nil]
          refine cond_split (t := (decide (v44 < 0))) (fun hc47 => ?_) (fun hc47 => ?_)
          · rw [iteT hc47] at hF46
            simp only [run_seq, run_reg, run_mv, run_ops_nil, run_ret, put_at, put_no, ev_t, ev_c, reduceIte, Nat.reduceEqDiff, List.map_cons, List.map_nil]
            have e48 := some_inj hF46
            subst e48
            have ho49 := hr12 _ rfl
            have hk50 := hk10
            rw [ho49] at hk50
            dsimp only [jnO] at hk50
            apply hR16
            have he := some_inj hk50
            subst he
            simp only [end_ret1, put_at, put_no, ev_t, ev_c, reduceIte, Nat.reduceEqDiff, List.map_cons, List.map_nil]
            exact rfl
          · rw [iteF hc47] at hF46
            obtain ⟨x51, hx52, hF53⟩ := bind_some' hF46
            simp only [run_skip, x48_5, run_seq, run_reg, f22, run_mv, f24, run_ia, put_at, put_no, ev_t, ev_c, reduceIte, Nat.reduceEqDiff, List.map_cons, List.map_nil]
            refine put1_eq (v := .ref (Node.cells x51) 0) (xia_lst hx52 rfl) ?_
            simp only [run_fa, put1_some, Nat.reduceAdd, Nat.zero_add, Nat.add_zero, xfa_ref, run_ld, put_at, put_no, ev_t, ev_c, reduceIte, Nat.reduceEqDiff, List.map_cons,
                List.map_nil]
            refine put1_eq (v := lst Row.cells x51.Log) rfl ?_
            obtain ⟨v54, hx55, hF56⟩ := bind_some' hF53
            simp only [run_mv, run_call, put_at, put_no, ev_t, ev_c, reduceIte, Nat.reduceEqDiff, List.map_cons, List.map_nil]
            refine call1 rfl (mapM1 snap_lst (mapM1 snap_int mapM0)) (laws_heldRowS_x (fun b hb => decide_eq_true hb) k x51.Log v44 v54 hx55) ?_
            simp only [run_mv, run_ops_nil, x48_4, run_seq, run_reg, run_bin, put1_some, xlss, run_cond, put_at, put_no, ev_t, ev_c, reduceIte, Nat.reduceEqDiff, List.map_cons,
                List.map_nil]
            refine cond_split (t := (decide (v54 < 0))) (fun hc57 => ?_) (fun hc57 => ?_)
            · rw [iteT hc57] at hF56
              simp only [run_seq, run_reg, run_mv, run_ops_nil, run_ret, put_at, put_no, ev_t, ev_c, reduceIte, Nat.reduceEqDiff, List.map_cons, List.map_nil]
              have e58 := some_inj hF56
              subst e58
              have ho59 := hr12 _ rfl
              have hk60 := hk10
              rw [ho59] at hk60
              dsimp only [jnO] at hk60
              apply hR16
              have he := some_inj hk60
              subst he
              simp only [end_ret1, put_at, put_no, ev_t, ev_c, reduceIte, Nat.reduceEqDiff, List.map_cons, List.map_nil]
              exact rfl
            · rw [iteF hc57] at hF56
              obtain ⟨x61, hx62, hF63⟩ := bind_some' hF56
              simp only [run_skip, x48_3, run_seq, run_reg, f22, run_mv, f24, run_ia, put_at, put_no, ev_t, ev_c, reduceIte, Nat.reduceEqDiff, List.map_cons, List.map_nil]
              refine put1_eq (v := .ref (Node.cells x61) 0) (xia_lst hx62 rfl) ?_
              simp only [run_fa, put1_some, Nat.reduceAdd, Nat.zero_add, Nat.add_zero, xfa_ref, run_ld, put_at, put_no, ev_t, ev_c, reduceIte, Nat.reduceEqDiff, List.map_cons,
                  List.map_nil]
              refine put1_eq (v := lst cI x61.Known) rfl ?_
              obtain ⟨v64, hx65, hF66⟩ := bind_some' hF63
              simp only [run_mv, run_call, put_at, put_no, ev_t, ev_c, reduceIte, Nat.reduceEqDiff, List.map_cons, List.map_nil]
              refine call1 rfl (mapM1 snap_lst (mapM1 snap_int mapM0)) (laws_heldIntS_x (fun b hb => decide_eq_true hb) k x61.Known v54 v64 hx65) ?_
              simp only [run_mv, run_ops_nil, x48_2, run_seq, run_reg, run_bin, put1_some, xlss, run_cond, put_at, put_no, ev_t, ev_c, reduceIte, Nat.reduceEqDiff, List.map_cons,
                  List.map_nil]
              refine cond_split (t := (decide (v64 < 0))) (fun hc67 => ?_) (fun hc67 => ?_)
              · rw [iteT hc67] at hF66
                simp only [run_seq, run_reg, run_mv, run_ops_nil, run_ret, put_at, put_no, ev_t, ev_c, reduceIte, Nat.reduceEqDiff, List.map_cons, List.map_nil]
                have e68 := some_inj hF66
                subst e68
                have ho69 := hr12 _ rfl
                have hk70 := hk10
                rw [ho69] at hk70
                dsimp only [jnO] at hk70
                apply hR16
                have he := some_inj hk70
                subst he
                simp only [end_ret1, put_at, put_no, ev_t, ev_c, reduceIte, Nat.reduceEqDiff, List.map_cons, List.map_nil]
                exact rfl
              · rw [iteF hc67] at hF66
                obtain ⟨x71, hx72, hF73⟩ := bind_some' hF66
                simp only [run_skip, x48_1, run_seq, run_reg, f22, run_mv, f24, run_ia, put_at, put_no, ev_t, ev_c, reduceIte, Nat.reduceEqDiff, List.map_cons, List.map_nil]
                refine put1_eq (v := .ref (Node.cells x71) 0) (xia_lst hx72 rfl) ?_
                simp only [run_fa, put1_some, Nat.reduceAdd, Nat.zero_add, Nat.add_zero, xfa_ref, run_ld, put_at, put_no, ev_t, ev_c, reduceIte, Nat.reduceEqDiff, List.map_cons,
                    List.map_nil]
                refine put1_eq (v := .int .i64 x71.Told) rfl ?_
                simp only [run_mv, run_bin, put1_some, xneq, run_ops_nil, run_cond, put_at, put_no, ev_t, ev_c, reduceIte, Nat.reduceEqDiff, List.map_cons, List.map_nil]
                refine cond_split (t := (decide (x71.Told ≠ v64))) (fun hc74 => ?_) (fun hc74 => ?_)
                · rw [iteT hc74] at hF73
                  simp only [run_seq, run_reg, run_mv, run_ops_nil, run_ret, put_at, put_no, ev_t, ev_c, reduceIte, Nat.reduceEqDiff, List.map_cons, List.map_nil]
                  have e75 := some_inj hF73
                  subst e75
                  have ho76 := hr12 _ rfl
                  have hk77 := hk10
                  rw [ho76] at hk77
                  dsimp only [jnO] at hk77
                  apply hR16
                  have he := some_inj hk77
                  subst he
                  simp only [end_ret1, put_at, put_no, ev_t, ev_c, reduceIte, Nat.reduceEqDiff, List.map_cons, List.map_nil]
                  exact rfl
                · rw [iteF hc74] at hF73
                  simp only [run_skip, run_reg, run_mv, run_bin, put1_some, xadd, run_ops_nil, run_blk, f24, run_nil, put_at, put_no, ev_t, ev_c, reduceIte, Nat.reduceEqDiff,
                      List.map_cons, List.map_nil]
                  have e78 := some_inj hF73
                  exact hN14 _ _ _ e78.symm ⟨by simp only [f22, put_at, put_no, ev_t, ev_c, reduceIte, Nat.reduceEqDiff, List.map_cons, List.map_nil], by simp only [put_at,
                      put_no, ev_t, ev_c, reduceIte, Nat.reduceEqDiff, List.map_cons, List.map_nil], by simp only [put_at, put_no, ev_t, ev_c, reduceIte, Nat.reduceEqDiff,
                      List.map_cons, List.map_nil], hS21⟩
    · rw [iteF hc26] at hF11
      simp only [run_exit, out_code, out_nil, put_at, put_no, ev_t, ev_c, reduceIte, Nat.reduceEqDiff, List.map_cons, List.map_nil]
      have e79 := some_inj hF11
      exact hK15 _ _ _ e79.symm ⟨by simp only [f22, put_at, put_no, ev_t, ev_c, reduceIte, Nat.reduceEqDiff, List.map_cons, List.map_nil], by simp only [f23, put_at, put_no, ev_t,
          ev_c, reduceIte, Nat.reduceEqDiff, List.map_cons, List.map_nil], by simp only [f24, put_at, put_no, ev_t, ev_c, reduceIte, Nat.reduceEqDiff, List.map_cons,
          List.map_nil], hS21⟩
  · rintro ⟨s81, s82⟩ fr83 h84 rfl ⟨f86, f87, f88, hS85⟩
    dsimp only [jnO] at hk10
    dsimp only at *
    unfold laws_heldNodeS_j1 at hk10
    simp only [run_seq, run_reg, f87, run_mv, run_ops_nil, run_ret, put_at, put_no, ev_t, ev_c, reduceIte, Nat.reduceEqDiff, List.map_cons, List.map_nil]
    have he := some_inj hk10
    subst he
    simp only [end_ret1, put_at, put_no, ev_t, ev_c, reduceIte, Nat.reduceEqDiff, List.map_cons, List.map_nil]
    exact rfl
theorem laws_heldCluster_x {W : Nat → Bool} {h : Heap} (hW : ∀ b,
    h.length ≤ b → W b = true) (k : Nat) (a_0 : Cluster) (k_1 : Int) (r : Int) (hF : laws_heldCluster k a_0 k_1 = some r) : Ret E W 13 [.agg [.int .i64 a_0.Truth.Epoch,
    .int .i64 a_0.Truth.Leader, lst cI a_0.Truth.InStep, lst Node.cells a_0.Nodes, lst Row.cells a_0.Acked],
    .int .i64 k_1] h (fun v h' => cut h.length h' E.sz false 9 v = some (.int .i64 r)) := by
  refine Ret.of (fn := x13) rfl (Run.of ?_)
  unfold laws_heldCluster at hF
  have zf0 : argFr [.agg [.int .i64 a_0.Truth.Epoch, .int .i64 a_0.Truth.Leader, lst cI a_0.Truth.InStep, lst Node.cells a_0.Nodes, lst Row.cells a_0.Acked],
      .int .i64 k_1] 0 = .agg [.int .i64 a_0.Truth.Epoch, .int .i64 a_0.Truth.Leader, lst cI a_0.Truth.InStep, lst Node.cells a_0.Nodes, lst Row.cells a_0.Acked] := rfl
  have zf1 : argFr [.agg [.int .i64 a_0.Truth.Epoch, .int .i64 a_0.Truth.Leader, lst cI a_0.Truth.InStep, lst Node.cells a_0.Nodes, lst Row.cells a_0.Acked],
      .int .i64 k_1] 1 = .int .i64 k_1 := rfl
  generalize argFr [.agg [.int .i64 a_0.Truth.Epoch, .int .i64 a_0.Truth.Leader, lst cI a_0.Truth.InStep, lst Node.cells a_0.Nodes, lst Row.cells a_0.Acked],
      .int .i64 k_1] = fr0 at zf0 zf1 ⊢
  have hS : Sep h h.length [] := Sep.nil h
  simp only [x13, run_seq, run_reg, run_box, zf0, put_at, put_no, ev_t, ev_c, reduceIte, Nat.reduceEqDiff, List.map_cons, List.map_nil]
  refine put2_boxC (cs := [.int .i64 a_0.Truth.Epoch, .int .i64 a_0.Truth.Leader, lst cI a_0.Truth.InStep, lst Node.cells a_0.Nodes,
      lst Row.cells a_0.Acked]) hS rfl rfl rfl (fun b1 h2 hS3 => ?_)
  simp only [run_mv, run_ops_nil, put_at, put_no, ev_t, ev_c, reduceIte, Nat.reduceEqDiff, List.map_cons, List.map_nil]
  refine frz_stepC hS3 hW (by simp only [put_at, put_no, ev_t, ev_c, reduceIte, Nat.reduceEqDiff, List.map_cons, List.map_nil]) (fun h5 hS6 => ?_)
  simp only [run_frz_nil, x13_6, run_seq, run_reg, run_fa, put1_some, Nat.reduceAdd, Nat.zero_add, Nat.add_zero, xfa_ref, run_ld, put_at, put_no, ev_t, ev_c, reduceIte,
      Nat.reduceEqDiff, List.map_cons, List.map_nil]
  refine put1_eq (v := .agg [.int .i64 a_0.Truth.Epoch, .int .i64 a_0.Truth.Leader, lst cI a_0.Truth.InStep]) rfl ?_
  obtain ⟨v7, hx8, hF9⟩ := bind_some' hF
  simp only [zf1, run_mv, run_call, put_at, put_no, ev_t, ev_c, reduceIte, Nat.reduceEqDiff, List.map_cons, List.map_nil]
  refine call1 rfl (mapM1 (snap_agg (mapM1 snap_int (mapM1 snap_int (mapM1 snap_lst mapM0)))) (mapM1 snap_int mapM0)) (laws_heldView_x
      (fun b hb => decide_eq_true hb) k a_0.Truth k_1 v7 hx8) ?_
  simp only [run_mv, run_ops_nil, x13_5, run_seq, run_reg, run_bin, put1_some, xlss, run_cond, put_at, put_no, ev_t, ev_c, reduceIte, Nat.reduceEqDiff, List.map_cons, List.map_nil]
  refine cond_split (t := (decide (v7 < 0))) (fun hc10 => ?_) (fun hc10 => ?_)
  · rw [iteT hc10] at hF9
    simp only [run_seq, run_reg, run_mv, run_ops_nil, run_ret, put_at, put_no, ev_t, ev_c, reduceIte, Nat.reduceEqDiff, List.map_cons, List.map_nil]
    have he := some_inj hF9
    subst he
    simp only [end_ret1, put_at, put_no, ev_t, ev_c, reduceIte, Nat.reduceEqDiff, List.map_cons, List.map_nil]
    exact rfl
  · rw [iteF hc10] at hF9
    simp only [run_skip, x13_4, run_seq, run_reg, run_fa, put1_some, Nat.reduceAdd, Nat.zero_add, Nat.add_zero, xfa_ref, run_ld, put_at, put_no, ev_t, ev_c, reduceIte,
        Nat.reduceEqDiff, List.map_cons, List.map_nil]
    refine put1_eq (v := lst Node.cells a_0.Nodes) rfl ?_
    obtain ⟨v11, hx12, hF13⟩ := bind_some' hF9
    simp only [run_mv, run_call, put_at, put_no, ev_t, ev_c, reduceIte, Nat.reduceEqDiff, List.map_cons, List.map_nil]
    refine call1 rfl (mapM1 snap_lst (mapM1 snap_int mapM0)) (laws_heldNodeS_x (fun b hb => decide_eq_true hb) k a_0.Nodes v7 v11 hx12) ?_
    simp only [run_mv, run_ops_nil, x13_3, run_seq, run_reg, run_bin, put1_some, xlss, run_cond, put_at, put_no, ev_t, ev_c, reduceIte, Nat.reduceEqDiff, List.map_cons,
        List.map_nil]
    refine cond_split (t := (decide (v11 < 0))) (fun hc14 => ?_) (fun hc14 => ?_)
    · rw [iteT hc14] at hF13
      simp only [run_seq, run_reg, run_mv, run_ops_nil, run_ret, put_at, put_no, ev_t, ev_c, reduceIte, Nat.reduceEqDiff, List.map_cons, List.map_nil]
      have he := some_inj hF13
      subst he
      simp only [end_ret1, put_at, put_no, ev_t, ev_c, reduceIte, Nat.reduceEqDiff, List.map_cons, List.map_nil]
      exact rfl
    · rw [iteF hc14] at hF13
      simp only [run_skip, x13_2, run_seq, run_reg, run_fa, put1_some, Nat.reduceAdd, Nat.zero_add, Nat.add_zero, xfa_ref, run_ld, put_at, put_no, ev_t, ev_c, reduceIte,
          Nat.reduceEqDiff, List.map_cons, List.map_nil]
      refine put1_eq (v := lst Row.cells a_0.Acked) rfl ?_
      obtain ⟨v15, hx16, hF17⟩ := bind_some' hF13
      simp only [run_mv, run_call, put_at, put_no, ev_t, ev_c, reduceIte, Nat.reduceEqDiff, List.map_cons, List.map_nil]
      refine call1 rfl (mapM1 snap_lst (mapM1 snap_int mapM0)) (laws_heldRowS_x (fun b hb => decide_eq_true hb) k a_0.Acked v11 v15 hx16) ?_
      simp only [run_mv, run_ops_nil, x13_1, run_seq, run_reg, run_bin, put1_some, xlss, run_cond, put_at, put_no, ev_t, ev_c, reduceIte, Nat.reduceEqDiff, List.map_cons,
          List.map_nil]
      refine cond_split (t := (decide (v15 < 0))) (fun hc18 => ?_) (fun hc18 => ?_)
      · rw [iteT hc18] at hF17
        simp only [run_seq, run_reg, run_mv, run_ops_nil, run_ret, put_at, put_no, ev_t, ev_c, reduceIte, Nat.reduceEqDiff, List.map_cons, List.map_nil]
        have he := some_inj hF17
        subst he
        simp only [end_ret1, put_at, put_no, ev_t, ev_c, reduceIte, Nat.reduceEqDiff, List.map_cons, List.map_nil]
        exact rfl
      · rw [iteF hc18] at hF17
        simp only [run_skip, run_seq, run_reg, run_mv, run_ops_nil, run_ret, put_at, put_no, ev_t, ev_c, reduceIte, Nat.reduceEqDiff, List.map_cons, List.map_nil]
        have he := some_inj hF17
        subst he
        simp only [end_ret1, put_at, put_no, ev_t, ev_c, reduceIte, Nat.reduceEqDiff, List.map_cons, List.map_nil]
        exact rfl
theorem laws_FnExactNewCluster_x {W : Nat → Bool} {h : Heap} (hW : ∀ b,
    h.length ≤ b → W b = true) (k : Nat) (aNodes_0 : Int) (r : Bool) (hF : laws_FnExactNewCluster k aNodes_0 = some r) : Ret E W 3 [.int .i64 aNodes_0] h
    (fun v h' => cut h.length h' E.sz false 9 v = some (.bool r)) := by
  refine Ret.of (fn := x3) rfl (Run.of ?_)
  unfold laws_FnExactNewCluster at hF
  have zf0 : argFr [.int .i64 aNodes_0] 0 = .int .i64 aNodes_0 := rfl
  generalize argFr [.int .i64 aNodes_0] = fr0 at zf0 ⊢
  have hS : Sep h h.length [] := Sep.nil h
  obtain ⟨v1, hx2, hF3⟩ := bind_some' hF
  simp only [x3, run_seq, run_reg, run_mv, run_ops_nil, x3_15, zf0, run_call, put_at, put_no, ev_t, ev_c, reduceIte, Nat.reduceEqDiff, List.map_cons, List.map_nil]
  refine call2 rfl hS (mapM1 snap_int mapM0) (spec_NewCluster_x (fun b hb => decide_eq_true hb) k aNodes_0 v1 hx2) ?_
  rintro _ h16 ⟨v4, c5, v8, c9, v12, c13, rfl, hv6, hv10, hv14, hS17⟩
  refine ⟨_, free_t (all_c (free2_a (all_c rfl (all_c rfl (all_c (SlF.free1 hv6) (all_c (SlN.free1 hv10) (all_c (SlF.free1 hv14) all_n)))))) (all_c rfl all_n)), hS17,
      (pf_app (SlF.pf hv6 (fun _ => rfl)) (pf_app (SlN.pf hv10 Node.RO) (pf_app (SlF.pf hv14 (fun _ => rfl)) pf_nil))), fun h18 hS19 => ?_⟩
  have hS20 : Sep h18 h.length (c5 ++ (c9 ++ (c13 ++ ([])))) := by simpa only [List.append_assoc, List.nil_append] using hS19
  simp only [run_mv, run_ext, put1_some, xext_0, xext_1, run_new, put_at, put_no, ev_t, ev_c, reduceIte, Nat.reduceEqDiff, List.map_cons, List.map_nil]
  refine put2_newC hS20 (fun b21 h22 hS23 => ?_)
  simp only [run_st, put_at, put_no, ev_t, ev_c, reduceIte, Nat.reduceEqDiff, List.map_cons, List.map_nil]
  refine put2_stCx (us := [.int .i64 v1.1.Truth.Epoch, .int .i64 v1.1.Truth.Leader, v4, v8, v12]) rfl (cs' := [.int .i64 v1.1.Truth.Epoch, .int .i64 v1.1.Truth.Leader, v4, v8,
      v12]) hS23 hW rfl (all_c rfl (all_c rfl (all_c (SlF.one hv6) (all_c (SlN.one hv10) (all_c (SlF.one hv14) all_n))))) (Nat.le_of_ble_eq_true rfl) rfl (fun h25 hS26 => ?_)
  simp only [put_no, run_mv, run_ops_nil, put_at, ev_t, ev_c, reduceIte, Nat.reduceEqDiff, List.map_cons, List.map_nil]
  refine frz_stepC hS26 hW (by simp only [put_at, put_no, ev_t, ev_c, reduceIte, Nat.reduceEqDiff, List.map_cons, List.map_nil]) (fun h27 hS28 => ?_)
  obtain ⟨v29, hx30, hF31⟩ := bind_some' hF3
  simp only [run_frz_nil, x3_14, run_seq, run_reg, zf0, run_mv, run_call, put_at, put_no, ev_t, ev_c, reduceIte, Nat.reduceEqDiff, List.map_cons, List.map_nil]
  refine call2 rfl hS28 (mapM1 snap_int mapM0) (impl_NewCluster_x (fun b hb => decide_eq_true hb) aNodes_0 v29 hx30) ?_
  rintro _ h44 ⟨v32, c33, v36, c37, v40, c41, rfl, hv34, hv38, hv42, hS45⟩
  refine ⟨_, free_t (all_c (free2_a (all_c rfl (all_c rfl (all_c (SlF.free1 hv34) (all_c (SlN.free1 hv38) (all_c (SlF.free1 hv42) all_n)))))) (all_c rfl all_n)), hS45,
      (pf_app (SlF.pf hv34 (fun _ => rfl)) (pf_app (SlN.pf hv38 Node.RO) (pf_app (SlF.pf hv42 (fun _ => rfl)) pf_nil))), fun h46 hS47 => ?_⟩
  have hS48 : Sep h46 h.length (c33 ++ (c37 ++ (c41 ++ (c5 ++ (c9 ++ (c13 ++ ([]))))))) := by simpa only [List.append_assoc, List.nil_append] using hS47
  simp only [run_mv, run_ext, put1_some, xext_0, xext_1, run_new, put_at, put_no, ev_t, ev_c, reduceIte, Nat.reduceEqDiff, List.map_cons, List.map_nil]
  refine put2_newC hS48 (fun b49 h50 hS51 => ?_)
  simp only [run_st, put_at, put_no, ev_t, ev_c, reduceIte, Nat.reduceEqDiff, List.map_cons, List.map_nil]
  refine put2_stCx (us := [.int .i64 v29.1.Truth.Epoch, .int .i64 v29.1.Truth.Leader, v32, v36, v40]) rfl (cs' := [.int .i64 v29.1.Truth.Epoch, .int .i64 v29.1.Truth.Leader, v32,
      v36, v40]) hS51 hW rfl (all_c rfl (all_c rfl (all_c (SlF.one hv34) (all_c (SlN.one hv38) (all_c (SlF.one hv42) all_n))))) (Nat.le_of_ble_eq_true rfl) rfl (fun h53 hS54 => ?_)
  simp only [put_no, run_mv, run_ops_nil, put_at, ev_t, ev_c, reduceIte, Nat.reduceEqDiff, List.map_cons, List.map_nil]
  refine frz_stepC hS54 hW (by simp only [put_at, put_no, ev_t, ev_c, reduceIte, Nat.reduceEqDiff, List.map_cons, List.map_nil]) (fun h55 hS56 => ?_)
  simp only [run_frz_nil, x3_13, run_seq, run_reg, run_ld, put_at, put_no, ev_t, ev_c, reduceIte, Nat.reduceEqDiff, List.map_cons, List.map_nil]
  refine put1_eq (v := .agg [.int .i64 v29.1.Truth.Epoch, .int .i64 v29.1.Truth.Leader, v32, v36, v40]) rfl ?_
  simp only [run_ld, put_at, put_no, ev_t, ev_c, reduceIte, Nat.reduceEqDiff, List.map_cons, List.map_nil]
  refine put1_eq (v := .agg [.int .i64 v1.1.Truth.Epoch, .int .i64 v1.1.Truth.Leader, v4, v8, v12]) rfl ?_
  obtain ⟨v57, hx58, hF59⟩ := bind_some' hF31
  simp only [run_call, put_at, put_no, ev_t, ev_c, reduceIte, Nat.reduceEqDiff, List.map_cons, List.map_nil]
  refine call1 rfl (mapM1 (snap_agg (mapM1 snap_int (mapM1 snap_int (mapM1 (SlF.snap hv34 hS56 rfl (fun _ => rfl) (fun _ => rfl)) (mapM1 (SlN.snap hv38 _
      (Sep.m1 hS56) rfl Node.RO) (mapM1 (SlF.snap hv42 (Sep.m2 hS56) rfl (fun _ => rfl) (fun _ => rfl)) mapM0)))))) (mapM1 (snap_agg (mapM1 snap_int (mapM1 snap_int (mapM1
      (SlF.snap hv6 (Sep.m3 hS56) rfl (fun _ => rfl) (fun _ => rfl)) (mapM1 (SlN.snap hv10 _ (Sep.m4 hS56) rfl Node.RO) (mapM1 (SlF.snap hv14 (Sep.m5 hS56) rfl (fun _ => rfl)
      (fun _ => rfl)) mapM0)))))) mapM0)) (laws_eqCluster_x (fun b hb => decide_eq_true hb) k v29.1 v1.1 v57 hx58) ?_
  simp only [run_un, put1_some, xnot, run_mv, put_at, put_no, ev_t, ev_c, reduceIte, Nat.reduceEqDiff, List.map_cons, List.map_nil]
  refine ops_j 4 (fun fr' h' => Sep h' h.length (c5 ++ (c9 ++ (c13 ++ (c33 ++ (c37 ++ (c41 ++ ([]))))))) ∧ fr' 29 = .bool ((!v57) ||
      (!(v29.2 == v1.2))) ∧ fr' 0 = .int .i64 aNodes_0 ∧ fr' 3 = .ref [.int .i64 v1.1.Truth.Epoch, .int .i64 v1.1.Truth.Leader, v4, v8,
      v12] 0 ∧ fr' 4 = .bool v1.2 ∧ fr' 5 = .ref [.int .i64 v29.1.Truth.Epoch, .int .i64 v29.1.Truth.Leader, v32, v36, v40] 0) (fun Q60 hN61 => ?_) ?_
  · simp only [List.take_succ_cons, List.take_zero]
    simp only [run_guard (g := 25), put_at, put_no, ev_t, ev_c, reduceIte, Nat.reduceEqDiff, List.map_cons, List.map_nil]
    refine guard_split (t := (!v57)) (fun hg62 => ?_) (fun hg62 => ?_)
    · simp only [hg62, run_guard (g := 25), guard_off', run_pick, put1_some, xpick_t, run_ops_nil, run_nil, put_at, put_no, ev_t, ev_c, reduceIte, Nat.reduceEqDiff, List.map_cons,
        List.map_nil]
      exact hN61 _ _ ⟨(Sep.m5 (Sep.m5 (Sep.m5 (Sep.m2 (Sep.m2 (Sep.m2 hS56)))))), by rw [orT hg62]; simp only [put_at, put_no, ev_t, ev_c, reduceIte, Nat.reduceEqDiff,
          List.map_cons, List.map_nil], by simp only [zf0, put_at, put_no, ev_t, ev_c, reduceIte, Nat.reduceEqDiff, List.map_cons, List.map_nil], by simp only [put_at, put_no,
          ev_t, ev_c, reduceIte, Nat.reduceEqDiff, List.map_cons, List.map_nil], by simp only [put_at, put_no, ev_t, ev_c, reduceIte, Nat.reduceEqDiff, List.map_cons,
          List.map_nil], by simp only [put_at, put_no, ev_t, ev_c, reduceIte, Nat.reduceEqDiff, List.map_cons, List.map_nil]⟩
    · simp only [hg62, run_guard (g := 25), guard_false, run_mv, run_eqb, put1_some, xeqb_t, run_pick, xpick_f, run_ops_nil, run_nil, put_at, put_no, ev_t, ev_c, reduceIte,
        Nat.reduceEqDiff, List.map_cons, List.map_nil]
      exact hN61 _ _ ⟨(Sep.m5 (Sep.m5 (Sep.m5 (Sep.m2 (Sep.m2 (Sep.m2 hS56)))))), by rw [orF hg62]; simp only [put_at, put_no, ev_t, ev_c, reduceIte, Nat.reduceEqDiff,
          List.map_cons, List.map_nil], by simp only [zf0, put_at, put_no, ev_t, ev_c, reduceIte, Nat.reduceEqDiff, List.map_cons, List.map_nil], by simp only [put_at, put_no,
          ev_t, ev_c, reduceIte, Nat.reduceEqDiff, List.map_cons, List.map_nil], by simp only [put_at, put_no, ev_t, ev_c, reduceIte, Nat.reduceEqDiff, List.map_cons,
          List.map_nil], by simp only [put_at, put_no, ev_t, ev_c, reduceIte, Nat.reduceEqDiff, List.map_cons, List.map_nil]⟩
  · rintro fr63 h69 ⟨hS70, f64, f65, f66, f67, f68⟩
    simp only [List.drop_succ_cons, List.drop_zero]
    simp only [run_ops_nil, f64, run_cond, put_at, put_no, ev_t, ev_c, reduceIte, Nat.reduceEqDiff, List.map_cons, List.map_nil]
    refine cond_split (t := ((!v57) || (!(v29.2 == v1.2)))) (fun hc71 => ?_) (fun hc71 => ?_)
    · rw [iteT hc71] at hF59
      simp only [run_seq, run_reg, run_mv, run_ops_nil, run_ret, put_at, put_no, ev_t, ev_c, reduceIte, Nat.reduceEqDiff, List.map_cons, List.map_nil]
      have he := some_inj hF59
      subst he
      simp only [end_ret1, put_at, put_no, ev_t, ev_c, reduceIte, Nat.reduceEqDiff, List.map_cons, List.map_nil]
      exact rfl
    · rw [iteF hc71] at hF59
      simp only [run_skip, x3_12, run_seq, run_reg, run_mv, run_ops_nil, x3_11, f68, run_ld, put_at, put_no, ev_t, ev_c, reduceIte, Nat.reduceEqDiff, List.map_cons, List.map_nil]
      refine put1_eq (v := .agg [.int .i64 v29.1.Truth.Epoch, .int .i64 v29.1.Truth.Leader, v32, v36, v40]) rfl ?_
      obtain ⟨v72, hx73, hF74⟩ := bind_some' hF59
      simp only [run_mv, run_call, put_at, put_no, ev_t, ev_c, reduceIte, Nat.reduceEqDiff, List.map_cons, List.map_nil]
      refine call0 rfl (laws_markCluster_x hW k v29.1 v32 c33 hv34 v36 c37 hv38 v40 c41 hv42 1 v72 hx73 (Sep.m5 (Sep.m5 (Sep.m5 hS70)))) ?_
      rintro _ h81 ⟨c75, c77, c79, rfl, hv76, hv78, hv80, hS82⟩
      simp only [run_mv, run_ops_nil, x3_10, run_seq, run_reg, x3_9, f68, run_ld, put_at, put_no, ev_t, ev_c, reduceIte, Nat.reduceEqDiff, List.map_cons, List.map_nil]
      refine put1_eq (v := .agg [.int .i64 v29.1.Truth.Epoch, .int .i64 v29.1.Truth.Leader, v32, v36, v40]) rfl ?_
      obtain ⟨v83, hx84, hF85⟩ := bind_some' hF74
      simp only [run_mv, run_call, put_at, put_no, ev_t, ev_c, reduceIte, Nat.reduceEqDiff, List.map_cons, List.map_nil]
      refine call1 rfl (mapM1 (snap_agg (mapM1 snap_int (mapM1 snap_int (mapM1 (SlF.snap hv76 hS82 rfl (fun _ => rfl) (fun _ => rfl)) (mapM1 (SlN.snap hv78 _
          (Sep.m1 hS82) rfl Node.RO) (mapM1 (SlF.snap hv80 (Sep.m2 hS82) rfl (fun _ => rfl) (fun _ => rfl)) mapM0)))))) (mapM1 snap_int mapM0)) (laws_heldCluster_x
          (fun b hb => decide_eq_true hb) k (Cluster.mk (View.mk v29.1.Truth.Epoch v29.1.Truth.Leader v72.2.Truth.InStep) v72.2.Nodes v72.2.Acked) 1 v83 hx84) ?_
      simp only [run_mv, run_ops_nil, x3_8, run_seq, run_reg, run_bin, put1_some, xlss, run_cond, put_at, put_no, ev_t, ev_c, reduceIte, Nat.reduceEqDiff, List.map_cons,
          List.map_nil]
      refine cond_split (t := (decide (v83 < 0))) (fun hc86 => ?_) (fun hc86 => ?_)
      · rw [iteT hc86] at hF85
        simp only [run_seq, run_reg, run_mv, run_ops_nil, run_ret, put_at, put_no, ev_t, ev_c, reduceIte, Nat.reduceEqDiff, List.map_cons, List.map_nil]
        have he := some_inj hF85
        subst he
        simp only [end_ret1, put_at, put_no, ev_t, ev_c, reduceIte, Nat.reduceEqDiff, List.map_cons, List.map_nil]
        exact rfl
      · rw [iteF hc86] at hF85
        simp only [run_skip, x3_7, run_seq, run_reg, run_mv, run_bin, put1_some, xneq, run_ops_nil, run_cond, put_at, put_no, ev_t, ev_c, reduceIte, Nat.reduceEqDiff,
            List.map_cons, List.map_nil]
        refine cond_split (t := (decide (v83 ≠ v72.1))) (fun hc87 => ?_) (fun hc87 => ?_)
        · rw [iteT hc87] at hF85
          simp only [run_seq, run_reg, run_mv, run_ops_nil, run_ret, put_at, put_no, ev_t, ev_c, reduceIte, Nat.reduceEqDiff, List.map_cons, List.map_nil]
          have he := some_inj hF85
          subst he
          simp only [end_ret1, put_at, put_no, ev_t, ev_c, reduceIte, Nat.reduceEqDiff, List.map_cons, List.map_nil]
          exact rfl
        · rw [iteF hc87] at hF85
          obtain ⟨v88, hx89, hF90⟩ := bind_some' hF85
          simp only [run_skip, x3_6, run_seq, run_reg, f65, run_mv, run_call, put_at, put_no, ev_t, ev_c, reduceIte, Nat.reduceEqDiff, List.map_cons, List.map_nil]
          refine call2 rfl hS82 (mapM1 snap_int mapM0) (impl_NewCluster_x (fun b hb => decide_eq_true hb) aNodes_0 v88 hx89) ?_
          rintro _ h103 ⟨v91, c92, v95, c96, v99, c100, rfl, hv93, hv97, hv101, hS104⟩
          refine ⟨_, free_t (all_c (free2_a (all_c rfl (all_c rfl (all_c (SlF.free1 hv93) (all_c (SlN.free1 hv97) (all_c (SlF.free1 hv101) all_n)))))) (all_c rfl all_n)), hS104,
              (pf_app (SlF.pf hv93 (fun _ => rfl)) (pf_app (SlN.pf hv97 Node.RO) (pf_app (SlF.pf hv101 (fun _ => rfl)) pf_nil))), fun h105 hS106 => ?_⟩
          have hS107 : Sep h105 h.length (c92 ++ (c96 ++ (c100 ++ (c75 ++ (c77 ++ (c79 ++ (c5 ++ (c9 ++ (c13 ++ ([])))))))))) := by simpa only [List.append_assoc,
              List.nil_append] using hS106
          simp only [run_mv, run_ext, put1_some, xext_0, xext_1, run_new, put_at, put_no, ev_t, ev_c, reduceIte, Nat.reduceEqDiff, List.map_cons, List.map_nil]
          refine put2_newC hS107 (fun b108 h109 hS110 => ?_)
          simp only [run_st, put_at, put_no, ev_t, ev_c, reduceIte, Nat.reduceEqDiff, List.map_cons, List.map_nil]
          refine put2_stCx (us := [.int .i64 v88.1.Truth.Epoch, .int .i64 v88.1.Truth.Leader, v91, v95, v99]) rfl (cs' := [.int .i64 v88.1.Truth.Epoch,
              .int .i64 v88.1.Truth.Leader, v91, v95,
              v99]) hS110 hW rfl (all_c rfl (all_c rfl (all_c (SlF.one hv93) (all_c (SlN.one hv97) (all_c (SlF.one hv101) all_n))))) (Nat.le_of_ble_eq_true rfl) rfl
              (fun h112 hS113 => ?_)
          simp only [put_no, run_mv, run_ops_nil, put_at, ev_t, ev_c, reduceIte, Nat.reduceEqDiff, List.map_cons, List.map_nil]
          refine frz_stepC hS113 hW (by simp only [put_at, put_no, ev_t, ev_c, reduceIte, Nat.reduceEqDiff, List.map_cons, List.map_nil]) (fun h114 hS115 => ?_)
          simp only [run_frz_nil, x3_5, run_seq, run_reg, run_ld, put_at, put_no, ev_t, ev_c, reduceIte, Nat.reduceEqDiff, List.map_cons, List.map_nil]
          refine put1_eq (v := .agg [.int .i64 v88.1.Truth.Epoch, .int .i64 v88.1.Truth.Leader, v91, v95, v99]) rfl ?_
          simp only [f66, run_ld, put_at, put_no, ev_t, ev_c, reduceIte, Nat.reduceEqDiff, List.map_cons, List.map_nil]
          refine put1_eq (v := .agg [.int .i64 v1.1.Truth.Epoch, .int .i64 v1.1.Truth.Leader, v4, v8, v12]) rfl ?_
          obtain ⟨v116, hx117, hF118⟩ := bind_some' hF90
          simp only [run_call, put_at, put_no, ev_t, ev_c, reduceIte, Nat.reduceEqDiff, List.map_cons, List.map_nil]
          refine call1 rfl (mapM1 (snap_agg (mapM1 snap_int (mapM1 snap_int (mapM1 (SlF.snap hv93 hS115 rfl (fun _ => rfl) (fun _ => rfl)) (mapM1 (SlN.snap hv97 _
              (Sep.m1 hS115) rfl Node.RO) (mapM1 (SlF.snap hv101 (Sep.m2 hS115) rfl (fun _ => rfl) (fun _ => rfl)) mapM0)))))) (mapM1 (snap_agg (mapM1 snap_int (mapM1 snap_int
              (mapM1 (SlF.snap hv6 (Sep.m6 hS115) rfl (fun _ => rfl) (fun _ => rfl)) (mapM1 (SlN.snap hv10 _ (Sep.m7 hS115) rfl Node.RO) (mapM1 (SlF.snap hv14 (Sep.m8 hS115) rfl
              (fun _ => rfl) (fun _ => rfl)) mapM0)))))) mapM0)) (laws_eqCluster_x (fun b hb => decide_eq_true hb) k v88.1 v1.1 v116 hx117) ?_
          simp only [run_un, put1_some, xnot, run_mv, put_at, put_no, ev_t, ev_c, reduceIte, Nat.reduceEqDiff, List.map_cons, List.map_nil]
          refine ops_j 4 (fun fr' h' => Sep h' h.length (c75 ++ (c77 ++ (c79 ++ ([])))) ∧ fr' 54 = .bool ((!v116) ||
              (!(v88.2 == v1.2))) ∧ fr' 5 = .ref [.int .i64 v29.1.Truth.Epoch, .int .i64 v29.1.Truth.Leader, v32, v36, v40] 0 ∧ fr' 7 = .int .i64 v72.1) (fun Q119 hN120 => ?_) ?_
          · simp only [List.take_succ_cons, List.take_zero]
            simp only [run_guard (g := 50), put_at, put_no, ev_t, ev_c, reduceIte, Nat.reduceEqDiff, List.map_cons, List.map_nil]
            refine guard_split (t := (!v116)) (fun hg121 => ?_) (fun hg121 => ?_)
            · simp only [hg121, run_guard (g := 50), guard_off', run_pick, put1_some, xpick_t, run_ops_nil, run_nil, put_at, put_no, ev_t, ev_c, reduceIte, Nat.reduceEqDiff,
                List.map_cons, List.map_nil]
              exact hN120 _ _ ⟨(Sep.m2 (Sep.m2 (Sep.m2 (Sep.dc (Sep.m3 (Sep.dc (Sep.m3 (Sep.dc (Sep.m3 (Sep.dc ((Sep.dc ((Sep.dc (hS115))))))))))))))),
                  by rw [orT hg121]; simp only [put_at, put_no, ev_t, ev_c, reduceIte, Nat.reduceEqDiff, List.map_cons, List.map_nil], by simp only [f68, put_at, put_no, ev_t,
                  ev_c, reduceIte, Nat.reduceEqDiff, List.map_cons, List.map_nil], by simp only [put_at, put_no, ev_t, ev_c, reduceIte, Nat.reduceEqDiff, List.map_cons,
                  List.map_nil]⟩
            · simp only [hg121, run_guard (g := 50), guard_false, run_mv, f67, run_eqb, put1_some, xeqb_t, run_pick, xpick_f, run_ops_nil, run_nil, put_at, put_no, ev_t, ev_c,
                reduceIte, Nat.reduceEqDiff, List.map_cons, List.map_nil]
              exact hN120 _ _ ⟨(Sep.m2 (Sep.m2 (Sep.m2 (Sep.dc (Sep.m3 (Sep.dc (Sep.m3 (Sep.dc (Sep.m3 (Sep.dc ((Sep.dc ((Sep.dc (hS115))))))))))))))),
                  by rw [orF hg121]; simp only [put_at, put_no, ev_t, ev_c, reduceIte, Nat.reduceEqDiff, List.map_cons, List.map_nil], by simp only [f68, put_at, put_no, ev_t,
                  ev_c, reduceIte, Nat.reduceEqDiff, List.map_cons, List.map_nil], by simp only [put_at, put_no, ev_t, ev_c, reduceIte, Nat.reduceEqDiff, List.map_cons,
                  List.map_nil]⟩
          · rintro fr122 h126 ⟨hS127, f123, f124, f125⟩
            simp only [List.drop_succ_cons, List.drop_zero]
            simp only [run_ops_nil, f123, run_cond, put_at, put_no, ev_t, ev_c, reduceIte, Nat.reduceEqDiff, List.map_cons, List.map_nil]
            refine cond_split (t := ((!v116) || (!(v88.2 == v1.2)))) (fun hc128 => ?_) (fun hc128 => ?_)
            · rw [iteT hc128] at hF118
              simp only [run_seq, run_reg, run_mv, run_ops_nil, run_ret, put_at, put_no, ev_t, ev_c, reduceIte, Nat.reduceEqDiff, List.map_cons, List.map_nil]
              have he := some_inj hF118
              subst he
              simp only [end_ret1, put_at, put_no, ev_t, ev_c, reduceIte, Nat.reduceEqDiff, List.map_cons, List.map_nil]
              exact rfl
            · rw [iteF hc128] at hF118
              simp only [run_skip, x3_4, run_seq, run_reg, run_mv, run_ops_nil, x3_3, f124, run_ld, put_at, put_no, ev_t, ev_c, reduceIte, Nat.reduceEqDiff, List.map_cons,
                  List.map_nil]
              refine put1_eq (v := .agg [.int .i64 v29.1.Truth.Epoch, .int .i64 v29.1.Truth.Leader, v32, v36, v40]) rfl ?_
              obtain ⟨v129, hx130, hF131⟩ := bind_some' hF118
              simp only [run_mv, run_call, put_at, put_no, ev_t, ev_c, reduceIte, Nat.reduceEqDiff, List.map_cons, List.map_nil]
              refine call1 rfl (mapM1 (snap_agg (mapM1 snap_int (mapM1 snap_int (mapM1 (SlF.snap hv76 hS127 rfl (fun _ => rfl) (fun _ => rfl)) (mapM1 (SlN.snap hv78 _
                  (Sep.m1 hS127) rfl Node.RO) (mapM1 (SlF.snap hv80 (Sep.m2 hS127) rfl (fun _ => rfl) (fun _ => rfl)) mapM0)))))) (mapM1 snap_int mapM0)) (laws_heldCluster_x
                  (fun b hb => decide_eq_true hb) k (Cluster.mk (View.mk v29.1.Truth.Epoch v29.1.Truth.Leader v72.2.Truth.InStep) v72.2.Nodes v72.2.Acked) 1 v129 hx130) ?_
              simp only [run_mv, run_ops_nil, x3_2, run_seq, run_reg, run_bin, put1_some, xlss, run_cond, put_at, put_no, ev_t, ev_c, reduceIte, Nat.reduceEqDiff, List.map_cons,
                  List.map_nil]
              refine cond_split (t := (decide (v129 < 0))) (fun hc132 => ?_) (fun hc132 => ?_)
              · rw [iteT hc132] at hF131
                simp only [run_seq, run_reg, run_mv, run_ops_nil, run_ret, put_at, put_no, ev_t, ev_c, reduceIte, Nat.reduceEqDiff, List.map_cons, List.map_nil]
                have he := some_inj hF131
                subst he
                simp only [end_ret1, put_at, put_no, ev_t, ev_c, reduceIte, Nat.reduceEqDiff, List.map_cons, List.map_nil]
                exact rfl
              · rw [iteF hc132] at hF131
                simp only [run_skip, x3_1, run_seq, run_reg, run_mv, f125, run_bin, put1_some, xneq, run_ops_nil, run_cond, put_at, put_no, ev_t, ev_c, reduceIte,
                    Nat.reduceEqDiff, List.map_cons, List.map_nil]
                refine cond_split (t := (decide (v129 ≠ v72.1))) (fun hc133 => ?_) (fun hc133 => ?_)
                · rw [iteT hc133] at hF131
                  simp only [run_seq, run_reg, run_mv, run_ops_nil, run_ret, put_at, put_no, ev_t, ev_c, reduceIte, Nat.reduceEqDiff, List.map_cons, List.map_nil]
                  have he := some_inj hF131
                  subst he
                  simp only [end_ret1, put_at, put_no, ev_t, ev_c, reduceIte, Nat.reduceEqDiff, List.map_cons, List.map_nil]
                  exact rfl
                · rw [iteF hc133] at hF131
                  simp only [run_skip, run_seq, run_reg, run_mv, run_ops_nil, run_ret, put_at, put_no, ev_t, ev_c, reduceIte, Nat.reduceEqDiff, List.map_cons, List.map_nil]
                  have he := some_inj hF131
                  subst he
                  simp only [end_ret1, put_at, put_no, ev_t, ev_c, reduceIte, Nat.reduceEqDiff, List.map_cons, List.map_nil]
                  exact rfl
end Go.Proofs.Ytohofoampalhoaa.X
