/- The functions' code comes to what the plain functions say (1). -/
import Derived.Test.YtohofoampalhoaaXEF
import Derived.Test.YtohofoampalhoaaXED
set_option linter.unusedVariables false
set_option linter.unusedSimpArgs false
set_option maxRecDepth 100000
namespace Go.Proofs.Ytohofoampalhoaa.X
open Go
def Node.R : Rep Node := fun x cs os => ∃ (v2 : XV) (c2 : List Obj) (v3 : XV) (c3 : List Obj) (v4 : XV) (c4 : List Obj),
    SlF cI 1 3 v2 x.View.InStep c2 ∧ SlF Row.cells 2 92 v3 x.Log c3 ∧ SlF cI 1 3 v4 x.Known c4 ∧ cs = [.int .i64 x.View.Epoch, .int .i64 x.View.Leader, v2, v3, v4,
    .int .i64 x.Told] ∧ os = c2 ++ (c3 ++ (c4))
theorem Node.RI {x : Node} {v2 : XV} {c2 : List Obj} (h2 : SlF cI 1 3 v2 x.View.InStep c2) {v3 : XV} {c3 : List Obj}
    (h3 : SlF Row.cells 2 92 v3 x.Log c3) {v4 : XV} {c4 : List Obj} (h4 : SlF cI 1 3 v4 x.Known c4) : Node.R x [.int .i64 x.View.Epoch, .int .i64 x.View.Leader, v2, v3, v4,
    .int .i64 x.Told] (c2 ++ (c3 ++ (c4))) := ⟨v2, c2, v3, c3, v4, c4, h2, h3, h4, rfl, rfl⟩
theorem Node.RO : RepOk E.sz Node.R Node.cells 6 where
  len := fun {x cs os} H => by
    obtain ⟨v2, c2, v3, c3, v4, c4, h2, h3, h4, rfl, rfl⟩ := H
    rfl
  flen := fun _ => rfl
  one := fun {x cs os} H => by
    obtain ⟨v2, c2, v3, c3, v4, c4, h2, h3, h4, rfl, rfl⟩ := H
    exact (all_c rfl (all_c rfl (all_c (SlF.one h2) (all_c (SlF.one h3) (all_c (SlF.one h4) (all_c rfl all_n))))))
  snap := fun {x cs os h lo S} m H hS => by
    obtain ⟨v2, c2, v3, c3, v4, c4, h2, h3, h4, rfl, rfl⟩ := H
    have hS2 : Sep h lo (c2 ++ (c3 ++ (c4 ++ S))) := (by simpa only [List.append_assoc] using hS)
    exact (mapM1 snap_int (mapM1 snap_int (mapM1 (SlF.snap h2 hS2 rfl (fun _ => rfl) (fun _ => rfl)) (mapM1 (SlF.snap h3 (Sep.m1 hS2) rfl (fun _ => rfl) (fun _ => rfl)) (mapM1
        (SlF.snap h4 (Sep.m2 hS2) rfl (fun _ => rfl) (fun _ => rfl)) (mapM1 snap_int mapM0))))))
  cut := fun {x cs os h lo n0 keep S} m H hS hge => by
    obtain ⟨v2, c2, v3, c3, v4, c4, h2, h3, h4, rfl, rfl⟩ := H
    have hS2 : Sep h lo (c2 ++ (c3 ++ (c4 ++ S))) := (by simpa only [List.append_assoc] using hS)
    exact (mapM1 rfl (mapM1 rfl (mapM1 (SlF.cut h2 hS2 hge rfl (fun _ => rfl) (fun _ => rfl)) (mapM1 (SlF.cut h3 (Sep.m1 hS2) hge rfl (fun _ => rfl) (fun _ => rfl)) (mapM1
        (SlF.cut h4 (Sep.m2 hS2) hge rfl (fun _ => rfl) (fun _ => rfl)) (mapM1 rfl mapM0))))))
  free := fun {x cs os} H => by
    obtain ⟨v2, c2, v3, c3, v4, c4, h2, h3, h4, rfl, rfl⟩ := H
    exact (all_c rfl (all_c rfl (all_c (SlF.free1 h2) (all_c (SlF.free1 h3) (all_c (SlF.free1 h4) (all_c rfl all_n))))))
  pf := fun {x cs os} H => by
    obtain ⟨v2, c2, v3, c3, v4, c4, h2, h3, h4, rfl, rfl⟩ := H
    exact (pf_app (SlF.pf h2 (fun _ => rfl)) (pf_app (SlF.pf h3 (fun _ => rfl)) (SlF.pf h4 (fun _ => rfl))))
theorem laws_eqIntS_x {W : Nat → Bool} {h : Heap} (hW : ∀ b,
    h.length ≤ b → W b = true) (k : Nat) (a_0 : List Int) (b_1 : List Int) (r : Bool) (hF : laws_eqIntS k a_0 b_1 = some r) : Ret E W 20 [lst cI a_0,
    lst cI b_1] h (fun v h' => cut h.length h' E.sz false 9 v = some (.bool r)) := by
  refine Ret.of (fn := x20) rfl (Run.of ?_)
  unfold laws_eqIntS at hF
  have zf0 : argFr [lst cI a_0, lst cI b_1] 0 = lst cI a_0 := rfl
  have zf1 : argFr [lst cI a_0, lst cI b_1] 1 = lst cI b_1 := rfl
  generalize argFr [lst cI a_0, lst cI b_1] = fr0 at zf0 zf1 ⊢
  have hS : Sep h h.length [] := Sep.nil h
  simp only [x20, run_seq, run_reg, run_mv, run_ops_nil, x20_7, zf0, run_len, put1_some, xlen_lst, zf1, run_bin, xneq, run_cond, put_at, put_no, ev_t, ev_c, reduceIte,
      Nat.reduceEqDiff, List.map_cons, List.map_nil]
  refine cond_split (t := (decide ((List.length a_0 : Int) ≠ (List.length b_1 : Int)))) (fun hc1 => ?_) (fun hc1 => ?_)
  · rw [iteT hc1] at hF
    simp only [run_seq, run_reg, run_mv, run_ops_nil, run_ret, put_at, put_no, ev_t, ev_c, reduceIte, Nat.reduceEqDiff, List.map_cons, List.map_nil]
    have he := some_inj hF
    subst he
    simp only [end_ret1, put_at, put_no, ev_t, ev_c, reduceIte, Nat.reduceEqDiff, List.map_cons, List.map_nil]
    exact rfl
  · rw [iteF hc1] at hF
    simp only [run_skip, x20_6, run_seq, run_reg, run_mv, run_ops_nil, put_at, put_no, ev_t, ev_c, reduceIte, Nat.reduceEqDiff, List.map_cons, List.map_nil]
    obtain ⟨oc6, hX8, hk9⟩ := jn_some hF
    simp only [x20_5]
    refine loopF_j (σ := Int) (fun s38 => laws_eqIntS_b1 a_0 b_1 s38) (fun s fr' h' => fr' 0 = lst cI a_0 ∧ fr' 1 = lst cI b_1 ∧ fr' 5 = .int .i64 s ∧ Sep h' h.length
        ([])) hX8 ⟨by simp only [zf0, put_at, put_no, ev_t, ev_c, reduceIte, Nat.reduceEqDiff, List.map_cons, List.map_nil], by simp only [zf1, put_at, put_no, ev_t, ev_c,
        reduceIte, Nat.reduceEqDiff, List.map_cons, List.map_nil], by simp only [put_at, put_no, ev_t, ev_c, reduceIte, Nat.reduceEqDiff, List.map_cons, List.map_nil],
        hS⟩ (fun _ _ _ h => h) ?_ ?_
    · rintro s3 fr18 h19 ⟨f21, f22, f23, hS20⟩ oc7 hF10 hr11 Q12 hN13 hK14 hR15 hE16
      unfold laws_eqIntS_b1 at hF10
      simp only [x20_3, run_seq, run_reg, f23, run_mv, f21, run_len, put1_some, xlen_lst, run_bin, xlss, run_ops_nil, run_cond, put_at, put_no, ev_t, ev_c, reduceIte,
          Nat.reduceEqDiff, List.map_cons, List.map_nil]
      refine cond_split (t := (decide (s3 < (List.length a_0 : Int)))) (fun hc25 => ?_) (fun hc25 => ?_)
      · rw [iteT hc25] at hF10
        obtain ⟨x26, hx27, hF28⟩ := bind_some' hF10
        simp only [run_skip, x20_2, run_seq, run_block, x20_1, run_draw, f21, d4_mv, put1d_some, f23, d4_ia, put_at, put_no, ev_t, ev_c, reduceIte, Nat.reduceEqDiff,
            List.map_cons, List.map_nil]
        refine put1d_eq (v := .ref (cI x26) 0) (xia_lst hx27 rfl) ?_
        simp only [d4_ld, put_at, put_no, ev_t, ev_c, reduceIte, Nat.reduceEqDiff, List.map_cons, List.map_nil]
        refine put1d_eq (v := .int .i64 x26) rfl ?_
        obtain ⟨x29, hx30, hF31⟩ := bind_some' hF28
        simp only [f22, d4_mv, put1d_some, f23, d4_ia, put_at, put_no, ev_t, ev_c, reduceIte, Nat.reduceEqDiff, List.map_cons, List.map_nil]
        refine put1d_eq (v := .ref (cI x29) 0) (xia_lst hx30 rfl) ?_
        simp only [d4_ld, put_at, put_no, ev_t, ev_c, reduceIte, Nat.reduceEqDiff, List.map_cons, List.map_nil]
        refine put1d_eq (v := .int .i64 x29) rfl ?_
        simp only [d4_bin, put1d_some, xneq, run_draw_nil, run_cond, put_at, put_no, ev_t, ev_c, reduceIte, Nat.reduceEqDiff, List.map_cons, List.map_nil]
        refine cond_split (t := (decide (x26 ≠ x29))) (fun hc32 => ?_) (fun hc32 => ?_)
        · rw [iteT hc32] at hF31
          simp only [run_seq, run_reg, run_mv, run_ops_nil, run_ret, put_at, put_no, ev_t, ev_c, reduceIte, Nat.reduceEqDiff, List.map_cons, List.map_nil]
          have e33 := some_inj hF31
          subst e33
          have ho34 := hr11 _ rfl
          have hk35 := hk9
          rw [ho34] at hk35
          dsimp only [jnO] at hk35
          apply hR15
          have he := some_inj hk35
          subst he
          simp only [end_ret1, put_at, put_no, ev_t, ev_c, reduceIte, Nat.reduceEqDiff, List.map_cons, List.map_nil]
          exact rfl
        · rw [iteF hc32] at hF31
          simp only [run_skip, run_blk, run_reg, f23, run_mv, run_bin, put1_some, xadd, run_ops_nil, run_nil, put_at, put_no, ev_t, ev_c, reduceIte, Nat.reduceEqDiff,
              List.map_cons, List.map_nil]
          have e36 := some_inj hF31
          exact hN13 _ _ _ e36.symm ⟨by simp only [f21, put_at, put_no, ev_t, ev_c, reduceIte, Nat.reduceEqDiff, List.map_cons, List.map_nil], by simp only [f22, put_at, put_no,
              ev_t, ev_c, reduceIte, Nat.reduceEqDiff, List.map_cons, List.map_nil], by simp only [put_at, put_no, ev_t, ev_c, reduceIte, Nat.reduceEqDiff, List.map_cons,
              List.map_nil], hS20⟩
      · rw [iteF hc25] at hF10
        simp only [run_exit, out_code, out_nil, put_at, put_no, ev_t, ev_c, reduceIte, Nat.reduceEqDiff, List.map_cons, List.map_nil]
        have e37 := some_inj hF10
        exact hK14 _ _ _ e37.symm ⟨by simp only [f21, put_at, put_no, ev_t, ev_c, reduceIte, Nat.reduceEqDiff, List.map_cons, List.map_nil], by simp only [f22, put_at, put_no,
            ev_t, ev_c, reduceIte, Nat.reduceEqDiff, List.map_cons, List.map_nil], by simp only [f23, put_at, put_no, ev_t, ev_c, reduceIte, Nat.reduceEqDiff, List.map_cons,
            List.map_nil], hS20⟩
    · rintro s39 fr40 h41 rfl ⟨f43, f44, f45, hS42⟩
      dsimp only [jnO] at hk9
      unfold laws_eqIntS_j1 at hk9
      simp only [run_seq, run_reg, run_mv, run_ops_nil, run_ret, put_at, put_no, ev_t, ev_c, reduceIte, Nat.reduceEqDiff, List.map_cons, List.map_nil]
      have he := some_inj hk9
      subst he
      simp only [end_ret1, put_at, put_no, ev_t, ev_c, reduceIte, Nat.reduceEqDiff, List.map_cons, List.map_nil]
      exact rfl
theorem laws_eqView_x {W : Nat → Bool} {h : Heap} (hW : ∀ b,
    h.length ≤ b → W b = true) (k : Nat) (a_0 : View) (b_1 : View) (r : Bool) (hF : laws_eqView k a_0 b_1 = some r) : Ret E W 41 [.agg [.int .i64 a_0.Epoch, .int .i64 a_0.Leader,
    lst cI a_0.InStep], .agg [.int .i64 b_1.Epoch, .int .i64 b_1.Leader, lst cI b_1.InStep]] h (fun v h' => cut h.length h' E.sz false 9 v = some (.bool r)) := by
  refine Ret.of (fn := x41) rfl (Run.of ?_)
  unfold laws_eqView at hF
  have zf0 : argFr [.agg [.int .i64 a_0.Epoch, .int .i64 a_0.Leader, lst cI a_0.InStep], .agg [.int .i64 b_1.Epoch, .int .i64 b_1.Leader,
      lst cI b_1.InStep]] 0 = .agg [.int .i64 a_0.Epoch, .int .i64 a_0.Leader, lst cI a_0.InStep] := rfl
  have zf1 : argFr [.agg [.int .i64 a_0.Epoch, .int .i64 a_0.Leader, lst cI a_0.InStep], .agg [.int .i64 b_1.Epoch, .int .i64 b_1.Leader,
      lst cI b_1.InStep]] 1 = .agg [.int .i64 b_1.Epoch, .int .i64 b_1.Leader, lst cI b_1.InStep] := rfl
  generalize argFr [.agg [.int .i64 a_0.Epoch, .int .i64 a_0.Leader, lst cI a_0.InStep], .agg [.int .i64 b_1.Epoch, .int .i64 b_1.Leader, lst cI b_1.InStep]] = fr0 at zf0 zf1 ⊢
  have hS : Sep h h.length [] := Sep.nil h
  simp only [x41, run_seq, run_reg, run_box, zf0, put_at, put_no, ev_t, ev_c, reduceIte, Nat.reduceEqDiff, List.map_cons, List.map_nil]
  refine put2_boxC (cs := [.int .i64 a_0.Epoch, .int .i64 a_0.Leader, lst cI a_0.InStep]) hS rfl rfl rfl (fun b1 h2 hS3 => ?_)
  simp only [run_box, zf1, put_at, put_no, ev_t, ev_c, reduceIte, Nat.reduceEqDiff, List.map_cons, List.map_nil]
  refine put2_boxC (cs := [.int .i64 b_1.Epoch, .int .i64 b_1.Leader, lst cI b_1.InStep]) hS3 rfl rfl rfl (fun b5 h6 hS7 => ?_)
  simp only [run_mv, run_ops_nil, put_at, put_no, ev_t, ev_c, reduceIte, Nat.reduceEqDiff, List.map_cons, List.map_nil]
  refine frz_stepC (Sep.m1 hS7) hW (by simp only [put_at, put_no, ev_t, ev_c, reduceIte, Nat.reduceEqDiff, List.map_cons, List.map_nil]) (fun h9 hS10 => ?_)
  refine frz_stepC hS10 hW (by simp only [put_at, put_no, ev_t, ev_c, reduceIte, Nat.reduceEqDiff, List.map_cons, List.map_nil]) (fun h11 hS12 => ?_)
  simp only [run_frz_nil, x41_3, run_seq, run_reg, run_fa, put1_some, Nat.reduceAdd, Nat.zero_add, Nat.add_zero, xfa_ref, run_ld, put_at, put_no, ev_t, ev_c, reduceIte,
      Nat.reduceEqDiff, List.map_cons, List.map_nil]
  refine put1_eq (v := .int .i64 a_0.Epoch) rfl ?_
  simp only [run_fa, put1_some, Nat.reduceAdd, Nat.zero_add, Nat.add_zero, xfa_ref, run_ld, put_at, put_no, ev_t, ev_c, reduceIte, Nat.reduceEqDiff, List.map_cons, List.map_nil]
  refine put1_eq (v := .int .i64 b_1.Epoch) rfl ?_
  simp only [run_bin, put1_some, xneq, run_ops_nil, run_cond, put_at, put_no, ev_t, ev_c, reduceIte, Nat.reduceEqDiff, List.map_cons, List.map_nil]
  refine cond_split (t := (decide (a_0.Epoch ≠ b_1.Epoch))) (fun hc13 => ?_) (fun hc13 => ?_)
  · rw [iteT hc13] at hF
    simp only [run_seq, run_reg, run_mv, run_ops_nil, run_ret, put_at, put_no, ev_t, ev_c, reduceIte, Nat.reduceEqDiff, List.map_cons, List.map_nil]
    have he := some_inj hF
    subst he
    simp only [end_ret1, put_at, put_no, ev_t, ev_c, reduceIte, Nat.reduceEqDiff, List.map_cons, List.map_nil]
    exact rfl
  · rw [iteF hc13] at hF
    simp only [run_skip, x41_2, run_seq, run_reg, run_fa, put1_some, Nat.reduceAdd, Nat.zero_add, Nat.add_zero, xfa_ref, run_ld, put_at, put_no, ev_t, ev_c, reduceIte,
        Nat.reduceEqDiff, List.map_cons, List.map_nil]
    refine put1_eq (v := .int .i64 a_0.Leader) rfl ?_
    simp only [run_fa, put1_some, Nat.reduceAdd, Nat.zero_add, Nat.add_zero, xfa_ref, run_ld, put_at, put_no, ev_t, ev_c, reduceIte, Nat.reduceEqDiff, List.map_cons, List.map_nil]
    refine put1_eq (v := .int .i64 b_1.Leader) rfl ?_
    simp only [run_bin, put1_some, xneq, run_ops_nil, run_cond, put_at, put_no, ev_t, ev_c, reduceIte, Nat.reduceEqDiff, List.map_cons, List.map_nil]
    refine cond_split (t := (decide (a_0.Leader ≠ b_1.Leader))) (fun hc14 => ?_) (fun hc14 => ?_)
    · rw [iteT hc14] at hF
      simp only [run_seq, run_reg, run_mv, run_ops_nil, run_ret, put_at, put_no, ev_t, ev_c, reduceIte, Nat.reduceEqDiff, List.map_cons, List.map_nil]
      have he := some_inj hF
      subst he
      simp only [end_ret1, put_at, put_no, ev_t, ev_c, reduceIte, Nat.reduceEqDiff, List.map_cons, List.map_nil]
      exact rfl
    · rw [iteF hc14] at hF
      simp only [run_skip, x41_1, run_seq, run_reg, run_fa, put1_some, Nat.reduceAdd, Nat.zero_add, Nat.add_zero, xfa_ref, run_ld, put_at, put_no, ev_t, ev_c, reduceIte,
          Nat.reduceEqDiff, List.map_cons, List.map_nil]
      refine put1_eq (v := lst cI a_0.InStep) rfl ?_
      simp only [run_fa, put1_some, Nat.reduceAdd, Nat.zero_add, Nat.add_zero, xfa_ref, run_ld, put_at, put_no, ev_t, ev_c, reduceIte, Nat.reduceEqDiff, List.map_cons,
          List.map_nil]
      refine put1_eq (v := lst cI b_1.InStep) rfl ?_
      obtain ⟨v15, hx16, hF17⟩ := bind_some' hF
      simp only [run_call, put_at, put_no, ev_t, ev_c, reduceIte, Nat.reduceEqDiff, List.map_cons, List.map_nil]
      refine call1 rfl (mapM1 snap_lst (mapM1 snap_lst mapM0)) (laws_eqIntS_x (fun b hb => decide_eq_true hb) k a_0.InStep b_1.InStep v15 hx16) ?_
      simp only [run_un, put1_some, xnot, run_ops_nil, run_cond, put_at, put_no, ev_t, ev_c, reduceIte, Nat.reduceEqDiff, List.map_cons, List.map_nil]
      refine cond_split (t := (!v15)) (fun hc18 => ?_) (fun hc18 => ?_)
      · rw [iteT hc18] at hF17
        simp only [run_seq, run_reg, run_mv, run_ops_nil, run_ret, put_at, put_no, ev_t, ev_c, reduceIte, Nat.reduceEqDiff, List.map_cons, List.map_nil]
        have he := some_inj hF17
        subst he
        simp only [end_ret1, put_at, put_no, ev_t, ev_c, reduceIte, Nat.reduceEqDiff, List.map_cons, List.map_nil]
        exact rfl
      · rw [iteF hc18] at hF17
        simp only [run_skip, run_seq, run_reg, run_mv, run_ops_nil, run_ret, put_at, put_no, ev_t, ev_c, reduceIte, Nat.reduceEqDiff, List.map_cons, List.map_nil]
        have he := some_inj hF17
        subst he
        simp only [end_ret1, put_at, put_no, ev_t, ev_c, reduceIte, Nat.reduceEqDiff, List.map_cons, List.map_nil]
        exact rfl
theorem laws_eqRow_x {W : Nat → Bool} {h : Heap} (hW : ∀ b,
    h.length ≤ b → W b = true) (a_0 : Row) (b_1 : Row) (r : Bool) (hF : laws_eqRow a_0 b_1 = some r) : Ret E W 69 [.agg [.int .i64 a_0.Epoch, .int .i64 a_0.Value],
    .agg [.int .i64 b_1.Epoch, .int .i64 b_1.Value]] h (fun v h' => cut h.length h' E.sz false 9 v = some (.bool r)) := by
  refine Ret.of (fn := x69) rfl (Run.of ?_)
  unfold laws_eqRow at hF
  have zf0 : argFr [.agg [.int .i64 a_0.Epoch, .int .i64 a_0.Value], .agg [.int .i64 b_1.Epoch, .int .i64 b_1.Value]] 0 = .agg [.int .i64 a_0.Epoch, .int .i64 a_0.Value] := rfl
  have zf1 : argFr [.agg [.int .i64 a_0.Epoch, .int .i64 a_0.Value], .agg [.int .i64 b_1.Epoch, .int .i64 b_1.Value]] 1 = .agg [.int .i64 b_1.Epoch, .int .i64 b_1.Value] := rfl
  generalize argFr [.agg [.int .i64 a_0.Epoch, .int .i64 a_0.Value], .agg [.int .i64 b_1.Epoch, .int .i64 b_1.Value]] = fr0 at zf0 zf1 ⊢
  have hS : Sep h h.length [] := Sep.nil h
  simp only [x69, run_seq, run_reg, run_box, zf0, put_at, put_no, ev_t, ev_c, reduceIte, Nat.reduceEqDiff, List.map_cons, List.map_nil]
  refine put2_boxC (cs := [.int .i64 a_0.Epoch, .int .i64 a_0.Value]) hS rfl rfl rfl (fun b1 h2 hS3 => ?_)
  simp only [run_box, zf1, put_at, put_no, ev_t, ev_c, reduceIte, Nat.reduceEqDiff, List.map_cons, List.map_nil]
  refine put2_boxC (cs := [.int .i64 b_1.Epoch, .int .i64 b_1.Value]) hS3 rfl rfl rfl (fun b5 h6 hS7 => ?_)
  simp only [run_mv, run_ops_nil, put_at, put_no, ev_t, ev_c, reduceIte, Nat.reduceEqDiff, List.map_cons, List.map_nil]
  refine frz_stepC (Sep.m1 hS7) hW (by simp only [put_at, put_no, ev_t, ev_c, reduceIte, Nat.reduceEqDiff, List.map_cons, List.map_nil]) (fun h9 hS10 => ?_)
  refine frz_stepC hS10 hW (by simp only [put_at, put_no, ev_t, ev_c, reduceIte, Nat.reduceEqDiff, List.map_cons, List.map_nil]) (fun h11 hS12 => ?_)
  simp only [run_frz_nil, x69_2, run_seq, run_reg, run_fa, put1_some, Nat.reduceAdd, Nat.zero_add, Nat.add_zero, xfa_ref, run_ld, put_at, put_no, ev_t, ev_c, reduceIte,
      Nat.reduceEqDiff, List.map_cons, List.map_nil]
  refine put1_eq (v := .int .i64 a_0.Epoch) rfl ?_
  simp only [run_fa, put1_some, Nat.reduceAdd, Nat.zero_add, Nat.add_zero, xfa_ref, run_ld, put_at, put_no, ev_t, ev_c, reduceIte, Nat.reduceEqDiff, List.map_cons, List.map_nil]
  refine put1_eq (v := .int .i64 b_1.Epoch) rfl ?_
  simp only [run_bin, put1_some, xneq, run_ops_nil, run_cond, put_at, put_no, ev_t, ev_c, reduceIte, Nat.reduceEqDiff, List.map_cons, List.map_nil]
  refine cond_split (t := (decide (a_0.Epoch ≠ b_1.Epoch))) (fun hc13 => ?_) (fun hc13 => ?_)
  · rw [iteT hc13] at hF
    simp only [run_seq, run_reg, run_mv, run_ops_nil, run_ret, put_at, put_no, ev_t, ev_c, reduceIte, Nat.reduceEqDiff, List.map_cons, List.map_nil]
    have he := some_inj hF
    subst he
    simp only [end_ret1, put_at, put_no, ev_t, ev_c, reduceIte, Nat.reduceEqDiff, List.map_cons, List.map_nil]
    exact rfl
  · rw [iteF hc13] at hF
    simp only [run_skip, x69_1, run_seq, run_reg, run_fa, put1_some, Nat.reduceAdd, Nat.zero_add, Nat.add_zero, xfa_ref, run_ld, put_at, put_no, ev_t, ev_c, reduceIte,
        Nat.reduceEqDiff, List.map_cons, List.map_nil]
    refine put1_eq (v := .int .i64 a_0.Value) rfl ?_
    simp only [run_fa, put1_some, Nat.reduceAdd, Nat.zero_add, Nat.add_zero, xfa_ref, run_ld, put_at, put_no, ev_t, ev_c, reduceIte, Nat.reduceEqDiff, List.map_cons, List.map_nil]
    refine put1_eq (v := .int .i64 b_1.Value) rfl ?_
    simp only [run_bin, put1_some, xneq, run_ops_nil, run_cond, put_at, put_no, ev_t, ev_c, reduceIte, Nat.reduceEqDiff, List.map_cons, List.map_nil]
    refine cond_split (t := (decide (a_0.Value ≠ b_1.Value))) (fun hc14 => ?_) (fun hc14 => ?_)
    · rw [iteT hc14] at hF
      simp only [run_seq, run_reg, run_mv, run_ops_nil, run_ret, put_at, put_no, ev_t, ev_c, reduceIte, Nat.reduceEqDiff, List.map_cons, List.map_nil]
      have he := some_inj hF
      subst he
      simp only [end_ret1, put_at, put_no, ev_t, ev_c, reduceIte, Nat.reduceEqDiff, List.map_cons, List.map_nil]
      exact rfl
    · rw [iteF hc14] at hF
      simp only [run_skip, run_seq, run_reg, run_mv, run_ops_nil, run_ret, put_at, put_no, ev_t, ev_c, reduceIte, Nat.reduceEqDiff, List.map_cons, List.map_nil]
      have he := some_inj hF
      subst he
      simp only [end_ret1, put_at, put_no, ev_t, ev_c, reduceIte, Nat.reduceEqDiff, List.map_cons, List.map_nil]
      exact rfl
theorem laws_eqRowS_x {W : Nat → Bool} {h : Heap} (hW : ∀ b,
    h.length ≤ b → W b = true) (k : Nat) (a_0 : List Row) (b_1 : List Row) (r : Bool) (hF : laws_eqRowS k a_0 b_1 = some r) : Ret E W 43 [lst Row.cells a_0,
    lst Row.cells b_1] h (fun v h' => cut h.length h' E.sz false 9 v = some (.bool r)) := by
  refine Ret.of (fn := x43) rfl (Run.of ?_)
  unfold laws_eqRowS at hF
  have zf0 : argFr [lst Row.cells a_0, lst Row.cells b_1] 0 = lst Row.cells a_0 := rfl
  have zf1 : argFr [lst Row.cells a_0, lst Row.cells b_1] 1 = lst Row.cells b_1 := rfl
  generalize argFr [lst Row.cells a_0, lst Row.cells b_1] = fr0 at zf0 zf1 ⊢
  have hS : Sep h h.length [] := Sep.nil h
  simp only [x43, run_seq, run_reg, run_mv, run_ops_nil, x43_7, zf0, run_len, put1_some, xlen_lst, zf1, run_bin, xneq, run_cond, put_at, put_no, ev_t, ev_c, reduceIte,
      Nat.reduceEqDiff, List.map_cons, List.map_nil]
  refine cond_split (t := (decide ((List.length a_0 : Int) ≠ (List.length b_1 : Int)))) (fun hc1 => ?_) (fun hc1 => ?_)
  · rw [iteT hc1] at hF
    simp only [run_seq, run_reg, run_mv, run_ops_nil, run_ret, put_at, put_no, ev_t, ev_c, reduceIte, Nat.reduceEqDiff, List.map_cons, List.map_nil]
    have he := some_inj hF
    subst he
    simp only [end_ret1, put_at, put_no, ev_t, ev_c, reduceIte, Nat.reduceEqDiff, List.map_cons, List.map_nil]
    exact rfl
  · rw [iteF hc1] at hF
    simp only [run_skip, x43_6, run_seq, run_reg, run_mv, run_ops_nil, put_at, put_no, ev_t, ev_c, reduceIte, Nat.reduceEqDiff, List.map_cons, List.map_nil]
    obtain ⟨oc6, hX8, hk9⟩ := jn_some hF
    simp only [x43_5]
    refine loopF_j (σ := Int) (fun s41 => laws_eqRowS_b1 a_0 b_1 s41)
        (fun s fr' h' => fr' 0 = lst Row.cells a_0 ∧ fr' 1 = lst Row.cells b_1 ∧ fr' 5 = .int .i64 s ∧ Sep h' h.length ([])) hX8 ⟨by simp only [zf0, put_at, put_no, ev_t, ev_c,
        reduceIte, Nat.reduceEqDiff, List.map_cons, List.map_nil], by simp only [zf1, put_at, put_no, ev_t, ev_c, reduceIte, Nat.reduceEqDiff, List.map_cons, List.map_nil],
        by simp only [put_at, put_no, ev_t, ev_c, reduceIte, Nat.reduceEqDiff, List.map_cons, List.map_nil], hS⟩ (fun _ _ _ h => h) ?_ ?_
    · rintro s3 fr18 h19 ⟨f21, f22, f23, hS20⟩ oc7 hF10 hr11 Q12 hN13 hK14 hR15 hE16
      unfold laws_eqRowS_b1 at hF10
      simp only [x43_3, run_seq, run_reg, f23, run_mv, f21, run_len, put1_some, xlen_lst, run_bin, xlss, run_ops_nil, run_cond, put_at, put_no, ev_t, ev_c, reduceIte,
          Nat.reduceEqDiff, List.map_cons, List.map_nil]
      refine cond_split (t := (decide (s3 < (List.length a_0 : Int)))) (fun hc25 => ?_) (fun hc25 => ?_)
      · rw [iteT hc25] at hF10
        obtain ⟨x26, hx27, hF28⟩ := bind_some' hF10
        simp only [run_skip, x43_2, run_seq, run_block, x43_1, run_draw, f21, d4_mv, put1d_some, f23, d4_ia, put_at, put_no, ev_t, ev_c, reduceIte, Nat.reduceEqDiff,
            List.map_cons, List.map_nil]
        refine put1d_eq (v := .ref (Row.cells x26) 0) (xia_lst hx27 rfl) ?_
        simp only [d4_ld, put_at, put_no, ev_t, ev_c, reduceIte, Nat.reduceEqDiff, List.map_cons, List.map_nil]
        refine put1d_eq (v := .agg [.int .i64 x26.Epoch, .int .i64 x26.Value]) rfl ?_
        obtain ⟨x29, hx30, hF31⟩ := bind_some' hF28
        simp only [f22, d4_mv, put1d_some, f23, d4_ia, put_at, put_no, ev_t, ev_c, reduceIte, Nat.reduceEqDiff, List.map_cons, List.map_nil]
        refine put1d_eq (v := .ref (Row.cells x29) 0) (xia_lst hx30 rfl) ?_
        simp only [d4_ld, put_at, put_no, ev_t, ev_c, reduceIte, Nat.reduceEqDiff, List.map_cons, List.map_nil]
        refine put1d_eq (v := .agg [.int .i64 x29.Epoch, .int .i64 x29.Value]) rfl ?_
        obtain ⟨v32, hx33, hF34⟩ := bind_some' hF31
        simp only [run_d3_call, put_at, put_no, ev_t, ev_c, reduceIte, Nat.reduceEqDiff, List.map_cons, List.map_nil]
        refine call1d rfl (mapM1 (snap_agg (mapM1 snap_int (mapM1 snap_int mapM0))) (mapM1 (snap_agg (mapM1 snap_int (mapM1 snap_int mapM0))) mapM0)) (laws_eqRow_x
            (fun b hb => decide_eq_true hb) x26 x29 v32 hx33) ?_
        simp only [d4_un, put1d_some, xnot, run_draw_nil, run_cond, put_at, put_no, ev_t, ev_c, reduceIte, Nat.reduceEqDiff, List.map_cons, List.map_nil]
        refine cond_split (t := (!v32)) (fun hc35 => ?_) (fun hc35 => ?_)
        · rw [iteT hc35] at hF34
          simp only [run_seq, run_reg, run_mv, run_ops_nil, run_ret, put_at, put_no, ev_t, ev_c, reduceIte, Nat.reduceEqDiff, List.map_cons, List.map_nil]
          have e36 := some_inj hF34
          subst e36
          have ho37 := hr11 _ rfl
          have hk38 := hk9
          rw [ho37] at hk38
          dsimp only [jnO] at hk38
          apply hR15
          have he := some_inj hk38
          subst he
          simp only [end_ret1, put_at, put_no, ev_t, ev_c, reduceIte, Nat.reduceEqDiff, List.map_cons, List.map_nil]
          exact rfl
        · rw [iteF hc35] at hF34
          simp only [run_skip, run_blk, run_reg, f23, run_mv, run_bin, put1_some, xadd, run_ops_nil, run_nil, put_at, put_no, ev_t, ev_c, reduceIte, Nat.reduceEqDiff,
              List.map_cons, List.map_nil]
          have e39 := some_inj hF34
          exact hN13 _ _ _ e39.symm ⟨by simp only [f21, put_at, put_no, ev_t, ev_c, reduceIte, Nat.reduceEqDiff, List.map_cons, List.map_nil], by simp only [f22, put_at, put_no,
              ev_t, ev_c, reduceIte, Nat.reduceEqDiff, List.map_cons, List.map_nil], by simp only [put_at, put_no, ev_t, ev_c, reduceIte, Nat.reduceEqDiff, List.map_cons,
              List.map_nil], hS20⟩
      · rw [iteF hc25] at hF10
        simp only [run_exit, out_code, out_nil, put_at, put_no, ev_t, ev_c, reduceIte, Nat.reduceEqDiff, List.map_cons, List.map_nil]
        have e40 := some_inj hF10
        exact hK14 _ _ _ e40.symm ⟨by simp only [f21, put_at, put_no, ev_t, ev_c, reduceIte, Nat.reduceEqDiff, List.map_cons, List.map_nil], by simp only [f22, put_at, put_no,
            ev_t, ev_c, reduceIte, Nat.reduceEqDiff, List.map_cons, List.map_nil], by simp only [f23, put_at, put_no, ev_t, ev_c, reduceIte, Nat.reduceEqDiff, List.map_cons,
            List.map_nil], hS20⟩
    · rintro s42 fr43 h44 rfl ⟨f46, f47, f48, hS45⟩
      dsimp only [jnO] at hk9
      unfold laws_eqRowS_j1 at hk9
      simp only [run_seq, run_reg, run_mv, run_ops_nil, run_ret, put_at, put_no, ev_t, ev_c, reduceIte, Nat.reduceEqDiff, List.map_cons, List.map_nil]
      have he := some_inj hk9
      subst he
      simp only [end_ret1, put_at, put_no, ev_t, ev_c, reduceIte, Nat.reduceEqDiff, List.map_cons, List.map_nil]
      exact rfl
theorem laws_eqNode_x {W : Nat → Bool} {h : Heap} (hW : ∀ b,
    h.length ≤ b → W b = true) (k : Nat) (a_0 : Node) (b_1 : Node) (r : Bool) (hF : laws_eqNode k a_0 b_1 = some r) : Ret E W 68 [.agg [.int .i64 a_0.View.Epoch,
    .int .i64 a_0.View.Leader, lst cI a_0.View.InStep, lst Row.cells a_0.Log, lst cI a_0.Known, .int .i64 a_0.Told], .agg [.int .i64 b_1.View.Epoch, .int .i64 b_1.View.Leader,
    lst cI b_1.View.InStep, lst Row.cells b_1.Log, lst cI b_1.Known, .int .i64 b_1.Told]] h (fun v h' => cut h.length h' E.sz false 9 v = some (.bool r)) := by
  refine Ret.of (fn := x68) rfl (Run.of ?_)
  unfold laws_eqNode at hF
  have zf0 : argFr [.agg [.int .i64 a_0.View.Epoch, .int .i64 a_0.View.Leader, lst cI a_0.View.InStep, lst Row.cells a_0.Log, lst cI a_0.Known, .int .i64 a_0.Told],
      .agg [.int .i64 b_1.View.Epoch, .int .i64 b_1.View.Leader, lst cI b_1.View.InStep, lst Row.cells b_1.Log, lst cI b_1.Known,
      .int .i64 b_1.Told]] 0 = .agg [.int .i64 a_0.View.Epoch, .int .i64 a_0.View.Leader, lst cI a_0.View.InStep, lst Row.cells a_0.Log, lst cI a_0.Known,
      .int .i64 a_0.Told] := rfl
  have zf1 : argFr [.agg [.int .i64 a_0.View.Epoch, .int .i64 a_0.View.Leader, lst cI a_0.View.InStep, lst Row.cells a_0.Log, lst cI a_0.Known, .int .i64 a_0.Told],
      .agg [.int .i64 b_1.View.Epoch, .int .i64 b_1.View.Leader, lst cI b_1.View.InStep, lst Row.cells b_1.Log, lst cI b_1.Known,
      .int .i64 b_1.Told]] 1 = .agg [.int .i64 b_1.View.Epoch, .int .i64 b_1.View.Leader, lst cI b_1.View.InStep, lst Row.cells b_1.Log, lst cI b_1.Known,
      .int .i64 b_1.Told] := rfl
  generalize argFr [.agg [.int .i64 a_0.View.Epoch, .int .i64 a_0.View.Leader, lst cI a_0.View.InStep, lst Row.cells a_0.Log, lst cI a_0.Known, .int .i64 a_0.Told],
      .agg [.int .i64 b_1.View.Epoch, .int .i64 b_1.View.Leader, lst cI b_1.View.InStep, lst Row.cells b_1.Log, lst cI b_1.Known, .int .i64 b_1.Told]] = fr0 at zf0 zf1 ⊢
  have hS : Sep h h.length [] := Sep.nil h
  simp only [x68, run_seq, run_reg, run_box, zf0, put_at, put_no, ev_t, ev_c, reduceIte, Nat.reduceEqDiff, List.map_cons, List.map_nil]
  refine put2_boxC (cs := [.int .i64 a_0.View.Epoch, .int .i64 a_0.View.Leader, lst cI a_0.View.InStep, lst Row.cells a_0.Log, lst cI a_0.Known,
      .int .i64 a_0.Told]) hS rfl rfl rfl (fun b1 h2 hS3 => ?_)
  simp only [run_box, zf1, put_at, put_no, ev_t, ev_c, reduceIte, Nat.reduceEqDiff, List.map_cons, List.map_nil]
  refine put2_boxC (cs := [.int .i64 b_1.View.Epoch, .int .i64 b_1.View.Leader, lst cI b_1.View.InStep, lst Row.cells b_1.Log, lst cI b_1.Known,
      .int .i64 b_1.Told]) hS3 rfl rfl rfl (fun b5 h6 hS7 => ?_)
  simp only [run_mv, run_ops_nil, put_at, put_no, ev_t, ev_c, reduceIte, Nat.reduceEqDiff, List.map_cons, List.map_nil]
  refine frz_stepC (Sep.m1 hS7) hW (by simp only [put_at, put_no, ev_t, ev_c, reduceIte, Nat.reduceEqDiff, List.map_cons, List.map_nil]) (fun h9 hS10 => ?_)
  refine frz_stepC hS10 hW (by simp only [put_at, put_no, ev_t, ev_c, reduceIte, Nat.reduceEqDiff, List.map_cons, List.map_nil]) (fun h11 hS12 => ?_)
  simp only [run_frz_nil, x68_4, run_seq, run_reg, run_fa, put1_some, Nat.reduceAdd, Nat.zero_add, Nat.add_zero, xfa_ref, run_ld, put_at, put_no, ev_t, ev_c, reduceIte,
      Nat.reduceEqDiff, List.map_cons, List.map_nil]
  refine put1_eq (v := .agg [.int .i64 a_0.View.Epoch, .int .i64 a_0.View.Leader, lst cI a_0.View.InStep]) rfl ?_
  simp only [run_fa, put1_some, Nat.reduceAdd, Nat.zero_add, Nat.add_zero, xfa_ref, run_ld, put_at, put_no, ev_t, ev_c, reduceIte, Nat.reduceEqDiff, List.map_cons, List.map_nil]
  refine put1_eq (v := .agg [.int .i64 b_1.View.Epoch, .int .i64 b_1.View.Leader, lst cI b_1.View.InStep]) rfl ?_
  obtain ⟨v13, hx14, hF15⟩ := bind_some' hF
  simp only [run_call, put_at, put_no, ev_t, ev_c, reduceIte, Nat.reduceEqDiff, List.map_cons, List.map_nil]
  refine call1 rfl (mapM1 (snap_agg (mapM1 snap_int (mapM1 snap_int (mapM1 snap_lst mapM0)))) (mapM1 (snap_agg (mapM1 snap_int (mapM1 snap_int (mapM1 snap_lst mapM0)))) mapM0))
      (laws_eqView_x (fun b hb => decide_eq_true hb) k a_0.View b_1.View v13 hx14) ?_
  simp only [run_un, put1_some, xnot, run_ops_nil, run_cond, put_at, put_no, ev_t, ev_c, reduceIte, Nat.reduceEqDiff, List.map_cons, List.map_nil]
  refine cond_split (t := (!v13)) (fun hc16 => ?_) (fun hc16 => ?_)
  · rw [iteT hc16] at hF15
    simp only [run_seq, run_reg, run_mv, run_ops_nil, run_ret, put_at, put_no, ev_t, ev_c, reduceIte, Nat.reduceEqDiff, List.map_cons, List.map_nil]
    have he := some_inj hF15
    subst he
    simp only [end_ret1, put_at, put_no, ev_t, ev_c, reduceIte, Nat.reduceEqDiff, List.map_cons, List.map_nil]
    exact rfl
  · rw [iteF hc16] at hF15
    simp only [run_skip, x68_3, run_seq, run_reg, run_fa, put1_some, Nat.reduceAdd, Nat.zero_add, Nat.add_zero, xfa_ref, run_ld, put_at, put_no, ev_t, ev_c, reduceIte,
        Nat.reduceEqDiff, List.map_cons, List.map_nil]
    refine put1_eq (v := lst Row.cells a_0.Log) rfl ?_
    simp only [run_fa, put1_some, Nat.reduceAdd, Nat.zero_add, Nat.add_zero, xfa_ref, run_ld, put_at, put_no, ev_t, ev_c, reduceIte, Nat.reduceEqDiff, List.map_cons, List.map_nil]
    refine put1_eq (v := lst Row.cells b_1.Log) rfl ?_
    obtain ⟨v17, hx18, hF19⟩ := bind_some' hF15
    simp only [run_call, put_at, put_no, ev_t, ev_c, reduceIte, Nat.reduceEqDiff, List.map_cons, List.map_nil]
    refine call1 rfl (mapM1 snap_lst (mapM1 snap_lst mapM0)) (laws_eqRowS_x (fun b hb => decide_eq_true hb) k a_0.Log b_1.Log v17 hx18) ?_
    simp only [run_un, put1_some, xnot, run_ops_nil, run_cond, put_at, put_no, ev_t, ev_c, reduceIte, Nat.reduceEqDiff, List.map_cons, List.map_nil]
    refine cond_split (t := (!v17)) (fun hc20 => ?_) (fun hc20 => ?_)
    · rw [iteT hc20] at hF19
      simp only [run_seq, run_reg, run_mv, run_ops_nil, run_ret, put_at, put_no, ev_t, ev_c, reduceIte, Nat.reduceEqDiff, List.map_cons, List.map_nil]
      have he := some_inj hF19
      subst he
      simp only [end_ret1, put_at, put_no, ev_t, ev_c, reduceIte, Nat.reduceEqDiff, List.map_cons, List.map_nil]
      exact rfl
    · rw [iteF hc20] at hF19
      simp only [run_skip, x68_2, run_seq, run_reg, run_fa, put1_some, Nat.reduceAdd, Nat.zero_add, Nat.add_zero, xfa_ref, run_ld, put_at, put_no, ev_t, ev_c, reduceIte,
          Nat.reduceEqDiff, List.map_cons, List.map_nil]
      refine put1_eq (v := lst cI a_0.Known) rfl ?_
      simp only [run_fa, put1_some, Nat.reduceAdd, Nat.zero_add, Nat.add_zero, xfa_ref, run_ld, put_at, put_no, ev_t, ev_c, reduceIte, Nat.reduceEqDiff, List.map_cons,
          List.map_nil]
      refine put1_eq (v := lst cI b_1.Known) rfl ?_
      obtain ⟨v21, hx22, hF23⟩ := bind_some' hF19
      simp only [run_call, put_at, put_no, ev_t, ev_c, reduceIte, Nat.reduceEqDiff, List.map_cons, List.map_nil]
      refine call1 rfl (mapM1 snap_lst (mapM1 snap_lst mapM0)) (laws_eqIntS_x (fun b hb => decide_eq_true hb) k a_0.Known b_1.Known v21 hx22) ?_
      simp only [run_un, put1_some, xnot, run_ops_nil, run_cond, put_at, put_no, ev_t, ev_c, reduceIte, Nat.reduceEqDiff, List.map_cons, List.map_nil]
      refine cond_split (t := (!v21)) (fun hc24 => ?_) (fun hc24 => ?_)
      · rw [iteT hc24] at hF23
        simp only [run_seq, run_reg, run_mv, run_ops_nil, run_ret, put_at, put_no, ev_t, ev_c, reduceIte, Nat.reduceEqDiff, List.map_cons, List.map_nil]
        have he := some_inj hF23
        subst he
        simp only [end_ret1, put_at, put_no, ev_t, ev_c, reduceIte, Nat.reduceEqDiff, List.map_cons, List.map_nil]
        exact rfl
      · rw [iteF hc24] at hF23
        simp only [run_skip, x68_1, run_seq, run_reg, run_fa, put1_some, Nat.reduceAdd, Nat.zero_add, Nat.add_zero, xfa_ref, run_ld, put_at, put_no, ev_t, ev_c, reduceIte,
            Nat.reduceEqDiff, List.map_cons, List.map_nil]
        refine put1_eq (v := .int .i64 a_0.Told) rfl ?_
        simp only [run_fa, put1_some, Nat.reduceAdd, Nat.zero_add, Nat.add_zero, xfa_ref, run_ld, put_at, put_no, ev_t, ev_c, reduceIte, Nat.reduceEqDiff, List.map_cons,
            List.map_nil]
        refine put1_eq (v := .int .i64 b_1.Told) rfl ?_
        simp only [run_bin, put1_some, xneq, run_ops_nil, run_cond, put_at, put_no, ev_t, ev_c, reduceIte, Nat.reduceEqDiff, List.map_cons, List.map_nil]
        refine cond_split (t := (decide (a_0.Told ≠ b_1.Told))) (fun hc25 => ?_) (fun hc25 => ?_)
        · rw [iteT hc25] at hF23
          simp only [run_seq, run_reg, run_mv, run_ops_nil, run_ret, put_at, put_no, ev_t, ev_c, reduceIte, Nat.reduceEqDiff, List.map_cons, List.map_nil]
          have he := some_inj hF23
          subst he
          simp only [end_ret1, put_at, put_no, ev_t, ev_c, reduceIte, Nat.reduceEqDiff, List.map_cons, List.map_nil]
          exact rfl
        · rw [iteF hc25] at hF23
          simp only [run_skip, run_seq, run_reg, run_mv, run_ops_nil, run_ret, put_at, put_no, ev_t, ev_c, reduceIte, Nat.reduceEqDiff, List.map_cons, List.map_nil]
          have he := some_inj hF23
          subst he
          simp only [end_ret1, put_at, put_no, ev_t, ev_c, reduceIte, Nat.reduceEqDiff, List.map_cons, List.map_nil]
          exact rfl
theorem laws_eqNodeS_x {W : Nat → Bool} {h : Heap} (hW : ∀ b,
    h.length ≤ b → W b = true) (k : Nat) (a_0 : List Node) (b_1 : List Node) (r : Bool) (hF : laws_eqNodeS k a_0 b_1 = some r) : Ret E W 42 [lst Node.cells a_0,
    lst Node.cells b_1] h (fun v h' => cut h.length h' E.sz false 9 v = some (.bool r)) := by
  refine Ret.of (fn := x42) rfl (Run.of ?_)
  unfold laws_eqNodeS at hF
  have zf0 : argFr [lst Node.cells a_0, lst Node.cells b_1] 0 = lst Node.cells a_0 := rfl
  have zf1 : argFr [lst Node.cells a_0, lst Node.cells b_1] 1 = lst Node.cells b_1 := rfl
  generalize argFr [lst Node.cells a_0, lst Node.cells b_1] = fr0 at zf0 zf1 ⊢
  have hS : Sep h h.length [] := Sep.nil h
  simp only [x42, run_seq, run_reg, run_mv, run_ops_nil, x42_7, zf0, run_len, put1_some, xlen_lst, zf1, run_bin, xneq, run_cond, put_at, put_no, ev_t, ev_c, reduceIte,
      Nat.reduceEqDiff, List.map_cons, List.map_nil]
  refine cond_split (t := (decide ((List.length a_0 : Int) ≠ (List.length b_1 : Int)))) (fun hc1 => ?_) (fun hc1 => ?_)
  · rw [iteT hc1] at hF
    simp only [run_seq, run_reg, run_mv, run_ops_nil, run_ret, put_at, put_no, ev_t, ev_c, reduceIte, Nat.reduceEqDiff, List.map_cons, List.map_nil]
    have he := some_inj hF
    subst he
    simp only [end_ret1, put_at, put_no, ev_t, ev_c, reduceIte, Nat.reduceEqDiff, List.map_cons, List.map_nil]
    exact rfl
  · rw [iteF hc1] at hF
    simp only [run_skip, x42_6, run_seq, run_reg, run_mv, run_ops_nil, put_at, put_no, ev_t, ev_c, reduceIte, Nat.reduceEqDiff, List.map_cons, List.map_nil]
    obtain ⟨oc6, hX8, hk9⟩ := jn_some hF
    simp only [x42_5]
    refine loopF_j (σ := Int) (fun s41 => laws_eqNodeS_b1 k a_0 b_1 s41)
        (fun s fr' h' => fr' 0 = lst Node.cells a_0 ∧ fr' 1 = lst Node.cells b_1 ∧ fr' 5 = .int .i64 s ∧ Sep h' h.length ([])) hX8 ⟨by simp only [zf0, put_at, put_no, ev_t, ev_c,
        reduceIte, Nat.reduceEqDiff, List.map_cons, List.map_nil], by simp only [zf1, put_at, put_no, ev_t, ev_c, reduceIte, Nat.reduceEqDiff, List.map_cons, List.map_nil],
        by simp only [put_at, put_no, ev_t, ev_c, reduceIte, Nat.reduceEqDiff, List.map_cons, List.map_nil], hS⟩ (fun _ _ _ h => h) ?_ ?_
    · rintro s3 fr18 h19 ⟨f21, f22, f23, hS20⟩ oc7 hF10 hr11 Q12 hN13 hK14 hR15 hE16
      unfold laws_eqNodeS_b1 at hF10
      simp only [x42_3, run_seq, run_reg, f23, run_mv, f21, run_len, put1_some, xlen_lst, run_bin, xlss, run_ops_nil, run_cond, put_at, put_no, ev_t, ev_c, reduceIte,
          Nat.reduceEqDiff, List.map_cons, List.map_nil]
      refine cond_split (t := (decide (s3 < (List.length a_0 : Int)))) (fun hc25 => ?_) (fun hc25 => ?_)
      · rw [iteT hc25] at hF10
        obtain ⟨x26, hx27, hF28⟩ := bind_some' hF10
        simp only [run_skip, x42_2, run_seq, run_block, x42_1, run_draw, f21, d4_mv, put1d_some, f23, d4_ia, put_at, put_no, ev_t, ev_c, reduceIte, Nat.reduceEqDiff,
            List.map_cons, List.map_nil]
        refine put1d_eq (v := .ref (Node.cells x26) 0) (xia_lst hx27 rfl) ?_
        simp only [d4_ld, put_at, put_no, ev_t, ev_c, reduceIte, Nat.reduceEqDiff, List.map_cons, List.map_nil]
        refine put1d_eq (v := .agg [.int .i64 x26.View.Epoch, .int .i64 x26.View.Leader, lst cI x26.View.InStep, lst Row.cells x26.Log, lst cI x26.Known,
            .int .i64 x26.Told]) rfl ?_
        obtain ⟨x29, hx30, hF31⟩ := bind_some' hF28
        simp only [f22, d4_mv, put1d_some, f23, d4_ia, put_at, put_no, ev_t, ev_c, reduceIte, Nat.reduceEqDiff, List.map_cons, List.map_nil]
        refine put1d_eq (v := .ref (Node.cells x29) 0) (xia_lst hx30 rfl) ?_
        simp only [d4_ld, put_at, put_no, ev_t, ev_c, reduceIte, Nat.reduceEqDiff, List.map_cons, List.map_nil]
        refine put1d_eq (v := .agg [.int .i64 x29.View.Epoch, .int .i64 x29.View.Leader, lst cI x29.View.InStep, lst Row.cells x29.Log, lst cI x29.Known,
            .int .i64 x29.Told]) rfl ?_
        obtain ⟨v32, hx33, hF34⟩ := bind_some' hF31
        simp only [run_d3_call, put_at, put_no, ev_t, ev_c, reduceIte, Nat.reduceEqDiff, List.map_cons, List.map_nil]
        refine call1d rfl (mapM1 (snap_agg (mapM1 snap_int (mapM1 snap_int (mapM1 snap_lst (mapM1 snap_lst (mapM1 snap_lst (mapM1 snap_int mapM0))))))) (mapM1 (snap_agg
            (mapM1 snap_int (mapM1 snap_int (mapM1 snap_lst (mapM1 snap_lst (mapM1 snap_lst (mapM1 snap_int mapM0))))))) mapM0)) (laws_eqNode_x
            (fun b hb => decide_eq_true hb) k x26 x29 v32 hx33) ?_
        simp only [d4_un, put1d_some, xnot, run_draw_nil, run_cond, put_at, put_no, ev_t, ev_c, reduceIte, Nat.reduceEqDiff, List.map_cons, List.map_nil]
        refine cond_split (t := (!v32)) (fun hc35 => ?_) (fun hc35 => ?_)
        · rw [iteT hc35] at hF34
          simp only [run_seq, run_reg, run_mv, run_ops_nil, run_ret, put_at, put_no, ev_t, ev_c, reduceIte, Nat.reduceEqDiff, List.map_cons, List.map_nil]
          have e36 := some_inj hF34
          subst e36
          have ho37 := hr11 _ rfl
          have hk38 := hk9
          rw [ho37] at hk38
          dsimp only [jnO] at hk38
          apply hR15
          have he := some_inj hk38
          subst he
          simp only [end_ret1, put_at, put_no, ev_t, ev_c, reduceIte, Nat.reduceEqDiff, List.map_cons, List.map_nil]
          exact rfl
        · rw [iteF hc35] at hF34
          simp only [run_skip, run_blk, run_reg, f23, run_mv, run_bin, put1_some, xadd, run_ops_nil, run_nil, put_at, put_no, ev_t, ev_c, reduceIte, Nat.reduceEqDiff,
              List.map_cons, List.map_nil]
          have e39 := some_inj hF34
          exact hN13 _ _ _ e39.symm ⟨by simp only [f21, put_at, put_no, ev_t, ev_c, reduceIte, Nat.reduceEqDiff, List.map_cons, List.map_nil], by simp only [f22, put_at, put_no,
              ev_t, ev_c, reduceIte, Nat.reduceEqDiff, List.map_cons, List.map_nil], by simp only [put_at, put_no, ev_t, ev_c, reduceIte, Nat.reduceEqDiff, List.map_cons,
              List.map_nil], hS20⟩
      · rw [iteF hc25] at hF10
        simp only [run_exit, out_code, out_nil, put_at, put_no, ev_t, ev_c, reduceIte, Nat.reduceEqDiff, List.map_cons, List.map_nil]
        have e40 := some_inj hF10
        exact hK14 _ _ _ e40.symm ⟨by simp only [f21, put_at, put_no, ev_t, ev_c, reduceIte, Nat.reduceEqDiff, List.map_cons, List.map_nil], by simp only [f22, put_at, put_no,
            ev_t, ev_c, reduceIte, Nat.reduceEqDiff, List.map_cons, List.map_nil], by simp only [f23, put_at, put_no, ev_t, ev_c, reduceIte, Nat.reduceEqDiff, List.map_cons,
            List.map_nil], hS20⟩
    · rintro s42 fr43 h44 rfl ⟨f46, f47, f48, hS45⟩
      dsimp only [jnO] at hk9
      unfold laws_eqNodeS_j1 at hk9
      simp only [run_seq, run_reg, run_mv, run_ops_nil, run_ret, put_at, put_no, ev_t, ev_c, reduceIte, Nat.reduceEqDiff, List.map_cons, List.map_nil]
      have he := some_inj hk9
      subst he
      simp only [end_ret1, put_at, put_no, ev_t, ev_c, reduceIte, Nat.reduceEqDiff, List.map_cons, List.map_nil]
      exact rfl
theorem laws_eqCluster_x {W : Nat → Bool} {h : Heap} (hW : ∀ b,
    h.length ≤ b → W b = true) (k : Nat) (a_0 : Cluster) (b_1 : Cluster) (r : Bool) (hF : laws_eqCluster k a_0 b_1 = some r) : Ret E W 11 [.agg [.int .i64 a_0.Truth.Epoch,
    .int .i64 a_0.Truth.Leader, lst cI a_0.Truth.InStep, lst Node.cells a_0.Nodes, lst Row.cells a_0.Acked], .agg [.int .i64 b_1.Truth.Epoch, .int .i64 b_1.Truth.Leader,
    lst cI b_1.Truth.InStep, lst Node.cells b_1.Nodes, lst Row.cells b_1.Acked]] h (fun v h' => cut h.length h' E.sz false 9 v = some (.bool r)) := by
  refine Ret.of (fn := x11) rfl (Run.of ?_)
  unfold laws_eqCluster at hF
  have zf0 : argFr [.agg [.int .i64 a_0.Truth.Epoch, .int .i64 a_0.Truth.Leader, lst cI a_0.Truth.InStep, lst Node.cells a_0.Nodes, lst Row.cells a_0.Acked],
      .agg [.int .i64 b_1.Truth.Epoch, .int .i64 b_1.Truth.Leader, lst cI b_1.Truth.InStep, lst Node.cells b_1.Nodes,
      lst Row.cells b_1.Acked]] 0 = .agg [.int .i64 a_0.Truth.Epoch, .int .i64 a_0.Truth.Leader, lst cI a_0.Truth.InStep, lst Node.cells a_0.Nodes, lst Row.cells a_0.Acked] := rfl
  have zf1 : argFr [.agg [.int .i64 a_0.Truth.Epoch, .int .i64 a_0.Truth.Leader, lst cI a_0.Truth.InStep, lst Node.cells a_0.Nodes, lst Row.cells a_0.Acked],
      .agg [.int .i64 b_1.Truth.Epoch, .int .i64 b_1.Truth.Leader, lst cI b_1.Truth.InStep, lst Node.cells b_1.Nodes,
      lst Row.cells b_1.Acked]] 1 = .agg [.int .i64 b_1.Truth.Epoch, .int .i64 b_1.Truth.Leader, lst cI b_1.Truth.InStep, lst Node.cells b_1.Nodes, lst Row.cells b_1.Acked] := rfl
  generalize argFr [.agg [.int .i64 a_0.Truth.Epoch, .int .i64 a_0.Truth.Leader, lst cI a_0.Truth.InStep, lst Node.cells a_0.Nodes, lst Row.cells a_0.Acked],
      .agg [.int .i64 b_1.Truth.Epoch, .int .i64 b_1.Truth.Leader, lst cI b_1.Truth.InStep, lst Node.cells b_1.Nodes, lst Row.cells b_1.Acked]] = fr0 at zf0 zf1 ⊢
  have hS : Sep h h.length [] := Sep.nil h
  simp only [x11, run_seq, run_reg, run_box, zf0, put_at, put_no, ev_t, ev_c, reduceIte, Nat.reduceEqDiff, List.map_cons, List.map_nil]
  refine put2_boxC (cs := [.int .i64 a_0.Truth.Epoch, .int .i64 a_0.Truth.Leader, lst cI a_0.Truth.InStep, lst Node.cells a_0.Nodes,
      lst Row.cells a_0.Acked]) hS rfl rfl rfl (fun b1 h2 hS3 => ?_)
  simp only [run_box, zf1, put_at, put_no, ev_t, ev_c, reduceIte, Nat.reduceEqDiff, List.map_cons, List.map_nil]
  refine put2_boxC (cs := [.int .i64 b_1.Truth.Epoch, .int .i64 b_1.Truth.Leader, lst cI b_1.Truth.InStep, lst Node.cells b_1.Nodes,
      lst Row.cells b_1.Acked]) hS3 rfl rfl rfl (fun b5 h6 hS7 => ?_)
  simp only [run_mv, run_ops_nil, put_at, put_no, ev_t, ev_c, reduceIte, Nat.reduceEqDiff, List.map_cons, List.map_nil]
  refine frz_stepC (Sep.m1 hS7) hW (by simp only [put_at, put_no, ev_t, ev_c, reduceIte, Nat.reduceEqDiff, List.map_cons, List.map_nil]) (fun h9 hS10 => ?_)
  refine frz_stepC hS10 hW (by simp only [put_at, put_no, ev_t, ev_c, reduceIte, Nat.reduceEqDiff, List.map_cons, List.map_nil]) (fun h11 hS12 => ?_)
  simp only [run_frz_nil, x11_3, run_seq, run_reg, run_fa, put1_some, Nat.reduceAdd, Nat.zero_add, Nat.add_zero, xfa_ref, run_ld, put_at, put_no, ev_t, ev_c, reduceIte,
      Nat.reduceEqDiff, List.map_cons, List.map_nil]
  refine put1_eq (v := .agg [.int .i64 a_0.Truth.Epoch, .int .i64 a_0.Truth.Leader, lst cI a_0.Truth.InStep]) rfl ?_
  simp only [run_fa, put1_some, Nat.reduceAdd, Nat.zero_add, Nat.add_zero, xfa_ref, run_ld, put_at, put_no, ev_t, ev_c, reduceIte, Nat.reduceEqDiff, List.map_cons, List.map_nil]
  refine put1_eq (v := .agg [.int .i64 b_1.Truth.Epoch, .int .i64 b_1.Truth.Leader, lst cI b_1.Truth.InStep]) rfl ?_
  obtain ⟨v13, hx14, hF15⟩ := bind_some' hF
  simp only [run_call, put_at, put_no, ev_t, ev_c, reduceIte, Nat.reduceEqDiff, List.map_cons, List.map_nil]
  refine call1 rfl (mapM1 (snap_agg (mapM1 snap_int (mapM1 snap_int (mapM1 snap_lst mapM0)))) (mapM1 (snap_agg (mapM1 snap_int (mapM1 snap_int (mapM1 snap_lst mapM0)))) mapM0))
      (laws_eqView_x (fun b hb => decide_eq_true hb) k a_0.Truth b_1.Truth v13 hx14) ?_
  simp only [run_un, put1_some, xnot, run_ops_nil, run_cond, put_at, put_no, ev_t, ev_c, reduceIte, Nat.reduceEqDiff, List.map_cons, List.map_nil]
  refine cond_split (t := (!v13)) (fun hc16 => ?_) (fun hc16 => ?_)
  · rw [iteT hc16] at hF15
    simp only [run_seq, run_reg, run_mv, run_ops_nil, run_ret, put_at, put_no, ev_t, ev_c, reduceIte, Nat.reduceEqDiff, List.map_cons, List.map_nil]
    have he := some_inj hF15
    subst he
    simp only [end_ret1, put_at, put_no, ev_t, ev_c, reduceIte, Nat.reduceEqDiff, List.map_cons, List.map_nil]
    exact rfl
  · rw [iteF hc16] at hF15
    simp only [run_skip, x11_2, run_seq, run_reg, run_fa, put1_some, Nat.reduceAdd, Nat.zero_add, Nat.add_zero, xfa_ref, run_ld, put_at, put_no, ev_t, ev_c, reduceIte,
        Nat.reduceEqDiff, List.map_cons, List.map_nil]
    refine put1_eq (v := lst Node.cells a_0.Nodes) rfl ?_
    simp only [run_fa, put1_some, Nat.reduceAdd, Nat.zero_add, Nat.add_zero, xfa_ref, run_ld, put_at, put_no, ev_t, ev_c, reduceIte, Nat.reduceEqDiff, List.map_cons, List.map_nil]
    refine put1_eq (v := lst Node.cells b_1.Nodes) rfl ?_
    obtain ⟨v17, hx18, hF19⟩ := bind_some' hF15
    simp only [run_call, put_at, put_no, ev_t, ev_c, reduceIte, Nat.reduceEqDiff, List.map_cons, List.map_nil]
    refine call1 rfl (mapM1 snap_lst (mapM1 snap_lst mapM0)) (laws_eqNodeS_x (fun b hb => decide_eq_true hb) k a_0.Nodes b_1.Nodes v17 hx18) ?_
    simp only [run_un, put1_some, xnot, run_ops_nil, run_cond, put_at, put_no, ev_t, ev_c, reduceIte, Nat.reduceEqDiff, List.map_cons, List.map_nil]
    refine cond_split (t := (!v17)) (fun hc20 => ?_) (fun hc20 => ?_)
    · rw [iteT hc20] at hF19
      simp only [run_seq, run_reg, run_mv, run_ops_nil, run_ret, put_at, put_no, ev_t, ev_c, reduceIte, Nat.reduceEqDiff, List.map_cons, List.map_nil]
      have he := some_inj hF19
      subst he
      simp only [end_ret1, put_at, put_no, ev_t, ev_c, reduceIte, Nat.reduceEqDiff, List.map_cons, List.map_nil]
      exact rfl
    · rw [iteF hc20] at hF19
      simp only [run_skip, x11_1, run_seq, run_reg, run_fa, put1_some, Nat.reduceAdd, Nat.zero_add, Nat.add_zero, xfa_ref, run_ld, put_at, put_no, ev_t, ev_c, reduceIte,
          Nat.reduceEqDiff, List.map_cons, List.map_nil]
      refine put1_eq (v := lst Row.cells a_0.Acked) rfl ?_
      simp only [run_fa, put1_some, Nat.reduceAdd, Nat.zero_add, Nat.add_zero, xfa_ref, run_ld, put_at, put_no, ev_t, ev_c, reduceIte, Nat.reduceEqDiff, List.map_cons,
          List.map_nil]
      refine put1_eq (v := lst Row.cells b_1.Acked) rfl ?_
      obtain ⟨v21, hx22, hF23⟩ := bind_some' hF19
      simp only [run_call, put_at, put_no, ev_t, ev_c, reduceIte, Nat.reduceEqDiff, List.map_cons, List.map_nil]
      refine call1 rfl (mapM1 snap_lst (mapM1 snap_lst mapM0)) (laws_eqRowS_x (fun b hb => decide_eq_true hb) k a_0.Acked b_1.Acked v21 hx22) ?_
      simp only [run_un, put1_some, xnot, run_ops_nil, run_cond, put_at, put_no, ev_t, ev_c, reduceIte, Nat.reduceEqDiff, List.map_cons, List.map_nil]
      refine cond_split (t := (!v21)) (fun hc24 => ?_) (fun hc24 => ?_)
      · rw [iteT hc24] at hF23
        simp only [run_seq, run_reg, run_mv, run_ops_nil, run_ret, put_at, put_no, ev_t, ev_c, reduceIte, Nat.reduceEqDiff, List.map_cons, List.map_nil]
        have he := some_inj hF23
        subst he
        simp only [end_ret1, put_at, put_no, ev_t, ev_c, reduceIte, Nat.reduceEqDiff, List.map_cons, List.map_nil]
        exact rfl
      · rw [iteF hc24] at hF23
        simp only [run_skip, run_seq, run_reg, run_mv, run_ops_nil, run_ret, put_at, put_no, ev_t, ev_c, reduceIte, Nat.reduceEqDiff, List.map_cons, List.map_nil]
        have he := some_inj hF23
        subst he
        simp only [end_ret1, put_at, put_no, ev_t, ev_c, reduceIte, Nat.reduceEqDiff, List.map_cons, List.map_nil]
        exact rfl
theorem laws_markIntS_x {W : Nat → Bool} {h : Heap} {lo : Nat} {S0 : List Obj} (hW : ∀ b,
    lo ≤ b → W b = true) (k : Nat) (pv0 : XV) (pc0 : List Obj) (a_0 : List Int) (ph0 : SlF cI 1 3 pv0 a_0 pc0) (k_1 : Int) (r : Int × (List Int))
    (hF : laws_markIntS k a_0 k_1 = some r) (hS : Sep h lo (pc0 ++ (S0))) : Ret E W 21 [pv0, .int .i64 k_1] h (fun v h' => ∃ ic0,
    v = .int .i64 r.1 ∧ SlF cI 1 3 pv0 r.2 ic0 ∧ Sep h' lo (ic0 ++ (S0))) := by
  refine Ret.of (fn := x21) rfl (Run.of ?_)
  unfold laws_markIntS at hF
  have zf0 : argFr [pv0, .int .i64 k_1] 0 = pv0 := rfl
  have zf1 : argFr [pv0, .int .i64 k_1] 1 = .int .i64 k_1 := rfl
  generalize argFr [pv0, .int .i64 k_1] = fr0 at zf0 zf1 ⊢
  simp only [x21, run_seq, run_reg, run_mv, run_ops_nil, x21_6, put_at, put_no, ev_t, ev_c, reduceIte, Nat.reduceEqDiff, List.map_cons, List.map_nil]
  obtain ⟨oc13, hX15, hk16⟩ := jn_some hF
  simp only [x21_5]
  refine loopF_j (σ := Int × Int × (List Int)) (fun s45 => laws_markIntS_b1 s45.1 s45.2.1 s45.2.2) (fun s fr' h' => ∃ c9,
      fr' 0 = pv0 ∧ fr' 1 = .int .i64 s.1 ∧ fr' 5 = .int .i64 s.2.1 ∧ SlF cI 1 3 pv0 s.2.2 c9 ∧ Sep h' lo (c9 ++ (S0))) hX15 ⟨pc0, by simp only [zf0, put_at, put_no, ev_t, ev_c,
      reduceIte, Nat.reduceEqDiff, List.map_cons, List.map_nil], by simp only [zf1, put_at, put_no, ev_t, ev_c, reduceIte, Nat.reduceEqDiff, List.map_cons, List.map_nil],
      by simp only [put_at, put_no, ev_t, ev_c, reduceIte, Nat.reduceEqDiff, List.map_cons, List.map_nil], ph0, hS⟩ (fun _ _ _ h => h) ?_ ?_
  · rintro ⟨s6, s7, s8⟩ fr25 h26 ⟨c9, f28, f29, f30, hv10, hS27⟩ oc14 hF17 hr18 Q19 hN20 hK21 hR22 hE23
    dsimp only at *
    unfold laws_markIntS_b1 at hF17
    simp only [x21_3, run_seq, run_reg, f30, run_mv, f28, run_len, put1_some, SlF.plen hv10, run_bin, xlss, run_ops_nil, run_cond, put_at, put_no, ev_t, ev_c, reduceIte,
        Nat.reduceEqDiff, List.map_cons, List.map_nil]
    refine cond_split (t := (decide (s7 < (List.length s8 : Int)))) (fun hc32 => ?_) (fun hc32 => ?_)
    · rw [iteT hc32] at hF17
      obtain ⟨x33, hx34, hF35⟩ := bind_some' hF17
      simp only [run_skip, x21_2, run_seq, run_block, x21_1, run_reg, f28, run_mv, f30, f29, run_ia, put_at, put_no, ev_t, ev_c, reduceIte, Nat.reduceEqDiff, List.map_cons,
          List.map_nil]
      obtain ⟨b36, hb37⟩ := SlF.isrow hv10 (geti_ne hx34)
      refine put1_eq (SlF.ia hv10 hb37 hx34) ?_
      simp only [run_st, put_at, put_no, ev_t, ev_c, reduceIte, Nat.reduceEqDiff, List.map_cons, List.map_nil]
      refine put2_stF (f := cI) (x' := s6) (o := 0) hv10 hS27 hW hb37 hx34 (fun _ => rfl) rfl rfl (Nat.le_of_ble_eq_true rfl) rfl (fun c40 h38 hv41 hS39 => ?_)
      have hx42 := geti_set (x' := s6) hx34
      simp only [put_no, run_ops_nil, run_reg, f29, run_mv, run_bin, put1_some, xadd, run_blk, f30, run_nil, put_at, ev_t, ev_c, reduceIte, Nat.reduceEqDiff, List.map_cons,
          List.map_nil]
      have e43 := some_inj hF35
      exact hN20 _ _ _ e43.symm ⟨c40, by simp only [f28, put_at, put_no, ev_t, ev_c, reduceIte, Nat.reduceEqDiff, List.map_cons, List.map_nil], by simp only [put_at, put_no, ev_t,
          ev_c, reduceIte, Nat.reduceEqDiff, List.map_cons, List.map_nil], by simp only [put_at, put_no, ev_t, ev_c, reduceIte, Nat.reduceEqDiff, List.map_cons, List.map_nil],
          hv41, hS39⟩
    · rw [iteF hc32] at hF17
      simp only [run_exit, out_code, out_nil, put_at, put_no, ev_t, ev_c, reduceIte, Nat.reduceEqDiff, List.map_cons, List.map_nil]
      have e44 := some_inj hF17
      exact hK21 _ _ _ e44.symm ⟨c9, by simp only [f28, put_at, put_no, ev_t, ev_c, reduceIte, Nat.reduceEqDiff, List.map_cons, List.map_nil], by simp only [f29, put_at, put_no,
          ev_t, ev_c, reduceIte, Nat.reduceEqDiff, List.map_cons, List.map_nil], by simp only [f30, put_at, put_no, ev_t, ev_c, reduceIte, Nat.reduceEqDiff, List.map_cons,
          List.map_nil], hv10, hS27⟩
  · rintro ⟨s46, s47, s48⟩ fr51 h52 rfl ⟨c49, f54, f55, f56, hv50, hS53⟩
    dsimp only [jnO] at hk16
    dsimp only at *
    unfold laws_markIntS_j1 at hk16
    simp only [run_seq, run_reg, f55, run_mv, run_ops_nil, run_ret, put_at, put_no, ev_t, ev_c, reduceIte, Nat.reduceEqDiff, List.map_cons, List.map_nil]
    have he := some_inj hk16
    subst he
    simp only [end_ret1, put_at, put_no, ev_t, ev_c, reduceIte, Nat.reduceEqDiff, List.map_cons, List.map_nil]
    exact ⟨c49, by first | trivial | rfl, hv50, hS53⟩
theorem laws_markView_x {W : Nat → Bool} {h : Heap} {lo : Nat} {S0 : List Obj} (hW : ∀ b,
    lo ≤ b → W b = true) (k : Nat) (a_0 : View) (pv0_2 : XV) (pc0_2 : List Obj) (ph0_2 : SlF cI 1 3 pv0_2 a_0.InStep pc0_2) (k_1 : Int) (r : Int × View)
    (hF : laws_markView k a_0 k_1 = some r) (hS : Sep h lo (pc0_2 ++ (S0))) : Ret E W 44 [.agg [.int .i64 a_0.Epoch, .int .i64 a_0.Leader, pv0_2],
    .int .i64 k_1] h (fun v h' => ∃ ic0_2, v = .int .i64 r.1 ∧ SlF cI 1 3 pv0_2 r.2.InStep ic0_2 ∧ Sep h' lo (ic0_2 ++ (S0))) := by
  refine Ret.of (fn := x44) rfl (Run.of ?_)
  unfold laws_markView at hF
  have zf0 : argFr [.agg [.int .i64 a_0.Epoch, .int .i64 a_0.Leader, pv0_2], .int .i64 k_1] 0 = .agg [.int .i64 a_0.Epoch, .int .i64 a_0.Leader, pv0_2] := rfl
  have zf1 : argFr [.agg [.int .i64 a_0.Epoch, .int .i64 a_0.Leader, pv0_2], .int .i64 k_1] 1 = .int .i64 k_1 := rfl
  generalize argFr [.agg [.int .i64 a_0.Epoch, .int .i64 a_0.Leader, pv0_2], .int .i64 k_1] = fr0 at zf0 zf1 ⊢
  simp only [x44, run_seq, run_reg, run_box, zf0, put_at, put_no, ev_t, ev_c, reduceIte, Nat.reduceEqDiff, List.map_cons, List.map_nil]
  refine put2_boxC (cs := [.int .i64 a_0.Epoch, .int .i64 a_0.Leader, pv0_2]) hS rfl rfl (all_c rfl (all_c rfl (all_c (SlF.one ph0_2) all_n))) (fun b1 h2 hS3 => ?_)
  simp only [run_mv, run_ops_nil, put_at, put_no, ev_t, ev_c, reduceIte, Nat.reduceEqDiff, List.map_cons, List.map_nil]
  refine frz_stepC hS3 hW (by simp only [put_at, put_no, ev_t, ev_c, reduceIte, Nat.reduceEqDiff, List.map_cons, List.map_nil]) (fun h5 hS6 => ?_)
  simp only [run_frz_nil, x44_1, run_seq, run_reg, run_fa, put1_some, Nat.reduceAdd, Nat.zero_add, Nat.add_zero, xfa_ref, run_ld, put_at, put_no, ev_t, ev_c, reduceIte,
      Nat.reduceEqDiff, List.map_cons, List.map_nil]
  refine put1_eq (v := pv0_2) rfl ?_
  obtain ⟨v7, hx8, hF9⟩ := bind_some' hF
  simp only [zf1, run_mv, run_call, put_at, put_no, ev_t, ev_c, reduceIte, Nat.reduceEqDiff, List.map_cons, List.map_nil]
  refine call0 rfl (laws_markIntS_x hW k pv0_2 pc0_2 a_0.InStep ph0_2 k_1 v7 hx8 hS6) ?_
  rintro _ h12 ⟨c10, rfl, hv11, hS13⟩
  simp only [run_mv, run_ops_nil, run_seq, run_reg, run_ret, put_at, put_no, ev_t, ev_c, reduceIte, Nat.reduceEqDiff, List.map_cons, List.map_nil]
  have he := some_inj hF9
  subst he
  simp only [end_ret1, put_at, put_no, ev_t, ev_c, reduceIte, Nat.reduceEqDiff, List.map_cons, List.map_nil]
  exact ⟨c10, by first | trivial | rfl, hv11, hS13⟩
end Go.Proofs.Ytohofoampalhoaa.X
namespace Go.Proofs.Ytohofoampalhoaa.X
open Go
theorem laws_markRowS_x {W : Nat → Bool} {h : Heap} {lo : Nat} {S0 : List Obj} (hW : ∀ b,
    lo ≤ b → W b = true) (k : Nat) (pv0 : XV) (pc0 : List Obj) (a_0 : List Row) (ph0 : SlF Row.cells 2 92 pv0 a_0 pc0) (k_1 : Int) (r : Int × (List Row))
    (hF : laws_markRowS k a_0 k_1 = some r) (hS : Sep h lo (pc0 ++ (S0))) : Ret E W 46 [pv0, .int .i64 k_1] h (fun v h' => ∃ ic0,
    v = .int .i64 r.1 ∧ SlF Row.cells 2 92 pv0 r.2 ic0 ∧ Sep h' lo (ic0 ++ (S0))) := by
  refine Ret.of (fn := x46) rfl (Run.of ?_)
  unfold laws_markRowS at hF
  have zf0 : argFr [pv0, .int .i64 k_1] 0 = pv0 := rfl
  have zf1 : argFr [pv0, .int .i64 k_1] 1 = .int .i64 k_1 := rfl
  generalize argFr [pv0, .int .i64 k_1] = fr0 at zf0 zf1 ⊢
  simp only [x46, run_seq, run_reg, run_mv, run_ops_nil, x46_8, put_at, put_no, ev_t, ev_c, reduceIte, Nat.reduceEqDiff, List.map_cons, List.map_nil]
  obtain ⟨oc13, hX15, hk16⟩ := jn_some hF
  simp only [x46_7]
  refine loopF_j (σ := Int × Int × (List Row)) (fun s50 => laws_markRowS_b1 s50.1 s50.2.1 s50.2.2) (fun s fr' h' => ∃ c9,
      fr' 0 = pv0 ∧ fr' 1 = .int .i64 s.1 ∧ fr' 5 = .int .i64 s.2.1 ∧ SlF Row.cells 2 92 pv0 s.2.2 c9 ∧ Sep h' lo (c9 ++ (S0))) hX15 ⟨pc0, by simp only [zf0, put_at, put_no, ev_t,
      ev_c, reduceIte, Nat.reduceEqDiff, List.map_cons, List.map_nil], by simp only [zf1, put_at, put_no, ev_t, ev_c, reduceIte, Nat.reduceEqDiff, List.map_cons, List.map_nil],
      by simp only [put_at, put_no, ev_t, ev_c, reduceIte, Nat.reduceEqDiff, List.map_cons, List.map_nil], ph0, hS⟩ (fun _ _ _ h => h) ?_ ?_
  · rintro ⟨s6, s7, s8⟩ fr25 h26 ⟨c9, f28, f29, f30, hv10, hS27⟩ oc14 hF17 hr18 Q19 hN20 hK21 hR22 hE23
    dsimp only at *
    unfold laws_markRowS_b1 at hF17
    simp only [x46_5, run_seq, run_reg, f30, run_mv, f28, run_len, put1_some, SlF.plen hv10, run_bin, xlss, run_ops_nil, run_cond, put_at, put_no, ev_t, ev_c, reduceIte,
        Nat.reduceEqDiff, List.map_cons, List.map_nil]
    refine cond_split (t := (decide (s7 < (List.length s8 : Int)))) (fun hc32 => ?_) (fun hc32 => ?_)
    · rw [iteT hc32] at hF17
      obtain ⟨x33, hx34, hF35⟩ := bind_some' hF17
      simp only [run_skip, x46_4, run_seq, run_block, x46_3, run_reg, f28, run_mv, f30, f29, run_ia, put_at, put_no, ev_t, ev_c, reduceIte, Nat.reduceEqDiff, List.map_cons,
          List.map_nil]
      obtain ⟨b36, hb37⟩ := SlF.isrow hv10 (geti_ne hx34)
      refine put1_eq (SlF.ia hv10 hb37 hx34) ?_
      simp only [run_fa, put1_some, Nat.reduceAdd, Nat.zero_add, Nat.add_zero, xfa_ptr, run_st, put_at, put_no, ev_t, ev_c, reduceIte, Nat.reduceEqDiff, List.map_cons,
          List.map_nil]
      refine put2_stF (f := Row.cells) (x' := (Row.mk s6 x33.Value)) (o := 0) hv10 hS27 hW hb37 hx34 (fun _ => rfl) rfl rfl (Nat.le_of_ble_eq_true rfl) rfl
          (fun c40 h38 hv41 hS39 => ?_)
      have hx42 := geti_set (x' := (Row.mk s6 x33.Value)) hx34
      simp only [put_no, run_ops_nil, x46_2, run_seq, run_reg, f29, run_mv, run_bin, put1_some, xadd, x46_1, f28, f30, run_ia, put_at, ev_t, ev_c, reduceIte, Nat.reduceEqDiff,
          List.map_cons, List.map_nil]
      refine put1_eq (SlF.ia hv41 hb37 hx42) ?_
      simp only [run_fa, put1_some, Nat.reduceAdd, Nat.zero_add, Nat.add_zero, xfa_ptr, run_st, put_at, put_no, ev_t, ev_c, reduceIte, Nat.reduceEqDiff, List.map_cons,
          List.map_nil]
      refine put2_stF (f := Row.cells) (x' := (Row.mk s6 (IntKind.wrap .i64 (s6 + 1)))) (o := 1) hv41 hS39 hW hb37 hx42 (fun _ => rfl) rfl rfl (Nat.le_of_ble_eq_true rfl) rfl
          (fun c45 h43 hv46 hS44 => ?_)
      rw [List.set_set] at hv46
      have hx47 := geti_set (x' := (Row.mk s6 (IntKind.wrap .i64 (s6 + 1)))) hx34
      simp only [put_no, run_ops_nil, run_reg, run_mv, run_bin, put1_some, xadd, run_blk, f30, run_nil, put_at, ev_t, ev_c, reduceIte, Nat.reduceEqDiff, List.map_cons,
          List.map_nil]
      have e48 := some_inj hF35
      exact hN20 _ _ _ e48.symm ⟨c45, by simp only [f28, put_at, put_no, ev_t, ev_c, reduceIte, Nat.reduceEqDiff, List.map_cons, List.map_nil], by simp only [put_at, put_no, ev_t,
          ev_c, reduceIte, Nat.reduceEqDiff, List.map_cons, List.map_nil], by simp only [put_at, put_no, ev_t, ev_c, reduceIte, Nat.reduceEqDiff, List.map_cons, List.map_nil],
          hv46, hS44⟩
    · rw [iteF hc32] at hF17
      simp only [run_exit, out_code, out_nil, put_at, put_no, ev_t, ev_c, reduceIte, Nat.reduceEqDiff, List.map_cons, List.map_nil]
      have e49 := some_inj hF17
      exact hK21 _ _ _ e49.symm ⟨c9, by simp only [f28, put_at, put_no, ev_t, ev_c, reduceIte, Nat.reduceEqDiff, List.map_cons, List.map_nil], by simp only [f29, put_at, put_no,
          ev_t, ev_c, reduceIte, Nat.reduceEqDiff, List.map_cons, List.map_nil], by simp only [f30, put_at, put_no, ev_t, ev_c, reduceIte, Nat.reduceEqDiff, List.map_cons,
          List.map_nil], hv10, hS27⟩
  · rintro ⟨s51, s52, s53⟩ fr56 h57 rfl ⟨c54, f59, f60, f61, hv55, hS58⟩
    dsimp only [jnO] at hk16
    dsimp only at *
    unfold laws_markRowS_j1 at hk16
    simp only [run_seq, run_reg, f60, run_mv, run_ops_nil, run_ret, put_at, put_no, ev_t, ev_c, reduceIte, Nat.reduceEqDiff, List.map_cons, List.map_nil]
    have he := some_inj hk16
    subst he
    simp only [end_ret1, put_at, put_no, ev_t, ev_c, reduceIte, Nat.reduceEqDiff, List.map_cons, List.map_nil]
    exact ⟨c54, by first | trivial | rfl, hv55, hS58⟩
theorem laws_markNodeS_x {W : Nat → Bool} {h : Heap} {lo : Nat} {S0 : List Obj} (hW : ∀ b,
    lo ≤ b → W b = true) (k : Nat) (pv0 : XV) (pc0 : List Obj) (a_0 : List Node) (ph0 : SlN Node.R 6 68 pv0 a_0 pc0) (k_1 : Int) (r : Int × (List Node))
    (hF : laws_markNodeS k a_0 k_1 = some r) (hS : Sep h lo (pc0 ++ (S0))) : Ret E W 45 [pv0, .int .i64 k_1] h (fun v h' => ∃ ic0,
    v = .int .i64 r.1 ∧ SlN Node.R 6 68 pv0 r.2 ic0 ∧ Sep h' lo (ic0 ++ (S0))) := by
  refine Ret.of (fn := x45) rfl (Run.of ?_)
  unfold laws_markNodeS at hF
  have zf0 : argFr [pv0, .int .i64 k_1] 0 = pv0 := rfl
  have zf1 : argFr [pv0, .int .i64 k_1] 1 = .int .i64 k_1 := rfl
  generalize argFr [pv0, .int .i64 k_1] = fr0 at zf0 zf1 ⊢
  simp only [x45, run_seq, run_reg, run_mv, run_ops_nil, x45_13, put_at, put_no, ev_t, ev_c, reduceIte, Nat.reduceEqDiff, List.map_cons, List.map_nil]
  obtain ⟨oc13, hX15, hk16⟩ := jn_some hF
  simp only [x45_12]
  refine loopF_j (σ := Int × Int × (List Node)) (fun s97 => laws_markNodeS_b1 k s97.1 s97.2.1 s97.2.2) (fun s fr' h' => ∃ c9,
      fr' 0 = pv0 ∧ fr' 1 = .int .i64 s.1 ∧ fr' 5 = .int .i64 s.2.1 ∧ SlN Node.R 6 68 pv0 s.2.2 c9 ∧ Sep h' lo (c9 ++ (S0))) hX15 ⟨pc0, by simp only [zf0, put_at, put_no, ev_t,
      ev_c, reduceIte, Nat.reduceEqDiff, List.map_cons, List.map_nil], by simp only [zf1, put_at, put_no, ev_t, ev_c, reduceIte, Nat.reduceEqDiff, List.map_cons, List.map_nil],
      by simp only [put_at, put_no, ev_t, ev_c, reduceIte, Nat.reduceEqDiff, List.map_cons, List.map_nil], ph0, hS⟩ (fun _ _ _ h => h) ?_ ?_
  · rintro ⟨s6, s7, s8⟩ fr25 h26 ⟨c9, f28, f29, f30, hv10, hS27⟩ oc14 hF17 hr18 Q19 hN20 hK21 hR22 hE23
    dsimp only at *
    unfold laws_markNodeS_b1 at hF17
    simp only [x45_10, run_seq, run_reg, f30, run_mv, f28, run_len, put1_some, SlN.len hv10, run_bin, xlss, run_ops_nil, run_cond, put_at, put_no, ev_t, ev_c, reduceIte,
        Nat.reduceEqDiff, List.map_cons, List.map_nil]
    refine cond_split (t := (decide (s7 < (List.length s8 : Int)))) (fun hc32 => ?_) (fun hc32 => ?_)
    · rw [iteT hc32] at hF17
      obtain ⟨x33, hx34, hF35⟩ := bind_some' hF17
      simp only [run_skip, x45_9, run_seq, run_block, x45_8, run_reg, f28, run_mv, f30, f29, run_ia, put_at, put_no, ev_t, ev_c, reduceIte, Nat.reduceEqDiff, List.map_cons,
          List.map_nil]
      obtain ⟨b36, hb37⟩ := SlN.isrow hv10 (geti_ne hx34)
      refine put1_eq (SlN.ia hv10 hb37 hx34) ?_
      obtain ⟨c40, cs41, os42, hv43, hR44, hS45⟩ := SlG.opn (SlN.toG hv10 hb37 Node.RO.len) hx34 hk_nil Node.RO.len hS27
      obtain ⟨v47, c48, v51, c52, v55, c56, hv49, hv53, hv57, rfl, rfl⟩ := hR44
      have hS46 := Sep.no3 hS45
      simp only [run_fa, put1_some, Nat.reduceAdd, Nat.zero_add, Nat.add_zero, xfa_ptr, run_st, put_at, put_no, ev_t, ev_c, reduceIte, Nat.reduceEqDiff, List.map_cons,
          List.map_nil]
      refine put2_stGx (us := [.int .i64 s6]) (o := 0) (cs' := [.int .i64 s6, .int .i64 x33.View.Leader, v47, v51, v55,
          .int .i64 x33.Told]) rfl hv43 rfl hx34 hS46 hW rfl rfl (Nat.le_of_ble_eq_true rfl) rfl (fun c59 h38 hv60 hS39 => ?_)
      simp only [put_no, run_ops_nil, x45_7, run_seq, run_reg, f29, run_mv, run_bin, put1_some, xadd, x45_6, f28, f30, run_ia, put_at, ev_t, ev_c, reduceIte, Nat.reduceEqDiff,
          List.map_cons, List.map_nil]
      refine put1_eq (SlG.ia hv60 hx34) ?_
      simp only [run_fa, put1_some, Nat.reduceAdd, Nat.zero_add, Nat.add_zero, xfa_ptr, run_st, put_at, put_no, ev_t, ev_c, reduceIte, Nat.reduceEqDiff, List.map_cons,
          List.map_nil]
      refine put2_stGx (us := [.int .i64 (IntKind.wrap .i64 (s6 + 1))]) (o := 1) (cs' := [.int .i64 s6, .int .i64 (IntKind.wrap .i64 (s6 + 1)), v47, v51, v55,
          .int .i64 x33.Told]) rfl hv60 rfl hx34 hS39 hW rfl rfl (Nat.le_of_ble_eq_true rfl) rfl (fun c63 h61 hv64 hS62 => ?_)
      simp only [put_no, run_ops_nil, x45_5, run_seq, run_reg, run_mv, run_bin, put1_some, xadd, x45_4, f28, f30, run_ia, put_at, ev_t, ev_c, reduceIte, Nat.reduceEqDiff,
          List.map_cons, List.map_nil]
      refine put1_eq (SlG.ia hv64 hx34) ?_
      simp only [run_fa, put1_some, Nat.reduceAdd, Nat.zero_add, Nat.add_zero, xfa_ptr, run_ld, put_at, put_no, ev_t, ev_c, reduceIte, Nat.reduceEqDiff, List.map_cons,
          List.map_nil]
      refine put1_eq (v := v47) ((SlG.ld (o := 2) hv64 rfl hx34 hS62 (Nat.le_of_ble_eq_true rfl)).trans rfl) ?_
      obtain ⟨v65, hx66, hF67⟩ := bind_some' hF35
      simp only [run_mv, run_call, put_at, put_no, ev_t, ev_c, reduceIte, Nat.reduceEqDiff, List.map_cons, List.map_nil]
      refine call0 rfl (laws_markIntS_x hW k v47 c48 x33.View.InStep hv49 (IntKind.wrap .i64 ((IntKind.wrap .i64 (s6 + 1)) + 1)) v65 hx66 (Sep.m1 hS62)) ?_
      rintro _ h70 ⟨c68, rfl, hv69, hS71⟩
      simp only [run_mv, run_ops_nil, x45_3, run_seq, run_reg, f28, f30, run_ia, put_at, put_no, ev_t, ev_c, reduceIte, Nat.reduceEqDiff, List.map_cons, List.map_nil]
      refine put1_eq (SlG.ia hv64 hx34) ?_
      simp only [run_fa, put1_some, Nat.reduceAdd, Nat.zero_add, Nat.add_zero, xfa_ptr, run_ld, put_at, put_no, ev_t, ev_c, reduceIte, Nat.reduceEqDiff, List.map_cons,
          List.map_nil]
      refine put1_eq (v := v51) ((SlG.ld (o := 3) hv64 rfl hx34 (Sep.m1 hS71) (Nat.le_of_ble_eq_true rfl)).trans rfl) ?_
      obtain ⟨v72, hx73, hF74⟩ := bind_some' hF67
      simp only [run_mv, run_call, put_at, put_no, ev_t, ev_c, reduceIte, Nat.reduceEqDiff, List.map_cons, List.map_nil]
      refine call0 rfl (laws_markRowS_x hW k v51 c52 x33.Log hv53 v65.1 v72 hx73 (Sep.m2 hS71)) ?_
      rintro _ h77 ⟨c75, rfl, hv76, hS78⟩
      simp only [run_mv, run_ops_nil, x45_2, run_seq, run_reg, f28, f30, run_ia, put_at, put_no, ev_t, ev_c, reduceIte, Nat.reduceEqDiff, List.map_cons, List.map_nil]
      refine put1_eq (SlG.ia hv64 hx34) ?_
      simp only [run_fa, put1_some, Nat.reduceAdd, Nat.zero_add, Nat.add_zero, xfa_ptr, run_ld, put_at, put_no, ev_t, ev_c, reduceIte, Nat.reduceEqDiff, List.map_cons,
          List.map_nil]
      refine put1_eq (v := v55) ((SlG.ld (o := 4) hv64 rfl hx34 (Sep.m2 hS78) (Nat.le_of_ble_eq_true rfl)).trans rfl) ?_
      obtain ⟨v79, hx80, hF81⟩ := bind_some' hF74
      simp only [run_mv, run_call, put_at, put_no, ev_t, ev_c, reduceIte, Nat.reduceEqDiff, List.map_cons, List.map_nil]
      refine call0 rfl (laws_markIntS_x hW k v55 c56 x33.Known hv57 v72.1 v79 hx80 (Sep.m3 hS78)) ?_
      rintro _ h84 ⟨c82, rfl, hv83, hS85⟩
      simp only [run_mv, run_ops_nil, x45_1, run_seq, run_reg, f28, f30, run_ia, put_at, put_no, ev_t, ev_c, reduceIte, Nat.reduceEqDiff, List.map_cons, List.map_nil]
      refine put1_eq (SlG.ia hv64 hx34) ?_
      simp only [run_fa, put1_some, Nat.reduceAdd, Nat.zero_add, Nat.add_zero, xfa_ptr, run_st, put_at, put_no, ev_t, ev_c, reduceIte, Nat.reduceEqDiff, List.map_cons,
          List.map_nil]
      refine put2_stGx (us := [.int .i64 v79.1]) (o := 5) (cs' := [.int .i64 s6, .int .i64 (IntKind.wrap .i64 (s6 + 1)), v47, v51, v55,
          .int .i64 v79.1]) rfl hv64 rfl hx34 (Sep.m3 hS85) hW rfl rfl (Nat.le_of_ble_eq_true rfl) rfl (fun c88 h86 hv89 hS87 => ?_)
      simp only [put_no, run_ops_nil, run_reg, run_mv, run_bin, put1_some, xadd, run_blk, f30, run_nil, put_at, ev_t, ev_c, reduceIte, Nat.reduceEqDiff, List.map_cons,
          List.map_nil]
      obtain ⟨c90, hv91, hS92⟩ := SlG.cls (e' := (Node.mk (View.mk s6 (IntKind.wrap .i64 (s6 + 1)) v65.2) v72.2 v79.2 v79.1)) (c := c88) (os := c68 ++ (c75 ++
          (c82))) hv89 rfl hx34 hk_nil (Node.RI (x := (Node.mk (View.mk s6 (IntKind.wrap .i64 (s6 + 1)) v65.2) v72.2 v79.2 v79.1)) hv69 hv76 hv83) (Sep.ni3 (c1 := c68)
          (c2 := c75) (c3 := c82) (Sep.m3 (Sep.m3 (Sep.m2 (Sep.m1 hS87)))))
      have hx93 := geti_set (x' := (Node.mk (View.mk s6 (IntKind.wrap .i64 (s6 + 1)) v65.2) v72.2 v79.2 v79.1)) hx34
      have hv94 := SlG.toN hv91
      have e95 := some_inj hF81
      exact hN20 _ _ _ e95.symm ⟨c90, by simp only [f28, put_at, put_no, ev_t, ev_c, reduceIte, Nat.reduceEqDiff, List.map_cons, List.map_nil], by simp only [put_at, put_no, ev_t,
          ev_c, reduceIte, Nat.reduceEqDiff, List.map_cons, List.map_nil], by simp only [put_at, put_no, ev_t, ev_c, reduceIte, Nat.reduceEqDiff, List.map_cons, List.map_nil],
          hv94, hS92⟩
    · rw [iteF hc32] at hF17
      simp only [run_exit, out_code, out_nil, put_at, put_no, ev_t, ev_c, reduceIte, Nat.reduceEqDiff, List.map_cons, List.map_nil]
      have e96 := some_inj hF17
      exact hK21 _ _ _ e96.symm ⟨c9, by simp only [f28, put_at, put_no, ev_t, ev_c, reduceIte, Nat.reduceEqDiff, List.map_cons, List.map_nil], by simp only [f29, put_at, put_no,
          ev_t, ev_c, reduceIte, Nat.reduceEqDiff, List.map_cons, List.map_nil], by simp only [f30, put_at, put_no, ev_t, ev_c, reduceIte, Nat.reduceEqDiff, List.map_cons,
          List.map_nil], hv10, hS27⟩
  · rintro ⟨s98, s99, s100⟩ fr103 h104 rfl ⟨c101, f106, f107, f108, hv102, hS105⟩
    dsimp only [jnO] at hk16
    dsimp only at *
    unfold laws_markNodeS_j1 at hk16
    simp only [run_seq, run_reg, f107, run_mv, run_ops_nil, run_ret, put_at, put_no, ev_t, ev_c, reduceIte, Nat.reduceEqDiff, List.map_cons, List.map_nil]
    have he := some_inj hk16
    subst he
    simp only [end_ret1, put_at, put_no, ev_t, ev_c, reduceIte, Nat.reduceEqDiff, List.map_cons, List.map_nil]
    exact ⟨c101, by first | trivial | rfl, hv102, hS105⟩
theorem laws_markCluster_x {W : Nat → Bool} {h : Heap} {lo : Nat} {S0 : List Obj} (hW : ∀ b,
    lo ≤ b → W b = true) (k : Nat) (a_0 : Cluster) (pv0_2 : XV) (pc0_2 : List Obj) (ph0_2 : SlF cI 1 3 pv0_2 a_0.Truth.InStep pc0_2) (pv0_3 : XV) (pc0_3 : List Obj)
    (ph0_3 : SlN Node.R 6 68 pv0_3 a_0.Nodes pc0_3) (pv0_4 : XV) (pc0_4 : List Obj) (ph0_4 : SlF Row.cells 2 92 pv0_4 a_0.Acked pc0_4) (k_1 : Int) (r : Int × Cluster)
    (hF : laws_markCluster k a_0 k_1 = some r) (hS : Sep h lo (pc0_2 ++ (pc0_3 ++ (pc0_4 ++ (S0))))) : Ret E W 12 [.agg [.int .i64 a_0.Truth.Epoch, .int .i64 a_0.Truth.Leader,
    pv0_2, pv0_3, pv0_4], .int .i64 k_1] h (fun v h' => ∃ ic0_2 ic0_3 ic0_4,
    v = .int .i64 r.1 ∧ SlF cI 1 3 pv0_2 r.2.Truth.InStep ic0_2 ∧ SlN Node.R 6 68 pv0_3 r.2.Nodes ic0_3 ∧ SlF Row.cells 2 92 pv0_4 r.2.Acked ic0_4 ∧ Sep h' lo (ic0_2 ++ (ic0_3 ++
    (ic0_4 ++ (S0))))) := by
  refine Ret.of (fn := x12) rfl (Run.of ?_)
  unfold laws_markCluster at hF
  have zf0 : argFr [.agg [.int .i64 a_0.Truth.Epoch, .int .i64 a_0.Truth.Leader, pv0_2, pv0_3, pv0_4], .int .i64 k_1] 0 = .agg [.int .i64 a_0.Truth.Epoch,
      .int .i64 a_0.Truth.Leader, pv0_2, pv0_3, pv0_4] := rfl
  have zf1 : argFr [.agg [.int .i64 a_0.Truth.Epoch, .int .i64 a_0.Truth.Leader, pv0_2, pv0_3, pv0_4], .int .i64 k_1] 1 = .int .i64 k_1 := rfl
  generalize argFr [.agg [.int .i64 a_0.Truth.Epoch, .int .i64 a_0.Truth.Leader, pv0_2, pv0_3, pv0_4], .int .i64 k_1] = fr0 at zf0 zf1 ⊢
  simp only [x12, run_seq, run_reg, run_box, zf0, put_at, put_no, ev_t, ev_c, reduceIte, Nat.reduceEqDiff, List.map_cons, List.map_nil]
  refine put2_boxC (cs := [.int .i64 a_0.Truth.Epoch, .int .i64 a_0.Truth.Leader, pv0_2, pv0_3,
      pv0_4]) hS rfl rfl (all_c rfl (all_c rfl (all_c (SlF.one ph0_2) (all_c (SlN.one ph0_3) (all_c (SlF.one ph0_4) all_n))))) (fun b1 h2 hS3 => ?_)
  simp only [run_mv, run_ops_nil, put_at, put_no, ev_t, ev_c, reduceIte, Nat.reduceEqDiff, List.map_cons, List.map_nil]
  refine frz_stepC hS3 hW (by simp only [put_at, put_no, ev_t, ev_c, reduceIte, Nat.reduceEqDiff, List.map_cons, List.map_nil]) (fun h5 hS6 => ?_)
  simp only [run_frz_nil, x12_3, run_seq, run_reg, run_fa, put1_some, Nat.reduceAdd, Nat.zero_add, Nat.add_zero, xfa_ref, run_ld, put_at, put_no, ev_t, ev_c, reduceIte,
      Nat.reduceEqDiff, List.map_cons, List.map_nil]
  refine put1_eq (v := .agg [.int .i64 a_0.Truth.Epoch, .int .i64 a_0.Truth.Leader, pv0_2]) rfl ?_
  obtain ⟨v7, hx8, hF9⟩ := bind_some' hF
  simp only [zf1, run_mv, run_call, put_at, put_no, ev_t, ev_c, reduceIte, Nat.reduceEqDiff, List.map_cons, List.map_nil]
  refine call0 rfl (laws_markView_x hW k a_0.Truth pv0_2 pc0_2 ph0_2 k_1 v7 hx8 hS6) ?_
  rintro _ h12 ⟨c10, rfl, hv11, hS13⟩
  simp only [run_mv, run_ops_nil, x12_2, run_seq, run_reg, run_fa, put1_some, Nat.reduceAdd, Nat.zero_add, Nat.add_zero, xfa_ref, run_ld, put_at, put_no, ev_t, ev_c, reduceIte,
      Nat.reduceEqDiff, List.map_cons, List.map_nil]
  refine put1_eq (v := pv0_3) rfl ?_
  obtain ⟨v14, hx15, hF16⟩ := bind_some' hF9
  simp only [run_mv, run_call, put_at, put_no, ev_t, ev_c, reduceIte, Nat.reduceEqDiff, List.map_cons, List.map_nil]
  refine call0 rfl (laws_markNodeS_x hW k pv0_3 pc0_3 a_0.Nodes ph0_3 v7.1 v14 hx15 (Sep.m1 hS13)) ?_
  rintro _ h19 ⟨c17, rfl, hv18, hS20⟩
  simp only [run_mv, run_ops_nil, x12_1, run_seq, run_reg, run_fa, put1_some, Nat.reduceAdd, Nat.zero_add, Nat.add_zero, xfa_ref, run_ld, put_at, put_no, ev_t, ev_c, reduceIte,
      Nat.reduceEqDiff, List.map_cons, List.map_nil]
  refine put1_eq (v := pv0_4) rfl ?_
  obtain ⟨v21, hx22, hF23⟩ := bind_some' hF16
  simp only [run_mv, run_call, put_at, put_no, ev_t, ev_c, reduceIte, Nat.reduceEqDiff, List.map_cons, List.map_nil]
  refine call0 rfl (laws_markRowS_x hW k pv0_4 pc0_4 a_0.Acked ph0_4 v14.1 v21 hx22 (Sep.m2 hS20)) ?_
  rintro _ h26 ⟨c24, rfl, hv25, hS27⟩
  simp only [run_mv, run_ops_nil, run_seq, run_reg, run_ret, put_at, put_no, ev_t, ev_c, reduceIte, Nat.reduceEqDiff, List.map_cons, List.map_nil]
  have he := some_inj hF23
  subst he
  simp only [end_ret1, put_at, put_no, ev_t, ev_c, reduceIte, Nat.reduceEqDiff, List.map_cons, List.map_nil]
  exact ⟨c10, c17, c24, by first | trivial | rfl, hv11, hv18, hv25, (Sep.m2 (Sep.m1 hS27))⟩
theorem laws_szIntS_x {W : Nat → Bool} {h : Heap} (hW : ∀ b,
    h.length ≤ b → W b = true) (a_0 : List Int) (left_1 : Int) (r : Int) (hF : laws_szIntS a_0 left_1 = some r) : Ret E W 70 [lst cI a_0,
    .int .i64 left_1] h (fun v h' => cut h.length h' E.sz false 9 v = some (.int .i64 r)) := by
  refine Ret.of (fn := x70) rfl (Run.of ?_)
  unfold laws_szIntS at hF
  have zf0 : argFr [lst cI a_0, .int .i64 left_1] 0 = lst cI a_0 := rfl
  have zf1 : argFr [lst cI a_0, .int .i64 left_1] 1 = .int .i64 left_1 := rfl
  generalize argFr [lst cI a_0, .int .i64 left_1] = fr0 at zf0 zf1 ⊢
  have hS : Sep h h.length [] := Sep.nil h
  simp only [x70, run_seq, run_reg, run_mv, run_ops_nil, x70_2, zf1, zf0, run_len, put1_some, xlen_lst, run_bin, xsub, x70_1, xlss, run_cond, put_at, put_no, ev_t, ev_c,
      reduceIte, Nat.reduceEqDiff, List.map_cons, List.map_nil]
  refine cond_split (t := (decide ((IntKind.wrap .i64 (left_1 - (List.length a_0 : Int))) < 0))) (fun hc1 => ?_) (fun hc1 => ?_)
  · rw [iteT hc1] at hF
    simp only [run_seq, run_reg, run_mv, run_ops_nil, run_ret, put_at, put_no, ev_t, ev_c, reduceIte, Nat.reduceEqDiff, List.map_cons, List.map_nil]
    have he := some_inj hF
    subst he
    simp only [end_ret1, put_at, put_no, ev_t, ev_c, reduceIte, Nat.reduceEqDiff, List.map_cons, List.map_nil]
    exact rfl
  · rw [iteF hc1] at hF
    simp only [run_skip, run_seq, run_reg, run_mv, run_ops_nil, run_ret, put_at, put_no, ev_t, ev_c, reduceIte, Nat.reduceEqDiff, List.map_cons, List.map_nil]
    have he := some_inj hF
    subst he
    simp only [end_ret1, put_at, put_no, ev_t, ev_c, reduceIte, Nat.reduceEqDiff, List.map_cons, List.map_nil]
    exact rfl
theorem laws_szView_x {W : Nat → Bool} {h : Heap} (hW : ∀ b,
    h.length ≤ b → W b = true) (a_0 : View) (left_1 : Int) (r : Int) (hF : laws_szView a_0 left_1 = some r) : Ret E W 50 [.agg [.int .i64 a_0.Epoch, .int .i64 a_0.Leader,
    lst cI a_0.InStep], .int .i64 left_1] h (fun v h' => cut h.length h' E.sz false 9 v = some (.int .i64 r)) := by
  refine Ret.of (fn := x50) rfl (Run.of ?_)
  unfold laws_szView at hF
  have zf0 : argFr [.agg [.int .i64 a_0.Epoch, .int .i64 a_0.Leader, lst cI a_0.InStep], .int .i64 left_1] 0 = .agg [.int .i64 a_0.Epoch, .int .i64 a_0.Leader,
      lst cI a_0.InStep] := rfl
  have zf1 : argFr [.agg [.int .i64 a_0.Epoch, .int .i64 a_0.Leader, lst cI a_0.InStep], .int .i64 left_1] 1 = .int .i64 left_1 := rfl
  generalize argFr [.agg [.int .i64 a_0.Epoch, .int .i64 a_0.Leader, lst cI a_0.InStep], .int .i64 left_1] = fr0 at zf0 zf1 ⊢
  have hS : Sep h h.length [] := Sep.nil h
  simp only [x50, run_seq, run_reg, run_box, zf0, put_at, put_no, ev_t, ev_c, reduceIte, Nat.reduceEqDiff, List.map_cons, List.map_nil]
  refine put2_boxC (cs := [.int .i64 a_0.Epoch, .int .i64 a_0.Leader, lst cI a_0.InStep]) hS rfl rfl rfl (fun b1 h2 hS3 => ?_)
  simp only [run_mv, run_ops_nil, put_at, put_no, ev_t, ev_c, reduceIte, Nat.reduceEqDiff, List.map_cons, List.map_nil]
  refine frz_stepC hS3 hW (by simp only [put_at, put_no, ev_t, ev_c, reduceIte, Nat.reduceEqDiff, List.map_cons, List.map_nil]) (fun h5 hS6 => ?_)
  simp only [run_frz_nil, x50_2, run_seq, run_reg, run_fa, put1_some, Nat.reduceAdd, Nat.zero_add, Nat.add_zero, xfa_ref, run_ld, put_at, put_no, ev_t, ev_c, reduceIte,
      Nat.reduceEqDiff, List.map_cons, List.map_nil]
  refine put1_eq (v := lst cI a_0.InStep) rfl ?_
  obtain ⟨v7, hx8, hF9⟩ := bind_some' hF
  simp only [zf1, run_mv, run_call, put_at, put_no, ev_t, ev_c, reduceIte, Nat.reduceEqDiff, List.map_cons, List.map_nil]
  refine call1 rfl (mapM1 snap_lst (mapM1 snap_int mapM0)) (laws_szIntS_x (fun b hb => decide_eq_true hb) a_0.InStep left_1 v7 hx8) ?_
  simp only [run_mv, run_ops_nil, x50_1, run_seq, run_reg, run_bin, put1_some, xlss, run_cond, put_at, put_no, ev_t, ev_c, reduceIte, Nat.reduceEqDiff, List.map_cons, List.map_nil]
  refine cond_split (t := (decide (v7 < 0))) (fun hc10 => ?_) (fun hc10 => ?_)
  · rw [iteT hc10] at hF9
    simp only [run_seq, run_reg, run_mv, run_ops_nil, run_ret, put_at, put_no, ev_t, ev_c, reduceIte, Nat.reduceEqDiff, List.map_cons, List.map_nil]
    have he := some_inj hF9
    subst he
    simp only [end_ret1, put_at, put_no, ev_t, ev_c, reduceIte, Nat.reduceEqDiff, List.map_cons, List.map_nil]
    exact rfl
  · rw [iteF hc10] at hF9
    simp only [run_skip, run_seq, run_reg, run_mv, run_ops_nil, run_ret, put_at, put_no, ev_t, ev_c, reduceIte, Nat.reduceEqDiff, List.map_cons, List.map_nil]
    have he := some_inj hF9
    subst he
    simp only [end_ret1, put_at, put_no, ev_t, ev_c, reduceIte, Nat.reduceEqDiff, List.map_cons, List.map_nil]
    exact rfl
theorem laws_szRowS_x {W : Nat → Bool} {h : Heap} (hW : ∀ b,
    h.length ≤ b → W b = true) (a_0 : List Row) (left_1 : Int) (r : Int) (hF : laws_szRowS a_0 left_1 = some r) : Ret E W 52 [lst Row.cells a_0,
    .int .i64 left_1] h (fun v h' => cut h.length h' E.sz false 9 v = some (.int .i64 r)) := by
  refine Ret.of (fn := x52) rfl (Run.of ?_)
  unfold laws_szRowS at hF
  have zf0 : argFr [lst Row.cells a_0, .int .i64 left_1] 0 = lst Row.cells a_0 := rfl
  have zf1 : argFr [lst Row.cells a_0, .int .i64 left_1] 1 = .int .i64 left_1 := rfl
  generalize argFr [lst Row.cells a_0, .int .i64 left_1] = fr0 at zf0 zf1 ⊢
  have hS : Sep h h.length [] := Sep.nil h
  simp only [x52, run_seq, run_reg, run_mv, run_ops_nil, x52_2, zf1, zf0, run_len, put1_some, xlen_lst, run_bin, xsub, x52_1, xlss, run_cond, put_at, put_no, ev_t, ev_c,
      reduceIte, Nat.reduceEqDiff, List.map_cons, List.map_nil]
  refine cond_split (t := (decide ((IntKind.wrap .i64 (left_1 - (List.length a_0 : Int))) < 0))) (fun hc1 => ?_) (fun hc1 => ?_)
  · rw [iteT hc1] at hF
    simp only [run_seq, run_reg, run_mv, run_ops_nil, run_ret, put_at, put_no, ev_t, ev_c, reduceIte, Nat.reduceEqDiff, List.map_cons, List.map_nil]
    have he := some_inj hF
    subst he
    simp only [end_ret1, put_at, put_no, ev_t, ev_c, reduceIte, Nat.reduceEqDiff, List.map_cons, List.map_nil]
    exact rfl
  · rw [iteF hc1] at hF
    simp only [run_skip, run_seq, run_reg, run_mv, run_ops_nil, run_ret, put_at, put_no, ev_t, ev_c, reduceIte, Nat.reduceEqDiff, List.map_cons, List.map_nil]
    have he := some_inj hF
    subst he
    simp only [end_ret1, put_at, put_no, ev_t, ev_c, reduceIte, Nat.reduceEqDiff, List.map_cons, List.map_nil]
    exact rfl
theorem laws_szNode_x {W : Nat → Bool} {h : Heap} (hW : ∀ b,
    h.length ≤ b → W b = true) (a_0 : Node) (left_1 : Int) (r : Int) (hF : laws_szNode a_0 left_1 = some r) : Ret E W 71 [.agg [.int .i64 a_0.View.Epoch,
    .int .i64 a_0.View.Leader, lst cI a_0.View.InStep, lst Row.cells a_0.Log, lst cI a_0.Known, .int .i64 a_0.Told],
    .int .i64 left_1] h (fun v h' => cut h.length h' E.sz false 9 v = some (.int .i64 r)) := by
  refine Ret.of (fn := x71) rfl (Run.of ?_)
  unfold laws_szNode at hF
  have zf0 : argFr [.agg [.int .i64 a_0.View.Epoch, .int .i64 a_0.View.Leader, lst cI a_0.View.InStep, lst Row.cells a_0.Log, lst cI a_0.Known, .int .i64 a_0.Told],
      .int .i64 left_1] 0 = .agg [.int .i64 a_0.View.Epoch, .int .i64 a_0.View.Leader, lst cI a_0.View.InStep, lst Row.cells a_0.Log, lst cI a_0.Known, .int .i64 a_0.Told] := rfl
  have zf1 : argFr [.agg [.int .i64 a_0.View.Epoch, .int .i64 a_0.View.Leader, lst cI a_0.View.InStep, lst Row.cells a_0.Log, lst cI a_0.Known, .int .i64 a_0.Told],
      .int .i64 left_1] 1 = .int .i64 left_1 := rfl
  generalize argFr [.agg [.int .i64 a_0.View.Epoch, .int .i64 a_0.View.Leader, lst cI a_0.View.InStep, lst Row.cells a_0.Log, lst cI a_0.Known, .int .i64 a_0.Told],
      .int .i64 left_1] = fr0 at zf0 zf1 ⊢
  have hS : Sep h h.length [] := Sep.nil h
  simp only [x71, run_seq, run_reg, run_box, zf0, put_at, put_no, ev_t, ev_c, reduceIte, Nat.reduceEqDiff, List.map_cons, List.map_nil]
  refine put2_boxC (cs := [.int .i64 a_0.View.Epoch, .int .i64 a_0.View.Leader, lst cI a_0.View.InStep, lst Row.cells a_0.Log, lst cI a_0.Known,
      .int .i64 a_0.Told]) hS rfl rfl rfl (fun b1 h2 hS3 => ?_)
  simp only [run_mv, run_ops_nil, put_at, put_no, ev_t, ev_c, reduceIte, Nat.reduceEqDiff, List.map_cons, List.map_nil]
  refine frz_stepC hS3 hW (by simp only [put_at, put_no, ev_t, ev_c, reduceIte, Nat.reduceEqDiff, List.map_cons, List.map_nil]) (fun h5 hS6 => ?_)
  simp only [run_frz_nil, x71_6, run_seq, run_reg, run_fa, put1_some, Nat.reduceAdd, Nat.zero_add, Nat.add_zero, xfa_ref, run_ld, put_at, put_no, ev_t, ev_c, reduceIte,
      Nat.reduceEqDiff, List.map_cons, List.map_nil]
  refine put1_eq (v := .agg [.int .i64 a_0.View.Epoch, .int .i64 a_0.View.Leader, lst cI a_0.View.InStep]) rfl ?_
  obtain ⟨v7, hx8, hF9⟩ := bind_some' hF
  simp only [zf1, run_mv, run_call, put_at, put_no, ev_t, ev_c, reduceIte, Nat.reduceEqDiff, List.map_cons, List.map_nil]
  refine call1 rfl (mapM1 (snap_agg (mapM1 snap_int (mapM1 snap_int (mapM1 snap_lst mapM0)))) (mapM1 snap_int mapM0)) (laws_szView_x
      (fun b hb => decide_eq_true hb) a_0.View left_1 v7 hx8) ?_
  simp only [run_mv, run_ops_nil, x71_5, run_seq, run_reg, run_bin, put1_some, xlss, run_cond, put_at, put_no, ev_t, ev_c, reduceIte, Nat.reduceEqDiff, List.map_cons, List.map_nil]
  refine cond_split (t := (decide (v7 < 0))) (fun hc10 => ?_) (fun hc10 => ?_)
  · rw [iteT hc10] at hF9
    simp only [run_seq, run_reg, run_mv, run_ops_nil, run_ret, put_at, put_no, ev_t, ev_c, reduceIte, Nat.reduceEqDiff, List.map_cons, List.map_nil]
    have he := some_inj hF9
    subst he
    simp only [end_ret1, put_at, put_no, ev_t, ev_c, reduceIte, Nat.reduceEqDiff, List.map_cons, List.map_nil]
    exact rfl
  · rw [iteF hc10] at hF9
    simp only [run_skip, x71_4, run_seq, run_reg, run_fa, put1_some, Nat.reduceAdd, Nat.zero_add, Nat.add_zero, xfa_ref, run_ld, put_at, put_no, ev_t, ev_c, reduceIte,
        Nat.reduceEqDiff, List.map_cons, List.map_nil]
    refine put1_eq (v := lst Row.cells a_0.Log) rfl ?_
    obtain ⟨v11, hx12, hF13⟩ := bind_some' hF9
    simp only [run_mv, run_call, put_at, put_no, ev_t, ev_c, reduceIte, Nat.reduceEqDiff, List.map_cons, List.map_nil]
    refine call1 rfl (mapM1 snap_lst (mapM1 snap_int mapM0)) (laws_szRowS_x (fun b hb => decide_eq_true hb) a_0.Log v7 v11 hx12) ?_
    simp only [run_mv, run_ops_nil, x71_3, run_seq, run_reg, run_bin, put1_some, xlss, run_cond, put_at, put_no, ev_t, ev_c, reduceIte, Nat.reduceEqDiff, List.map_cons,
        List.map_nil]
    refine cond_split (t := (decide (v11 < 0))) (fun hc14 => ?_) (fun hc14 => ?_)
    · rw [iteT hc14] at hF13
      simp only [run_seq, run_reg, run_mv, run_ops_nil, run_ret, put_at, put_no, ev_t, ev_c, reduceIte, Nat.reduceEqDiff, List.map_cons, List.map_nil]
      have he := some_inj hF13
      subst he
      simp only [end_ret1, put_at, put_no, ev_t, ev_c, reduceIte, Nat.reduceEqDiff, List.map_cons, List.map_nil]
      exact rfl
    · rw [iteF hc14] at hF13
      simp only [run_skip, x71_2, run_seq, run_reg, run_fa, put1_some, Nat.reduceAdd, Nat.zero_add, Nat.add_zero, xfa_ref, run_ld, put_at, put_no, ev_t, ev_c, reduceIte,
          Nat.reduceEqDiff, List.map_cons, List.map_nil]
      refine put1_eq (v := lst cI a_0.Known) rfl ?_
      obtain ⟨v15, hx16, hF17⟩ := bind_some' hF13
      simp only [run_mv, run_call, put_at, put_no, ev_t, ev_c, reduceIte, Nat.reduceEqDiff, List.map_cons, List.map_nil]
      refine call1 rfl (mapM1 snap_lst (mapM1 snap_int mapM0)) (laws_szIntS_x (fun b hb => decide_eq_true hb) a_0.Known v11 v15 hx16) ?_
      simp only [run_mv, run_ops_nil, x71_1, run_seq, run_reg, run_bin, put1_some, xlss, run_cond, put_at, put_no, ev_t, ev_c, reduceIte, Nat.reduceEqDiff, List.map_cons,
          List.map_nil]
      refine cond_split (t := (decide (v15 < 0))) (fun hc18 => ?_) (fun hc18 => ?_)
      · rw [iteT hc18] at hF17
        simp only [run_seq, run_reg, run_mv, run_ops_nil, run_ret, put_at, put_no, ev_t, ev_c, reduceIte, Nat.reduceEqDiff, List.map_cons, List.map_nil]
        have he := some_inj hF17
        subst he
        simp only [end_ret1, put_at, put_no, ev_t, ev_c, reduceIte, Nat.reduceEqDiff, List.map_cons, List.map_nil]
        exact rfl
      · rw [iteF hc18] at hF17
        simp only [run_skip, run_seq, run_reg, run_mv, run_ops_nil, run_ret, put_at, put_no, ev_t, ev_c, reduceIte, Nat.reduceEqDiff, List.map_cons, List.map_nil]
        have he := some_inj hF17
        subst he
        simp only [end_ret1, put_at, put_no, ev_t, ev_c, reduceIte, Nat.reduceEqDiff, List.map_cons, List.map_nil]
        exact rfl
theorem laws_szNodeS_x {W : Nat → Bool} {h : Heap} (hW : ∀ b,
    h.length ≤ b → W b = true) (k : Nat) (a_0 : List Node) (left_1 : Int) (r : Int) (hF : laws_szNodeS k a_0 left_1 = some r) : Ret E W 51 [lst Node.cells a_0,
    .int .i64 left_1] h (fun v h' => cut h.length h' E.sz false 9 v = some (.int .i64 r)) := by
  refine Ret.of (fn := x51) rfl (Run.of ?_)
  unfold laws_szNodeS at hF
  have zf0 : argFr [lst Node.cells a_0, .int .i64 left_1] 0 = lst Node.cells a_0 := rfl
  have zf1 : argFr [lst Node.cells a_0, .int .i64 left_1] 1 = .int .i64 left_1 := rfl
  generalize argFr [lst Node.cells a_0, .int .i64 left_1] = fr0 at zf0 zf1 ⊢
  have hS : Sep h h.length [] := Sep.nil h
  simp only [x51, run_seq, run_reg, run_mv, run_ops_nil, x51_9, zf1, zf0, run_len, put1_some, xlen_lst, run_bin, xsub, x51_8, xlss, run_cond, put_at, put_no, ev_t, ev_c,
      reduceIte, Nat.reduceEqDiff, List.map_cons, List.map_nil]
  refine cond_split (t := (decide ((IntKind.wrap .i64 (left_1 - (List.length a_0 : Int))) < 0))) (fun hc1 => ?_) (fun hc1 => ?_)
  · rw [iteT hc1] at hF
    simp only [run_seq, run_reg, run_mv, run_ops_nil, run_ret, put_at, put_no, ev_t, ev_c, reduceIte, Nat.reduceEqDiff, List.map_cons, List.map_nil]
    have he := some_inj hF
    subst he
    simp only [end_ret1, put_at, put_no, ev_t, ev_c, reduceIte, Nat.reduceEqDiff, List.map_cons, List.map_nil]
    exact rfl
  · rw [iteF hc1] at hF
    simp only [run_skip, x51_7, run_seq, run_reg, run_mv, run_ops_nil, put_at, put_no, ev_t, ev_c, reduceIte, Nat.reduceEqDiff, List.map_cons, List.map_nil]
    obtain ⟨oc8, hX10, hk11⟩ := jn_some hF
    simp only [x51_6]
    refine loopF_j (σ := Int × Int) (fun s40 => laws_szNodeS_b1 a_0 s40.1 s40.2)
        (fun s fr' h' => fr' 0 = lst Node.cells a_0 ∧ fr' 1 = .int .i64 s.1 ∧ fr' 5 = .int .i64 s.2 ∧ Sep h' h.length ([])) hX10 ⟨by simp only [zf0, put_at, put_no, ev_t, ev_c,
        reduceIte, Nat.reduceEqDiff, List.map_cons, List.map_nil], by simp only [put_at, put_no, ev_t, ev_c, reduceIte, Nat.reduceEqDiff, List.map_cons, List.map_nil],
        by simp only [put_at, put_no, ev_t, ev_c, reduceIte, Nat.reduceEqDiff, List.map_cons, List.map_nil], hS⟩ (fun _ _ _ h => h) ?_ ?_
    · rintro ⟨s4, s5⟩ fr20 h21 ⟨f23, f24, f25, hS22⟩ oc9 hF12 hr13 Q14 hN15 hK16 hR17 hE18
      dsimp only at *
      unfold laws_szNodeS_b1 at hF12
      simp only [x51_4, run_seq, run_reg, f25, run_mv, f23, run_len, put1_some, xlen_lst, run_bin, xlss, run_ops_nil, run_cond, put_at, put_no, ev_t, ev_c, reduceIte,
          Nat.reduceEqDiff, List.map_cons, List.map_nil]
      refine cond_split (t := (decide (s5 < (List.length a_0 : Int)))) (fun hc27 => ?_) (fun hc27 => ?_)
      · rw [iteT hc27] at hF12
        obtain ⟨x28, hx29, hF30⟩ := bind_some' hF12
        simp only [run_skip, x51_3, run_seq, run_block, x51_2, run_reg, f23, run_mv, f25, run_ia, put_at, put_no, ev_t, ev_c, reduceIte, Nat.reduceEqDiff, List.map_cons,
            List.map_nil]
        refine put1_eq (v := .ref (Node.cells x28) 0) (xia_lst hx29 rfl) ?_
        simp only [run_ld, put_at, put_no, ev_t, ev_c, reduceIte, Nat.reduceEqDiff, List.map_cons, List.map_nil]
        refine put1_eq (v := .agg [.int .i64 x28.View.Epoch, .int .i64 x28.View.Leader, lst cI x28.View.InStep, lst Row.cells x28.Log, lst cI x28.Known, .int .i64 x28.Told]) rfl ?_
        obtain ⟨v31, hx32, hF33⟩ := bind_some' hF30
        simp only [f24, run_mv, run_call, put_at, put_no, ev_t, ev_c, reduceIte, Nat.reduceEqDiff, List.map_cons, List.map_nil]
        refine call1 rfl (mapM1 (snap_agg (mapM1 snap_int (mapM1 snap_int (mapM1 snap_lst (mapM1 snap_lst (mapM1 snap_lst (mapM1 snap_int mapM0))))))) (mapM1 snap_int mapM0))
            (laws_szNode_x (fun b hb => decide_eq_true hb) x28 s4 v31 hx32) ?_
        simp only [run_mv, run_ops_nil, x51_1, run_seq, run_reg, run_bin, put1_some, xlss, run_cond, put_at, put_no, ev_t, ev_c, reduceIte, Nat.reduceEqDiff, List.map_cons,
            List.map_nil]
        refine cond_split (t := (decide (v31 < 0))) (fun hc34 => ?_) (fun hc34 => ?_)
        · rw [iteT hc34] at hF33
          simp only [run_seq, run_reg, run_mv, run_ops_nil, run_ret, put_at, put_no, ev_t, ev_c, reduceIte, Nat.reduceEqDiff, List.map_cons, List.map_nil]
          have e35 := some_inj hF33
          subst e35
          have ho36 := hr13 _ rfl
          have hk37 := hk11
          rw [ho36] at hk37
          dsimp only [jnO] at hk37
          apply hR17
          have he := some_inj hk37
          subst he
          simp only [end_ret1, put_at, put_no, ev_t, ev_c, reduceIte, Nat.reduceEqDiff, List.map_cons, List.map_nil]
          exact rfl
        · rw [iteF hc34] at hF33
          simp only [run_skip, run_blk, run_reg, f25, run_mv, run_bin, put1_some, xadd, run_ops_nil, run_nil, put_at, put_no, ev_t, ev_c, reduceIte, Nat.reduceEqDiff,
              List.map_cons, List.map_nil]
          have e38 := some_inj hF33
          exact hN15 _ _ _ e38.symm ⟨by simp only [f23, put_at, put_no, ev_t, ev_c, reduceIte, Nat.reduceEqDiff, List.map_cons, List.map_nil], by simp only [put_at, put_no, ev_t,
              ev_c, reduceIte, Nat.reduceEqDiff, List.map_cons, List.map_nil], by simp only [put_at, put_no, ev_t, ev_c, reduceIte, Nat.reduceEqDiff, List.map_cons, List.map_nil],
              hS22⟩
      · rw [iteF hc27] at hF12
        simp only [run_exit, out_code, out_nil, put_at, put_no, ev_t, ev_c, reduceIte, Nat.reduceEqDiff, List.map_cons, List.map_nil]
        have e39 := some_inj hF12
        exact hK16 _ _ _ e39.symm ⟨by simp only [f23, put_at, put_no, ev_t, ev_c, reduceIte, Nat.reduceEqDiff, List.map_cons, List.map_nil], by simp only [f24, put_at, put_no,
            ev_t, ev_c, reduceIte, Nat.reduceEqDiff, List.map_cons, List.map_nil], by simp only [f25, put_at, put_no, ev_t, ev_c, reduceIte, Nat.reduceEqDiff, List.map_cons,
            List.map_nil], hS22⟩
    · rintro ⟨s41, s42⟩ fr43 h44 rfl ⟨f46, f47, f48, hS45⟩
      dsimp only [jnO] at hk11
      dsimp only at *
      unfold laws_szNodeS_j1 at hk11
      simp only [run_seq, run_reg, f47, run_mv, run_ops_nil, run_ret, put_at, put_no, ev_t, ev_c, reduceIte, Nat.reduceEqDiff, List.map_cons, List.map_nil]
      have he := some_inj hk11
      subst he
      simp only [end_ret1, put_at, put_no, ev_t, ev_c, reduceIte, Nat.reduceEqDiff, List.map_cons, List.map_nil]
      exact rfl
theorem laws_szCluster_x {W : Nat → Bool} {h : Heap} (hW : ∀ b,
    h.length ≤ b → W b = true) (k : Nat) (a_0 : Cluster) (left_1 : Int) (r : Int) (hF : laws_szCluster k a_0 left_1 = some r) : Ret E W 14 [.agg [.int .i64 a_0.Truth.Epoch,
    .int .i64 a_0.Truth.Leader, lst cI a_0.Truth.InStep, lst Node.cells a_0.Nodes, lst Row.cells a_0.Acked],
    .int .i64 left_1] h (fun v h' => cut h.length h' E.sz false 9 v = some (.int .i64 r)) := by
  refine Ret.of (fn := x14) rfl (Run.of ?_)
  unfold laws_szCluster at hF
  have zf0 : argFr [.agg [.int .i64 a_0.Truth.Epoch, .int .i64 a_0.Truth.Leader, lst cI a_0.Truth.InStep, lst Node.cells a_0.Nodes, lst Row.cells a_0.Acked],
      .int .i64 left_1] 0 = .agg [.int .i64 a_0.Truth.Epoch, .int .i64 a_0.Truth.Leader, lst cI a_0.Truth.InStep, lst Node.cells a_0.Nodes, lst Row.cells a_0.Acked] := rfl
  have zf1 : argFr [.agg [.int .i64 a_0.Truth.Epoch, .int .i64 a_0.Truth.Leader, lst cI a_0.Truth.InStep, lst Node.cells a_0.Nodes, lst Row.cells a_0.Acked],
      .int .i64 left_1] 1 = .int .i64 left_1 := rfl
  generalize argFr [.agg [.int .i64 a_0.Truth.Epoch, .int .i64 a_0.Truth.Leader, lst cI a_0.Truth.InStep, lst Node.cells a_0.Nodes, lst Row.cells a_0.Acked],
      .int .i64 left_1] = fr0 at zf0 zf1 ⊢
  have hS : Sep h h.length [] := Sep.nil h
  simp only [x14, run_seq, run_reg, run_box, zf0, put_at, put_no, ev_t, ev_c, reduceIte, Nat.reduceEqDiff, List.map_cons, List.map_nil]
  refine put2_boxC (cs := [.int .i64 a_0.Truth.Epoch, .int .i64 a_0.Truth.Leader, lst cI a_0.Truth.InStep, lst Node.cells a_0.Nodes,
      lst Row.cells a_0.Acked]) hS rfl rfl rfl (fun b1 h2 hS3 => ?_)
  simp only [run_mv, run_ops_nil, put_at, put_no, ev_t, ev_c, reduceIte, Nat.reduceEqDiff, List.map_cons, List.map_nil]
  refine frz_stepC hS3 hW (by simp only [put_at, put_no, ev_t, ev_c, reduceIte, Nat.reduceEqDiff, List.map_cons, List.map_nil]) (fun h5 hS6 => ?_)
  simp only [run_frz_nil, x14_6, run_seq, run_reg, run_fa, put1_some, Nat.reduceAdd, Nat.zero_add, Nat.add_zero, xfa_ref, run_ld, put_at, put_no, ev_t, ev_c, reduceIte,
      Nat.reduceEqDiff, List.map_cons, List.map_nil]
  refine put1_eq (v := .agg [.int .i64 a_0.Truth.Epoch, .int .i64 a_0.Truth.Leader, lst cI a_0.Truth.InStep]) rfl ?_
  obtain ⟨v7, hx8, hF9⟩ := bind_some' hF
  simp only [zf1, run_mv, run_call, put_at, put_no, ev_t, ev_c, reduceIte, Nat.reduceEqDiff, List.map_cons, List.map_nil]
  refine call1 rfl (mapM1 (snap_agg (mapM1 snap_int (mapM1 snap_int (mapM1 snap_lst mapM0)))) (mapM1 snap_int mapM0)) (laws_szView_x
      (fun b hb => decide_eq_true hb) a_0.Truth left_1 v7 hx8) ?_
  simp only [run_mv, run_ops_nil, x14_5, run_seq, run_reg, run_bin, put1_some, xlss, run_cond, put_at, put_no, ev_t, ev_c, reduceIte, Nat.reduceEqDiff, List.map_cons, List.map_nil]
  refine cond_split (t := (decide (v7 < 0))) (fun hc10 => ?_) (fun hc10 => ?_)
  · rw [iteT hc10] at hF9
    simp only [run_seq, run_reg, run_mv, run_ops_nil, run_ret, put_at, put_no, ev_t, ev_c, reduceIte, Nat.reduceEqDiff, List.map_cons, List.map_nil]
    have he := some_inj hF9
    subst he
    simp only [end_ret1, put_at, put_no, ev_t, ev_c, reduceIte, Nat.reduceEqDiff, List.map_cons, List.map_nil]
    exact rfl
  · rw [iteF hc10] at hF9
    simp only [run_skip, x14_4, run_seq, run_reg, run_fa, put1_some, Nat.reduceAdd, Nat.zero_add, Nat.add_zero, xfa_ref, run_ld, put_at, put_no, ev_t, ev_c, reduceIte,
        Nat.reduceEqDiff, List.map_cons, List.map_nil]
    refine put1_eq (v := lst Node.cells a_0.Nodes) rfl ?_
    obtain ⟨v11, hx12, hF13⟩ := bind_some' hF9
    simp only [run_mv, run_call, put_at, put_no, ev_t, ev_c, reduceIte, Nat.reduceEqDiff, List.map_cons, List.map_nil]
    refine call1 rfl (mapM1 snap_lst (mapM1 snap_int mapM0)) (laws_szNodeS_x (fun b hb => decide_eq_true hb) k a_0.Nodes v7 v11 hx12) ?_
    simp only [run_mv, run_ops_nil, x14_3, run_seq, run_reg, run_bin, put1_some, xlss, run_cond, put_at, put_no, ev_t, ev_c, reduceIte, Nat.reduceEqDiff, List.map_cons,
        List.map_nil]
    refine cond_split (t := (decide (v11 < 0))) (fun hc14 => ?_) (fun hc14 => ?_)
    · rw [iteT hc14] at hF13
      simp only [run_seq, run_reg, run_mv, run_ops_nil, run_ret, put_at, put_no, ev_t, ev_c, reduceIte, Nat.reduceEqDiff, List.map_cons, List.map_nil]
      have he := some_inj hF13
      subst he
      simp only [end_ret1, put_at, put_no, ev_t, ev_c, reduceIte, Nat.reduceEqDiff, List.map_cons, List.map_nil]
      exact rfl
    · rw [iteF hc14] at hF13
      simp only [run_skip, x14_2, run_seq, run_reg, run_fa, put1_some, Nat.reduceAdd, Nat.zero_add, Nat.add_zero, xfa_ref, run_ld, put_at, put_no, ev_t, ev_c, reduceIte,
          Nat.reduceEqDiff, List.map_cons, List.map_nil]
      refine put1_eq (v := lst Row.cells a_0.Acked) rfl ?_
      obtain ⟨v15, hx16, hF17⟩ := bind_some' hF13
      simp only [run_mv, run_call, put_at, put_no, ev_t, ev_c, reduceIte, Nat.reduceEqDiff, List.map_cons, List.map_nil]
      refine call1 rfl (mapM1 snap_lst (mapM1 snap_int mapM0)) (laws_szRowS_x (fun b hb => decide_eq_true hb) a_0.Acked v11 v15 hx16) ?_
      simp only [run_mv, run_ops_nil, x14_1, run_seq, run_reg, run_bin, put1_some, xlss, run_cond, put_at, put_no, ev_t, ev_c, reduceIte, Nat.reduceEqDiff, List.map_cons,
          List.map_nil]
      refine cond_split (t := (decide (v15 < 0))) (fun hc18 => ?_) (fun hc18 => ?_)
      · rw [iteT hc18] at hF17
        simp only [run_seq, run_reg, run_mv, run_ops_nil, run_ret, put_at, put_no, ev_t, ev_c, reduceIte, Nat.reduceEqDiff, List.map_cons, List.map_nil]
        have he := some_inj hF17
        subst he
        simp only [end_ret1, put_at, put_no, ev_t, ev_c, reduceIte, Nat.reduceEqDiff, List.map_cons, List.map_nil]
        exact rfl
      · rw [iteF hc18] at hF17
        simp only [run_skip, run_seq, run_reg, run_mv, run_ops_nil, run_ret, put_at, put_no, ev_t, ev_c, reduceIte, Nat.reduceEqDiff, List.map_cons, List.map_nil]
        have he := some_inj hF17
        subst he
        simp only [end_ret1, put_at, put_no, ev_t, ev_c, reduceIte, Nat.reduceEqDiff, List.map_cons, List.map_nil]
        exact rfl
theorem laws_toIntS_x {W : Nat → Bool} {h : Heap} (hW : ∀ b,
    h.length ≤ b → W b = true) (k : Nat) (a_0 : List Int) (r : List Int) (hF : laws_toIntS k a_0 = some r) : Ret E W 75 [lst cI a_0] h (fun v h' => ∃ rv0 rc0,
    v = rv0 ∧ SlF cI 1 3 rv0 r rc0 ∧ Sep h' h.length (rc0 ++ ([]))) := by
  refine Ret.of (fn := x75) rfl (Run.of ?_)
  unfold laws_toIntS at hF
  have zf0 : argFr [lst cI a_0] 0 = lst cI a_0 := rfl
  generalize argFr [lst cI a_0] = fr0 at zf0 ⊢
  have hS : Sep h h.length [] := Sep.nil h
  obtain ⟨l1, hx2, hF3⟩ := bind_some' hF
  simp only [x75, run_seq, run_reg, run_mv, run_ops_nil, x75_7, zf0, run_len, put1_some, xlen_lst, run_mkS, put_at, put_no, ev_t, ev_c, reduceIte, Nat.reduceEqDiff, List.map_cons,
      List.map_nil]
  refine put2_mkSF (f := cI) (z := (0 : Int)) hS hx2 rfl (fun v4 c5 h6 hv7 hS8 => ?_)
  simp only [run_mv, run_ops_nil, x75_6, run_seq, run_reg, put_at, put_no, ev_t, ev_c, reduceIte, Nat.reduceEqDiff, List.map_cons, List.map_nil]
  obtain ⟨oc20, hX22, hk23⟩ := jn_some hF3
  simp only [x75_5]
  refine loopF_j (σ := Int × (List Int)) (fun s55 => laws_toIntS_b1 a_0 s55.1 s55.2) (fun s fr' h' => ∃ c16,
      fr' 0 = lst cI a_0 ∧ fr' 3 = v4 ∧ fr' 4 = .int .i64 s.1 ∧ SlF cI 1 3 v4 s.2 c16 ∧ Sep h' h.length (c16 ++ ([]))) hX22 ⟨c5, by simp only [zf0, put_at, put_no, ev_t, ev_c,
      reduceIte, Nat.reduceEqDiff, List.map_cons, List.map_nil], by simp only [put_at, put_no, ev_t, ev_c, reduceIte, Nat.reduceEqDiff, List.map_cons, List.map_nil],
      by simp only [put_at, put_no, ev_t, ev_c, reduceIte, Nat.reduceEqDiff, List.map_cons, List.map_nil], hv7, hS8⟩ (fun _ _ _ h => h) ?_ ?_
  · rintro ⟨s14, s15⟩ fr32 h33 ⟨c16, f35, f36, f37, hv17, hS34⟩ oc21 hF24 hr25 Q26 hN27 hK28 hR29 hE30
    dsimp only at *
    unfold laws_toIntS_b1 at hF24
    simp only [x75_3, run_seq, run_reg, f37, run_mv, f35, run_len, put1_some, xlen_lst, run_bin, xlss, run_ops_nil, run_cond, put_at, put_no, ev_t, ev_c, reduceIte,
        Nat.reduceEqDiff, List.map_cons, List.map_nil]
    refine cond_split (t := (decide (s14 < (List.length a_0 : Int)))) (fun hc39 => ?_) (fun hc39 => ?_)
    · rw [iteT hc39] at hF24
      obtain ⟨x40, hx41, hF42⟩ := bind_some' hF24
      simp only [run_skip, x75_2, run_seq, run_block, x75_1, run_reg, f36, run_mv, f37, f35, run_ia, put_at, put_no, ev_t, ev_c, reduceIte, Nat.reduceEqDiff, List.map_cons,
          List.map_nil]
      refine put1_eq (v := .ref (cI x40) 0) (xia_lst hx41 rfl) ?_
      simp only [run_ld, put_at, put_no, ev_t, ev_c, reduceIte, Nat.reduceEqDiff, List.map_cons, List.map_nil]
      refine put1_eq (v := .int .i64 x40) rfl ?_
      obtain ⟨x43, hx44, hF45⟩ := bind_some' hF42
      simp only [run_ia, put_at, put_no, ev_t, ev_c, reduceIte, Nat.reduceEqDiff, List.map_cons, List.map_nil]
      obtain ⟨b46, hb47⟩ := SlF.isrow hv17 (geti_ne hx44)
      refine put1_eq (SlF.ia hv17 hb47 hx44) ?_
      simp only [run_st, put_at, put_no, ev_t, ev_c, reduceIte, Nat.reduceEqDiff, List.map_cons, List.map_nil]
      refine put2_stF (f := cI) (x' := x40) (o := 0) hv17 hS34 hW hb47 hx44 (fun _ => rfl) rfl rfl (Nat.le_of_ble_eq_true rfl) rfl (fun c50 h48 hv51 hS49 => ?_)
      have hx52 := geti_set (x' := x40) hx44
      simp only [put_no, run_ops_nil, run_blk, run_reg, f37, run_mv, run_bin, put1_some, xadd, run_nil, put_at, ev_t, ev_c, reduceIte, Nat.reduceEqDiff, List.map_cons,
          List.map_nil]
      have e53 := some_inj hF45
      exact hN27 _ _ _ e53.symm ⟨c50, by simp only [f35, put_at, put_no, ev_t, ev_c, reduceIte, Nat.reduceEqDiff, List.map_cons, List.map_nil], by simp only [f36, put_at, put_no,
          ev_t, ev_c, reduceIte, Nat.reduceEqDiff, List.map_cons, List.map_nil], by simp only [put_at, put_no, ev_t, ev_c, reduceIte, Nat.reduceEqDiff, List.map_cons,
          List.map_nil], hv51, hS49⟩
    · rw [iteF hc39] at hF24
      simp only [run_exit, out_code, out_nil, put_at, put_no, ev_t, ev_c, reduceIte, Nat.reduceEqDiff, List.map_cons, List.map_nil]
      have e54 := some_inj hF24
      exact hK28 _ _ _ e54.symm ⟨c16, by simp only [f35, put_at, put_no, ev_t, ev_c, reduceIte, Nat.reduceEqDiff, List.map_cons, List.map_nil], by simp only [f36, put_at, put_no,
          ev_t, ev_c, reduceIte, Nat.reduceEqDiff, List.map_cons, List.map_nil], by simp only [f37, put_at, put_no, ev_t, ev_c, reduceIte, Nat.reduceEqDiff, List.map_cons,
          List.map_nil], hv17, hS34⟩
  · rintro ⟨s56, s57⟩ fr60 h61 rfl ⟨c58, f63, f64, f65, hv59, hS62⟩
    dsimp only [jnO] at hk23
    dsimp only at *
    unfold laws_toIntS_j1 at hk23
    simp only [run_seq, run_reg, f64, run_mv, run_ops_nil, run_ret, put_at, put_no, ev_t, ev_c, reduceIte, Nat.reduceEqDiff, List.map_cons, List.map_nil]
    have he := some_inj hk23
    subst he
    simp only [end_ret1, put_at, put_no, ev_t, ev_c, reduceIte, Nat.reduceEqDiff, List.map_cons, List.map_nil]
    exact ⟨v4, c58, by first | trivial | rfl, hv59, hS62⟩
theorem laws_toView_x {W : Nat → Bool} {h : Heap} (hW : ∀ b,
    h.length ≤ b → W b = true) (k : Nat) (a_0 : View) (r : View) (hF : laws_toView k a_0 = some r) : Ret E W 56 [.agg [.int .i64 a_0.Epoch, .int .i64 a_0.Leader,
    lst cI a_0.InStep]] h (fun v h' => ∃ rv0_2 rc0_2, v = .agg [.int .i64 r.Epoch, .int .i64 r.Leader,
    rv0_2] ∧ SlF cI 1 3 rv0_2 r.InStep rc0_2 ∧ Sep h' h.length (rc0_2 ++ ([]))) := by
  refine Ret.of (fn := x56) rfl (Run.of ?_)
  unfold laws_toView at hF
  have zf0 : argFr [.agg [.int .i64 a_0.Epoch, .int .i64 a_0.Leader, lst cI a_0.InStep]] 0 = .agg [.int .i64 a_0.Epoch, .int .i64 a_0.Leader, lst cI a_0.InStep] := rfl
  generalize argFr [.agg [.int .i64 a_0.Epoch, .int .i64 a_0.Leader, lst cI a_0.InStep]] = fr0 at zf0 ⊢
  have hS : Sep h h.length [] := Sep.nil h
  simp only [x56, run_seq, run_reg, run_box, zf0, put_at, put_no, ev_t, ev_c, reduceIte, Nat.reduceEqDiff, List.map_cons, List.map_nil]
  refine put2_boxC (cs := [.int .i64 a_0.Epoch, .int .i64 a_0.Leader, lst cI a_0.InStep]) hS rfl rfl rfl (fun b1 h2 hS3 => ?_)
  simp only [run_new, put_at, put_no, ev_t, ev_c, reduceIte, Nat.reduceEqDiff, List.map_cons, List.map_nil]
  refine put2_newC hS3 (fun b5 h6 hS7 => ?_)
  simp only [run_ops_nil, put_at, put_no, ev_t, ev_c, reduceIte, Nat.reduceEqDiff, List.map_cons, List.map_nil]
  refine frz_stepC (Sep.m1 hS7) hW (by simp only [put_at, put_no, ev_t, ev_c, reduceIte, Nat.reduceEqDiff, List.map_cons, List.map_nil]) (fun h9 hS10 => ?_)
  simp only [run_frz_nil, x56_4, run_seq, run_reg, run_new, put_at, put_no, ev_t, ev_c, reduceIte, Nat.reduceEqDiff, List.map_cons, List.map_nil]
  refine put2_newC hS10 (fun b11 h12 hS13 => ?_)
  simp only [run_ops_nil, x56_3, run_seq, run_reg, run_fa, put1_some, Nat.reduceAdd, Nat.zero_add, Nat.add_zero, xfa_ref, run_ld, put_at, put_no, ev_t, ev_c, reduceIte,
      Nat.reduceEqDiff, List.map_cons, List.map_nil]
  refine put1_eq (v := .int .i64 a_0.Epoch) rfl ?_
  simp only [run_fa, put1_some, Nat.reduceAdd, Nat.zero_add, Nat.add_zero, xfa_ptr, run_st, put_at, put_no, ev_t, ev_c, reduceIte, Nat.reduceEqDiff, List.map_cons, List.map_nil]
  refine put2_stCx (us := [.int .i64 a_0.Epoch]) rfl (cs' := [.int .i64 a_0.Epoch, .int .i64 0, .nil]) hS13 hW rfl rfl (Nat.le_of_ble_eq_true rfl) rfl (fun h15 hS16 => ?_)
  simp only [put_no, run_ops_nil, x56_2, run_seq, run_reg, run_fa, put1_some, Nat.reduceAdd, Nat.zero_add, Nat.add_zero, xfa_ref, run_ld, put_at, ev_t, ev_c, reduceIte,
      Nat.reduceEqDiff, List.map_cons, List.map_nil]
  refine put1_eq (v := .int .i64 a_0.Leader) rfl ?_
  simp only [run_fa, put1_some, Nat.reduceAdd, Nat.zero_add, Nat.add_zero, xfa_ptr, run_st, put_at, put_no, ev_t, ev_c, reduceIte, Nat.reduceEqDiff, List.map_cons, List.map_nil]
  refine put2_stCx (us := [.int .i64 a_0.Leader]) rfl (cs' := [.int .i64 a_0.Epoch, .int .i64 a_0.Leader,
      .nil]) hS16 hW rfl rfl (Nat.le_of_ble_eq_true rfl) rfl (fun h17 hS18 => ?_)
  simp only [put_no, run_ops_nil, x56_1, run_seq, run_reg, run_fa, put1_some, Nat.reduceAdd, Nat.zero_add, Nat.add_zero, xfa_ref, run_ld, put_at, ev_t, ev_c, reduceIte,
      Nat.reduceEqDiff, List.map_cons, List.map_nil]
  refine put1_eq (v := lst cI a_0.InStep) rfl ?_
  obtain ⟨v19, hx20, hF21⟩ := bind_some' hF
  simp only [run_call, put_at, put_no, ev_t, ev_c, reduceIte, Nat.reduceEqDiff, List.map_cons, List.map_nil]
  refine call2 rfl hS18 (mapM1 snap_lst mapM0) (laws_toIntS_x (fun b hb => decide_eq_true hb) k a_0.InStep v19 hx20) ?_
  rintro v22 h26 ⟨_, c23, rfl, hv24, hS27⟩
  refine ⟨_, free_1 (SlF.free1 hv24), hS27, (pf_app (SlF.pf hv24 (fun _ => rfl)) pf_nil), fun h28 hS29 => ?_⟩
  have hS30 : Sep h28 h.length (c23 ++ ([Blk1 b11 [.int .i64 a_0.Epoch, .int .i64 a_0.Leader, .nil] 24] ++ ([Blk1 b5 [.int .i64 0, .int .i64 0,
      .nil] 24] ++ ([])))) := by simpa only [List.append_assoc, List.nil_append] using hS29
  simp only [run_fa, put1_some, Nat.reduceAdd, Nat.zero_add, Nat.add_zero, xfa_ptr, run_st, put_at, put_no, ev_t, ev_c, reduceIte, Nat.reduceEqDiff, List.map_cons, List.map_nil]
  refine put2_stCx (us := [v22]) (cells_one (SlF.one hv24)) (cs' := [.int .i64 a_0.Epoch, .int .i64 a_0.Leader,
      v22]) (Sep.m1 hS30) hW rfl (all_c (SlF.one hv24) all_n) (Nat.le_of_ble_eq_true rfl) rfl (fun h31 hS32 => ?_)
  simp only [put_no, run_ops_nil, run_seq, run_reg, run_ld, put_at, ev_t, ev_c, reduceIte, Nat.reduceEqDiff, List.map_cons, List.map_nil]
  refine put1_eq (v := .agg [.int .i64 a_0.Epoch, .int .i64 a_0.Leader, v22]) ((xld_bs (Sep.bk _ _ _ hS32)).trans rfl) ?_
  simp only [run_st, put_at, put_no, ev_t, ev_c, reduceIte, Nat.reduceEqDiff, List.map_cons, List.map_nil]
  refine put2_stCx (us := [.int .i64 a_0.Epoch, .int .i64 a_0.Leader, v22]) rfl (cs' := [.int .i64 a_0.Epoch, .int .i64 a_0.Leader,
      v22]) (Sep.m2 hS32) hW rfl (all_c rfl (all_c rfl (all_c (SlF.one hv24) all_n))) (Nat.le_of_ble_eq_true rfl) rfl (fun h33 hS34 => ?_)
  simp only [put_no, run_ops_nil, run_ret, put_at, ev_t, ev_c, reduceIte, Nat.reduceEqDiff, List.map_cons, List.map_nil]
  have he := some_inj hF21
  subst he
  refine end_ret_cell (bb := b5) (oo := 0) (v := .agg [.int .i64 a_0.Epoch, .int .i64 a_0.Leader, v22]) (by simp only [put_at, put_no, ev_t, ev_c, reduceIte, Nat.reduceEqDiff,
      List.map_cons, List.map_nil]) ((xld_bs (Sep.bk _ _ _ hS34)).trans rfl) ?_
  exact ⟨v22, c23, by first | trivial | rfl, hv24, (Sep.dc ((Sep.dc (hS34))))⟩
theorem laws_toRow_x {W : Nat → Bool} {h : Heap} (hW : ∀ b,
    h.length ≤ b → W b = true) (a_0 : Row) (r : Row) (hF : some (laws_toRow a_0) = some r) : Ret E W 77 [.agg [.int .i64 a_0.Epoch,
    .int .i64 a_0.Value]] h (fun v h' => cut h.length h' E.sz false 9 v = some (.agg [.int .i64 r.Epoch, .int .i64 r.Value])) := by
  refine Ret.of (fn := x77) rfl (Run.of ?_)
  unfold laws_toRow at hF
  have zf0 : argFr [.agg [.int .i64 a_0.Epoch, .int .i64 a_0.Value]] 0 = .agg [.int .i64 a_0.Epoch, .int .i64 a_0.Value] := rfl
  generalize argFr [.agg [.int .i64 a_0.Epoch, .int .i64 a_0.Value]] = fr0 at zf0 ⊢
  have hS : Sep h h.length [] := Sep.nil h
  simp only [x77, run_seq, run_reg, run_box, zf0, put_at, put_no, ev_t, ev_c, reduceIte, Nat.reduceEqDiff, List.map_cons, List.map_nil]
  refine put2_boxC (cs := [.int .i64 a_0.Epoch, .int .i64 a_0.Value]) hS rfl rfl rfl (fun b1 h2 hS3 => ?_)
  simp only [run_new, put_at, put_no, ev_t, ev_c, reduceIte, Nat.reduceEqDiff, List.map_cons, List.map_nil]
  refine put2_newC hS3 (fun b5 h6 hS7 => ?_)
  simp only [run_ops_nil, put_at, put_no, ev_t, ev_c, reduceIte, Nat.reduceEqDiff, List.map_cons, List.map_nil]
  refine frz_stepC (Sep.m1 hS7) hW (by simp only [put_at, put_no, ev_t, ev_c, reduceIte, Nat.reduceEqDiff, List.map_cons, List.map_nil]) (fun h9 hS10 => ?_)
  simp only [run_frz_nil, x77_3, run_seq, run_reg, run_new, put_at, put_no, ev_t, ev_c, reduceIte, Nat.reduceEqDiff, List.map_cons, List.map_nil]
  refine put2_newC hS10 (fun b11 h12 hS13 => ?_)
  simp only [run_ops_nil, x77_2, run_seq, run_reg, run_fa, put1_some, Nat.reduceAdd, Nat.zero_add, Nat.add_zero, xfa_ref, run_ld, put_at, put_no, ev_t, ev_c, reduceIte,
      Nat.reduceEqDiff, List.map_cons, List.map_nil]
  refine put1_eq (v := .int .i64 a_0.Epoch) rfl ?_
  simp only [run_fa, put1_some, Nat.reduceAdd, Nat.zero_add, Nat.add_zero, xfa_ptr, run_st, put_at, put_no, ev_t, ev_c, reduceIte, Nat.reduceEqDiff, List.map_cons, List.map_nil]
  refine put2_stCx (us := [.int .i64 a_0.Epoch]) rfl (cs' := [.int .i64 a_0.Epoch, .int .i64 0]) hS13 hW rfl rfl (Nat.le_of_ble_eq_true rfl) rfl (fun h15 hS16 => ?_)
  simp only [put_no, run_ops_nil, x77_1, run_seq, run_reg, run_fa, put1_some, Nat.reduceAdd, Nat.zero_add, Nat.add_zero, xfa_ref, run_ld, put_at, ev_t, ev_c, reduceIte,
      Nat.reduceEqDiff, List.map_cons, List.map_nil]
  refine put1_eq (v := .int .i64 a_0.Value) rfl ?_
  simp only [run_fa, put1_some, Nat.reduceAdd, Nat.zero_add, Nat.add_zero, xfa_ptr, run_st, put_at, put_no, ev_t, ev_c, reduceIte, Nat.reduceEqDiff, List.map_cons, List.map_nil]
  refine put2_stCx (us := [.int .i64 a_0.Value]) rfl (cs' := [.int .i64 a_0.Epoch, .int .i64 a_0.Value]) hS16 hW rfl rfl (Nat.le_of_ble_eq_true rfl) rfl (fun h17 hS18 => ?_)
  simp only [put_no, run_ops_nil, run_seq, run_reg, run_ld, put_at, ev_t, ev_c, reduceIte, Nat.reduceEqDiff, List.map_cons, List.map_nil]
  refine put1_eq (v := .agg [.int .i64 a_0.Epoch, .int .i64 a_0.Value]) ((xld_bs (Sep.bk _ _ _ hS18)).trans rfl) ?_
  simp only [run_st, put_at, put_no, ev_t, ev_c, reduceIte, Nat.reduceEqDiff, List.map_cons, List.map_nil]
  refine put2_stCx (us := [.int .i64 a_0.Epoch, .int .i64 a_0.Value]) rfl (cs' := [.int .i64 a_0.Epoch,
      .int .i64 a_0.Value]) (Sep.m1 hS18) hW rfl rfl (Nat.le_of_ble_eq_true rfl) rfl (fun h19 hS20 => ?_)
  simp only [put_no, run_ops_nil, run_ret, put_at, ev_t, ev_c, reduceIte, Nat.reduceEqDiff, List.map_cons, List.map_nil]
  have he := some_inj hF
  subst he
  refine end_ret_cell (bb := b5) (oo := 0) (v := .agg [.int .i64 a_0.Epoch, .int .i64 a_0.Value]) (by simp only [put_at, put_no, ev_t, ev_c, reduceIte, Nat.reduceEqDiff,
      List.map_cons, List.map_nil]) ((xld_bs (Sep.bk _ _ _ hS20)).trans rfl) ?_
  exact (cut_agg (mapM1 rfl (mapM1 rfl mapM0)))
end Go.Proofs.Ytohofoampalhoaa.X
