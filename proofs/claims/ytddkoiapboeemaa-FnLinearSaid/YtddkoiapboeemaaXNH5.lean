/- The functions' code comes to what the plain functions say (5). -/
import Derived.Test.YtddkoiapboeemaaXNH4
set_option linter.unusedVariables false
set_option linter.unusedSimpArgs false
set_option maxRecDepth 100000
namespace Go.Proofs.Ytddkoiapboeemaa.X
open Go
theorem laws_FnLinear_x {W : Nat → Bool} {h : Heap} (hW : ∀ b,
    h.length ≤ b → W b = true) (k : Nat) (v_0 : List Int) (r : Bool) (hF : laws_FnLinear k v_0 = some r) : Ret E W 9 [lst cU8 v_0] h
    (fun v h' => cut h.length h' E.sz false 9 v = some (.bool r)) := by
  refine Ret.of (fn := x9) rfl (Run.of ?_)
  unfold laws_FnLinear at hF
  have zf0 : argFr [lst cU8 v_0] 0 = lst cU8 v_0 := rfl
  generalize argFr [lst cU8 v_0] = fr0 at zf0 ⊢
  have hS : Sep h h.length [] := Sep.nil h
  simp only [x9, run_seq, run_reg, run_mv, run_ops_nil, x9_31, zf0, run_len, put1_some, xlen_lst, run_bin, xgtr, run_cond, put_at, put_no, ev_t, ev_c, reduceIte, Nat.reduceEqDiff,
      List.map_cons, List.map_nil]
  refine cond_split (t := (decide ((1048576 : Int) < (List.length v_0 : Int)))) (fun hc1 => ?_) (fun hc1 => ?_)
  · rw [iteT hc1] at hF
    simp only [run_seq, run_reg, run_mv, run_ops_nil, run_ret, put_at, put_no, ev_t, ev_c, reduceIte, Nat.reduceEqDiff, List.map_cons, List.map_nil]
    have he := some_inj hF
    subst he
    simp only [end_ret1, put_at, put_no, ev_t, ev_c, reduceIte, Nat.reduceEqDiff, List.map_cons, List.map_nil]
    exact rfl
  · rw [iteF hc1] at hF
    obtain ⟨v2, hx3, hF4⟩ := bind_some' hF
    simp only [run_skip, x9_30, run_seq, run_reg, zf0, run_mv, run_call, put_at, put_no, ev_t, ev_c, reduceIte, Nat.reduceEqDiff, List.map_cons, List.map_nil]
    refine call2 rfl hS (mapM1 snap_lst mapM0) (spec_DrawIsLinear_x (fun b hb => decide_eq_true hb) k v_0 v2 hx3) ?_
    rintro v5 h9 ⟨_, c6, rfl, hv7, hS10⟩
    refine ⟨_, free_1 (SlF.free1 hv7), hS10, (pf_app (SlF.pf hv7 (fun _ => rfl)) pf_nil), fun h11 hS12 => ?_⟩
    have hS13 : Sep h11 h.length (c6 ++ ([])) := by simpa only [List.append_assoc, List.nil_append] using hS12
    obtain ⟨v14, hx15, hF16⟩ := bind_some' hF4
    simp only [run_mv, run_ops_nil, x9_29, run_seq, run_reg, run_call, put_at, put_no, ev_t, ev_c, reduceIte, Nat.reduceEqDiff, List.map_cons, List.map_nil]
    refine call1 rfl (mapM1 (SlF.snap hv7 hS13 rfl (fun _ => rfl) (fun _ => rfl)) mapM0) (impl_IsLinear_x (fun b hb => decide_eq_true hb) k v2 v14 hx15) ?_
    obtain ⟨v17, hx18, hF19⟩ := bind_some' hF16
    simp only [run_mv, run_ext, put1_some, xext_0, xext_1, run_ops_nil, x9_28, run_seq, run_reg, run_call, put_at, put_no, ev_t, ev_c, reduceIte, Nat.reduceEqDiff, List.map_cons,
        List.map_nil]
    refine call1 rfl (mapM1 (SlF.snap hv7 hS13 rfl (fun _ => rfl) (fun _ => rfl)) mapM0) (spec_IsLinear_x (fun b hb => decide_eq_true hb) k v2 v17 hx18) ?_
    obtain ⟨v20, hx21, hF22⟩ := bind_some' hF19
    simp only [run_mv, run_ext, put1_some, xext_0, xext_1, run_ops_nil, x9_27, run_seq, run_reg, run_call, put_at, put_no, ev_t, ev_c, reduceIte, Nat.reduceEqDiff, List.map_cons,
        List.map_nil]
    refine call1 rfl (mapM1 (SlF.snap hv7 hS13 rfl (fun _ => rfl) (fun _ => rfl)) mapM0) (impl_IsSequential_x (fun b hb => decide_eq_true hb) k v2 v20 hx21) ?_
    obtain ⟨v23, hx24, hF25⟩ := bind_some' hF22
    simp only [run_mv, run_ext, put1_some, xext_0, xext_1, run_ops_nil, x9_26, run_seq, run_reg, run_call, put_at, put_no, ev_t, ev_c, reduceIte, Nat.reduceEqDiff, List.map_cons,
        List.map_nil]
    refine call1 rfl (mapM1 (SlF.snap hv7 hS13 rfl (fun _ => rfl) (fun _ => rfl)) mapM0) (spec_IsSequential_x (fun b hb => decide_eq_true hb) k v2 v23 hx24) ?_
    obtain ⟨v26, hx27, hF28⟩ := bind_some' hF25
    simp only [run_mv, run_ext, put1_some, xext_0, xext_1, run_ops_nil, x9_25, run_seq, run_reg, run_call, put_at, put_no, ev_t, ev_c, reduceIte, Nat.reduceEqDiff, List.map_cons,
        List.map_nil]
    refine call2 rfl hS13 (mapM1 (SlF.snap hv7 hS13 rfl (fun _ => rfl) (fun _ => rfl)) mapM0) (impl_OrderFor_x (fun b hb => decide_eq_true hb) k v2 v26 hx27) ?_
    rintro _ h33 ⟨v29, c30, rfl, hv31, hS34⟩
    refine ⟨_, free_t (all_c (free2_1 (SlF.free1 hv31)) (all_c rfl all_n)), hS34, (pf_app (SlF.pf hv31 (fun _ => rfl)) pf_nil), fun h35 hS36 => ?_⟩
    have hS37 : Sep h35 h.length (c30 ++ (c6 ++ ([]))) := by simpa only [List.append_assoc, List.nil_append] using hS36
    obtain ⟨v38, hx39, hF40⟩ := bind_some' hF28
    simp only [run_mv, run_ext, put1_some, xext_0, xext_1, run_ops_nil, x9_24, run_seq, run_reg, run_call, put_at, put_no, ev_t, ev_c, reduceIte, Nat.reduceEqDiff, List.map_cons,
        List.map_nil]
    refine call2 rfl hS37 (mapM1 (SlF.snap hv7 (Sep.m1 hS37) rfl (fun _ => rfl) (fun _ => rfl)) mapM0) (spec_OrderFor_x (fun b hb => decide_eq_true hb) k v2 v38 hx39) ?_
    rintro _ h45 ⟨v41, c42, rfl, hv43, hS46⟩
    refine ⟨_, free_t (all_c (free2_1 (SlF.free1 hv43)) (all_c rfl all_n)), hS46, (pf_app (SlF.pf hv43 (fun _ => rfl)) pf_nil), fun h47 hS48 => ?_⟩
    have hS49 : Sep h47 h.length (c42 ++ (c30 ++ (c6 ++ ([])))) := by simpa only [List.append_assoc, List.nil_append] using hS48
    obtain ⟨v50, hx51, hF52⟩ := bind_some' hF40
    simp only [run_mv, run_ext, put1_some, xext_0, xext_1, run_ops_nil, x9_23, run_seq, run_reg, run_call, put_at, put_no, ev_t, ev_c, reduceIte, Nat.reduceEqDiff, List.map_cons,
        List.map_nil]
    refine call1 rfl (mapM1 (SlF.snap hv7 (Sep.m2 hS49) rfl (fun _ => rfl) (fun _ => rfl)) mapM0) (impl_OverlapsIn_x (fun b hb => decide_eq_true hb) v2 v50 hx51) ?_
    obtain ⟨v53, hx54, hF55⟩ := bind_some' hF52
    simp only [run_mv, run_ext, put1_some, xext_0, xext_1, run_ops_nil, x9_22, run_seq, run_reg, run_call, put_at, put_no, ev_t, ev_c, reduceIte, Nat.reduceEqDiff, List.map_cons,
        List.map_nil]
    refine call1 rfl (mapM1 (SlF.snap hv7 (Sep.m2 hS49) rfl (fun _ => rfl) (fun _ => rfl)) mapM0) (spec_OverlapsIn_x (fun b hb => decide_eq_true hb) v2 v53 hx54) ?_
    simp only [run_mv, run_ext, put1_some, xext_0, xext_1, run_ops_nil, x9_21, run_seq, run_reg, run_eqb, xeqb_t, put_at, put_no, ev_t, ev_c, reduceIte, Nat.reduceEqDiff,
        List.map_cons, List.map_nil]
    refine ops_j 4 (fun fr' h' => Sep h' h.length (c6 ++ (c30 ++ (c42 ++ ([])))) ∧ fr' 82 = .bool ((!(v14.2 == v17.2)) ||
        (!(v14.1 == v17.1))) ∧ fr' 3 = v5 ∧ fr' 4 = .bool v14.1 ∧ fr' 5 = .bool v14.2 ∧ fr' 7 = .bool v17.2 ∧ fr' 8 = .bool v20.1 ∧ fr' 9 = .bool v20.2 ∧ fr' 10 = .bool v23.1 ∧ fr' 11 = .bool v23.2 ∧ fr' 12 = v29 ∧ fr' 13 = .bool v26.2 ∧ fr' 14 = v41 ∧ fr' 15 = .bool v38.2 ∧ fr' 16 = .int .i64 v50.1 ∧ fr' 17 = .bool v50.2 ∧ fr' 18 = .int .i64 v53.1 ∧ fr' 19 = .bool v53.2)
        (fun Q56 hN57 => ?_) ?_
    · simp only [List.take_succ_cons, List.take_zero]
      simp only [run_guard (g := 78), put_at, put_no, ev_t, ev_c, reduceIte, Nat.reduceEqDiff, List.map_cons, List.map_nil]
      refine guard_split (t := (!(v14.2 == v17.2))) (fun hg58 => ?_) (fun hg58 => ?_)
      · simp only [hg58, run_guard (g := 78), guard_off', run_pick, put1_some, xpick_t, run_ops_nil, run_nil, put_at, put_no, ev_t, ev_c, reduceIte, Nat.reduceEqDiff,
          List.map_cons, List.map_nil]
        exact hN57 _ _ ⟨(Sep.m2 (Sep.m1 hS49)), by rw [orT hg58]; simp only [put_at, put_no, ev_t, ev_c, reduceIte, Nat.reduceEqDiff, List.map_cons, List.map_nil],
            by simp only [put_at, put_no, ev_t, ev_c, reduceIte, Nat.reduceEqDiff, List.map_cons, List.map_nil], by simp only [put_at, put_no, ev_t, ev_c, reduceIte,
            Nat.reduceEqDiff, List.map_cons, List.map_nil], by simp only [put_at, put_no, ev_t, ev_c, reduceIte, Nat.reduceEqDiff, List.map_cons, List.map_nil],
            by simp only [put_at, put_no, ev_t, ev_c, reduceIte, Nat.reduceEqDiff, List.map_cons, List.map_nil], by simp only [put_at, put_no, ev_t, ev_c, reduceIte,
            Nat.reduceEqDiff, List.map_cons, List.map_nil], by simp only [put_at, put_no, ev_t, ev_c, reduceIte, Nat.reduceEqDiff, List.map_cons, List.map_nil],
            by simp only [put_at, put_no, ev_t, ev_c, reduceIte, Nat.reduceEqDiff, List.map_cons, List.map_nil], by simp only [put_at, put_no, ev_t, ev_c, reduceIte,
            Nat.reduceEqDiff, List.map_cons, List.map_nil], by simp only [put_at, put_no, ev_t, ev_c, reduceIte, Nat.reduceEqDiff, List.map_cons, List.map_nil],
            by simp only [put_at, put_no, ev_t, ev_c, reduceIte, Nat.reduceEqDiff, List.map_cons, List.map_nil], by simp only [put_at, put_no, ev_t, ev_c, reduceIte,
            Nat.reduceEqDiff, List.map_cons, List.map_nil], by simp only [put_at, put_no, ev_t, ev_c, reduceIte, Nat.reduceEqDiff, List.map_cons, List.map_nil],
            by simp only [put_at, put_no, ev_t, ev_c, reduceIte, Nat.reduceEqDiff, List.map_cons, List.map_nil], by simp only [put_at, put_no, ev_t, ev_c, reduceIte,
            Nat.reduceEqDiff, List.map_cons, List.map_nil], by simp only [put_at, put_no, ev_t, ev_c, reduceIte, Nat.reduceEqDiff, List.map_cons, List.map_nil],
            by simp only [put_at, put_no, ev_t, ev_c, reduceIte, Nat.reduceEqDiff, List.map_cons, List.map_nil]⟩
      · simp only [hg58, run_guard (g := 78), guard_false, run_mv, run_eqb, put1_some, xeqb_t, run_pick, xpick_f, run_ops_nil, run_nil, put_at, put_no, ev_t, ev_c, reduceIte,
          Nat.reduceEqDiff, List.map_cons, List.map_nil]
        exact hN57 _ _ ⟨(Sep.m2 (Sep.m1 hS49)), by rw [orF hg58]; simp only [put_at, put_no, ev_t, ev_c, reduceIte, Nat.reduceEqDiff, List.map_cons, List.map_nil],
            by simp only [put_at, put_no, ev_t, ev_c, reduceIte, Nat.reduceEqDiff, List.map_cons, List.map_nil], by simp only [put_at, put_no, ev_t, ev_c, reduceIte,
            Nat.reduceEqDiff, List.map_cons, List.map_nil], by simp only [put_at, put_no, ev_t, ev_c, reduceIte, Nat.reduceEqDiff, List.map_cons, List.map_nil],
            by simp only [put_at, put_no, ev_t, ev_c, reduceIte, Nat.reduceEqDiff, List.map_cons, List.map_nil], by simp only [put_at, put_no, ev_t, ev_c, reduceIte,
            Nat.reduceEqDiff, List.map_cons, List.map_nil], by simp only [put_at, put_no, ev_t, ev_c, reduceIte, Nat.reduceEqDiff, List.map_cons, List.map_nil],
            by simp only [put_at, put_no, ev_t, ev_c, reduceIte, Nat.reduceEqDiff, List.map_cons, List.map_nil], by simp only [put_at, put_no, ev_t, ev_c, reduceIte,
            Nat.reduceEqDiff, List.map_cons, List.map_nil], by simp only [put_at, put_no, ev_t, ev_c, reduceIte, Nat.reduceEqDiff, List.map_cons, List.map_nil],
            by simp only [put_at, put_no, ev_t, ev_c, reduceIte, Nat.reduceEqDiff, List.map_cons, List.map_nil], by simp only [put_at, put_no, ev_t, ev_c, reduceIte,
            Nat.reduceEqDiff, List.map_cons, List.map_nil], by simp only [put_at, put_no, ev_t, ev_c, reduceIte, Nat.reduceEqDiff, List.map_cons, List.map_nil],
            by simp only [put_at, put_no, ev_t, ev_c, reduceIte, Nat.reduceEqDiff, List.map_cons, List.map_nil], by simp only [put_at, put_no, ev_t, ev_c, reduceIte,
            Nat.reduceEqDiff, List.map_cons, List.map_nil], by simp only [put_at, put_no, ev_t, ev_c, reduceIte, Nat.reduceEqDiff, List.map_cons, List.map_nil],
            by simp only [put_at, put_no, ev_t, ev_c, reduceIte, Nat.reduceEqDiff, List.map_cons, List.map_nil]⟩
    · rintro fr59 h77 ⟨hS78, f60, f61, f62, f63, f64, f65, f66, f67, f68, f69, f70, f71, f72, f73, f74, f75, f76⟩
      simp only [List.drop_succ_cons, List.drop_zero]
      simp only [f60, run_mv, put_at, put_no, ev_t, ev_c, reduceIte, Nat.reduceEqDiff, List.map_cons, List.map_nil]
      refine ops_j 4 (fun fr' h' => Sep h' h.length (c6 ++ (c30 ++ (c42 ++ ([])))) ∧ fr' 87 = .bool (((!(v14.2 == v17.2)) || (!(v14.1 == v17.1))) ||
          (!(v20.2 == v23.2))) ∧ fr' 3 = v5 ∧ fr' 4 = .bool v14.1 ∧ fr' 5 = .bool v14.2 ∧ fr' 7 = .bool v17.2 ∧ fr' 8 = .bool v20.1 ∧ fr' 10 = .bool v23.1 ∧ fr' 12 = v29 ∧ fr' 13 = .bool v26.2 ∧ fr' 14 = v41 ∧ fr' 15 = .bool v38.2 ∧ fr' 16 = .int .i64 v50.1 ∧ fr' 17 = .bool v50.2 ∧ fr' 18 = .int .i64 v53.1 ∧ fr' 19 = .bool v53.2)
          (fun Q79 hN80 => ?_) ?_
      · simp only [List.take_succ_cons, List.take_zero]
        simp only [run_guard (g := 83), put_at, put_no, ev_t, ev_c, reduceIte, Nat.reduceEqDiff, List.map_cons, List.map_nil]
        refine guard_split (t := ((!(v14.2 == v17.2)) || (!(v14.1 == v17.1)))) (fun hg81 => ?_) (fun hg81 => ?_)
        · simp only [hg81, run_guard (g := 83), guard_off', run_pick, put1_some, xpick_t, run_ops_nil, run_nil, put_at, put_no, ev_t, ev_c, reduceIte, Nat.reduceEqDiff,
            List.map_cons, List.map_nil]
          exact hN80 _ _ ⟨(Sep.m2 (Sep.m2 (Sep.m2 hS78))), by rw [orT hg81]; simp only [put_at, put_no, ev_t, ev_c, reduceIte, Nat.reduceEqDiff, List.map_cons, List.map_nil],
              by simp only [f61, put_at, put_no, ev_t, ev_c, reduceIte, Nat.reduceEqDiff, List.map_cons, List.map_nil], by simp only [f62, put_at, put_no, ev_t, ev_c, reduceIte,
              Nat.reduceEqDiff, List.map_cons, List.map_nil], by simp only [f63, put_at, put_no, ev_t, ev_c, reduceIte, Nat.reduceEqDiff, List.map_cons, List.map_nil],
              by simp only [f64, put_at, put_no, ev_t, ev_c, reduceIte, Nat.reduceEqDiff, List.map_cons, List.map_nil], by simp only [f65, put_at, put_no, ev_t, ev_c, reduceIte,
              Nat.reduceEqDiff, List.map_cons, List.map_nil], by simp only [f67, put_at, put_no, ev_t, ev_c, reduceIte, Nat.reduceEqDiff, List.map_cons, List.map_nil],
              by simp only [f69, put_at, put_no, ev_t, ev_c, reduceIte, Nat.reduceEqDiff, List.map_cons, List.map_nil], by simp only [f70, put_at, put_no, ev_t, ev_c, reduceIte,
              Nat.reduceEqDiff, List.map_cons, List.map_nil], by simp only [f71, put_at, put_no, ev_t, ev_c, reduceIte, Nat.reduceEqDiff, List.map_cons, List.map_nil],
              by simp only [f72, put_at, put_no, ev_t, ev_c, reduceIte, Nat.reduceEqDiff, List.map_cons, List.map_nil], by simp only [f73, put_at, put_no, ev_t, ev_c, reduceIte,
              Nat.reduceEqDiff, List.map_cons, List.map_nil], by simp only [f74, put_at, put_no, ev_t, ev_c, reduceIte, Nat.reduceEqDiff, List.map_cons, List.map_nil],
              by simp only [f75, put_at, put_no, ev_t, ev_c, reduceIte, Nat.reduceEqDiff, List.map_cons, List.map_nil], by simp only [f76, put_at, put_no, ev_t, ev_c, reduceIte,
              Nat.reduceEqDiff, List.map_cons, List.map_nil]⟩
        · simp only [hg81, run_guard (g := 83), guard_false, f66, run_mv, f68, run_eqb, put1_some, xeqb_t, run_pick, xpick_f, run_ops_nil, run_nil, put_at, put_no, ev_t, ev_c,
            reduceIte, Nat.reduceEqDiff, List.map_cons, List.map_nil]
          exact hN80 _ _ ⟨(Sep.m2 (Sep.m2 (Sep.m2 hS78))), by rw [orF hg81]; simp only [put_at, put_no, ev_t, ev_c, reduceIte, Nat.reduceEqDiff, List.map_cons, List.map_nil],
              by simp only [f61, put_at, put_no, ev_t, ev_c, reduceIte, Nat.reduceEqDiff, List.map_cons, List.map_nil], by simp only [f62, put_at, put_no, ev_t, ev_c, reduceIte,
              Nat.reduceEqDiff, List.map_cons, List.map_nil], by simp only [f63, put_at, put_no, ev_t, ev_c, reduceIte, Nat.reduceEqDiff, List.map_cons, List.map_nil],
              by simp only [f64, put_at, put_no, ev_t, ev_c, reduceIte, Nat.reduceEqDiff, List.map_cons, List.map_nil], by simp only [f65, put_at, put_no, ev_t, ev_c, reduceIte,
              Nat.reduceEqDiff, List.map_cons, List.map_nil], by simp only [f67, put_at, put_no, ev_t, ev_c, reduceIte, Nat.reduceEqDiff, List.map_cons, List.map_nil],
              by simp only [f69, put_at, put_no, ev_t, ev_c, reduceIte, Nat.reduceEqDiff, List.map_cons, List.map_nil], by simp only [f70, put_at, put_no, ev_t, ev_c, reduceIte,
              Nat.reduceEqDiff, List.map_cons, List.map_nil], by simp only [f71, put_at, put_no, ev_t, ev_c, reduceIte, Nat.reduceEqDiff, List.map_cons, List.map_nil],
              by simp only [f72, put_at, put_no, ev_t, ev_c, reduceIte, Nat.reduceEqDiff, List.map_cons, List.map_nil], by simp only [f73, put_at, put_no, ev_t, ev_c, reduceIte,
              Nat.reduceEqDiff, List.map_cons, List.map_nil], by simp only [f74, put_at, put_no, ev_t, ev_c, reduceIte, Nat.reduceEqDiff, List.map_cons, List.map_nil],
              by simp only [f75, put_at, put_no, ev_t, ev_c, reduceIte, Nat.reduceEqDiff, List.map_cons, List.map_nil], by simp only [f76, put_at, put_no, ev_t, ev_c, reduceIte,
              Nat.reduceEqDiff, List.map_cons, List.map_nil]⟩
      · rintro fr82 h98 ⟨hS99, f83, f84, f85, f86, f87, f88, f89, f90, f91, f92, f93, f94, f95, f96, f97⟩
        simp only [List.drop_succ_cons, List.drop_zero]
        simp only [f83, run_mv, put_at, put_no, ev_t, ev_c, reduceIte, Nat.reduceEqDiff, List.map_cons, List.map_nil]
        refine ops_j 4 (fun fr' h' => Sep h' h.length (c6 ++ (c30 ++ (c42 ++ ([])))) ∧ fr' 92 = .bool ((((!(v14.2 == v17.2)) || (!(v14.1 == v17.1))) || (!(v20.2 == v23.2))) ||
            (!(v20.1 == v23.1))) ∧ fr' 3 = v5 ∧ fr' 4 = .bool v14.1 ∧ fr' 5 = .bool v14.2 ∧ fr' 7 = .bool v17.2 ∧ fr' 8 = .bool v20.1 ∧ fr' 12 = v29 ∧ fr' 13 = .bool v26.2 ∧ fr' 14 = v41 ∧ fr' 15 = .bool v38.2 ∧ fr' 16 = .int .i64 v50.1 ∧ fr' 17 = .bool v50.2 ∧ fr' 18 = .int .i64 v53.1 ∧ fr' 19 = .bool v53.2)
            (fun Q100 hN101 => ?_) ?_
        · simp only [List.take_succ_cons, List.take_zero]
          simp only [run_guard (g := 88), put_at, put_no, ev_t, ev_c, reduceIte, Nat.reduceEqDiff, List.map_cons, List.map_nil]
          refine guard_split (t := (((!(v14.2 == v17.2)) || (!(v14.1 == v17.1))) || (!(v20.2 == v23.2)))) (fun hg102 => ?_) (fun hg102 => ?_)
          · simp only [hg102, run_guard (g := 88), guard_off', run_pick, put1_some, xpick_t, run_ops_nil, run_nil, put_at, put_no, ev_t, ev_c, reduceIte, Nat.reduceEqDiff,
              List.map_cons, List.map_nil]
            exact hN101 _ _ ⟨(Sep.m2 (Sep.m2 (Sep.m2 hS99))), by rw [orT hg102]; simp only [put_at, put_no, ev_t, ev_c, reduceIte, Nat.reduceEqDiff, List.map_cons, List.map_nil],
                by simp only [f84, put_at, put_no, ev_t, ev_c, reduceIte, Nat.reduceEqDiff, List.map_cons, List.map_nil], by simp only [f85, put_at, put_no, ev_t, ev_c, reduceIte,
                Nat.reduceEqDiff, List.map_cons, List.map_nil], by simp only [f86, put_at, put_no, ev_t, ev_c, reduceIte, Nat.reduceEqDiff, List.map_cons, List.map_nil],
                by simp only [f87, put_at, put_no, ev_t, ev_c, reduceIte, Nat.reduceEqDiff, List.map_cons, List.map_nil], by simp only [f88, put_at, put_no, ev_t, ev_c, reduceIte,
                Nat.reduceEqDiff, List.map_cons, List.map_nil], by simp only [f90, put_at, put_no, ev_t, ev_c, reduceIte, Nat.reduceEqDiff, List.map_cons, List.map_nil],
                by simp only [f91, put_at, put_no, ev_t, ev_c, reduceIte, Nat.reduceEqDiff, List.map_cons, List.map_nil], by simp only [f92, put_at, put_no, ev_t, ev_c, reduceIte,
                Nat.reduceEqDiff, List.map_cons, List.map_nil], by simp only [f93, put_at, put_no, ev_t, ev_c, reduceIte, Nat.reduceEqDiff, List.map_cons, List.map_nil],
                by simp only [f94, put_at, put_no, ev_t, ev_c, reduceIte, Nat.reduceEqDiff, List.map_cons, List.map_nil], by simp only [f95, put_at, put_no, ev_t, ev_c, reduceIte,
                Nat.reduceEqDiff, List.map_cons, List.map_nil], by simp only [f96, put_at, put_no, ev_t, ev_c, reduceIte, Nat.reduceEqDiff, List.map_cons, List.map_nil],
                by simp only [f97, put_at, put_no, ev_t, ev_c, reduceIte, Nat.reduceEqDiff, List.map_cons, List.map_nil]⟩
          · simp only [hg102, run_guard (g := 88), guard_false, f88, run_mv, f89, run_eqb, put1_some, xeqb_t, run_pick, xpick_f, run_ops_nil, run_nil, put_at, put_no, ev_t, ev_c,
              reduceIte, Nat.reduceEqDiff, List.map_cons, List.map_nil]
            exact hN101 _ _ ⟨(Sep.m2 (Sep.m2 (Sep.m2 hS99))), by rw [orF hg102]; simp only [put_at, put_no, ev_t, ev_c, reduceIte, Nat.reduceEqDiff, List.map_cons, List.map_nil],
                by simp only [f84, put_at, put_no, ev_t, ev_c, reduceIte, Nat.reduceEqDiff, List.map_cons, List.map_nil], by simp only [f85, put_at, put_no, ev_t, ev_c, reduceIte,
                Nat.reduceEqDiff, List.map_cons, List.map_nil], by simp only [f86, put_at, put_no, ev_t, ev_c, reduceIte, Nat.reduceEqDiff, List.map_cons, List.map_nil],
                by simp only [f87, put_at, put_no, ev_t, ev_c, reduceIte, Nat.reduceEqDiff, List.map_cons, List.map_nil], by simp only [f88, put_at, put_no, ev_t, ev_c, reduceIte,
                Nat.reduceEqDiff, List.map_cons, List.map_nil], by simp only [f90, put_at, put_no, ev_t, ev_c, reduceIte, Nat.reduceEqDiff, List.map_cons, List.map_nil],
                by simp only [f91, put_at, put_no, ev_t, ev_c, reduceIte, Nat.reduceEqDiff, List.map_cons, List.map_nil], by simp only [f92, put_at, put_no, ev_t, ev_c, reduceIte,
                Nat.reduceEqDiff, List.map_cons, List.map_nil], by simp only [f93, put_at, put_no, ev_t, ev_c, reduceIte, Nat.reduceEqDiff, List.map_cons, List.map_nil],
                by simp only [f94, put_at, put_no, ev_t, ev_c, reduceIte, Nat.reduceEqDiff, List.map_cons, List.map_nil], by simp only [f95, put_at, put_no, ev_t, ev_c, reduceIte,
                Nat.reduceEqDiff, List.map_cons, List.map_nil], by simp only [f96, put_at, put_no, ev_t, ev_c, reduceIte, Nat.reduceEqDiff, List.map_cons, List.map_nil],
                by simp only [f97, put_at, put_no, ev_t, ev_c, reduceIte, Nat.reduceEqDiff, List.map_cons, List.map_nil]⟩
        · rintro fr103 h118 ⟨hS119, f104, f105, f106, f107, f108, f109, f110, f111, f112, f113, f114, f115, f116, f117⟩
          simp only [List.drop_succ_cons, List.drop_zero]
          simp only [f104, run_mv, put_at, put_no, ev_t, ev_c, reduceIte, Nat.reduceEqDiff, List.map_cons, List.map_nil]
          refine ops_j 4 (fun fr' h' => Sep h' h.length (c6 ++ (c30 ++ (c42 ++ ([])))) ∧ fr' 97 = .bool (((((!(v14.2 == v17.2)) || (!(v14.1 == v17.1))) || (!(v20.2 == v23.2))) ||
              (!(v20.1 == v23.1))) || (!(v26.2 == v38.2))) ∧ fr' 3 = v5 ∧ fr' 4 = .bool v14.1 ∧ fr' 5 = .bool v14.2 ∧ fr' 7 = .bool v17.2 ∧ fr' 8 = .bool v20.1 ∧ fr' 12 = v29 ∧ fr' 13 = .bool v26.2 ∧ fr' 14 = v41 ∧ fr' 16 = .int .i64 v50.1 ∧ fr' 17 = .bool v50.2 ∧ fr' 18 = .int .i64 v53.1 ∧ fr' 19 = .bool v53.2)
              (fun Q120 hN121 => ?_) ?_
          · simp only [List.take_succ_cons, List.take_zero]
            simp only [run_guard (g := 93), put_at, put_no, ev_t, ev_c, reduceIte, Nat.reduceEqDiff, List.map_cons, List.map_nil]
            refine guard_split (t := ((((!(v14.2 == v17.2)) || (!(v14.1 == v17.1))) || (!(v20.2 == v23.2))) || (!(v20.1 == v23.1)))) (fun hg122 => ?_) (fun hg122 => ?_)
            · simp only [hg122, run_guard (g := 93), guard_off', run_pick, put1_some, xpick_t, run_ops_nil, run_nil, put_at, put_no, ev_t, ev_c, reduceIte, Nat.reduceEqDiff,
                List.map_cons, List.map_nil]
              exact hN121 _ _ ⟨(Sep.m2 (Sep.m2 (Sep.m2 hS119))), by rw [orT hg122]; simp only [put_at, put_no, ev_t, ev_c, reduceIte, Nat.reduceEqDiff, List.map_cons,
                  List.map_nil], by simp only [f105, put_at, put_no, ev_t, ev_c, reduceIte, Nat.reduceEqDiff, List.map_cons, List.map_nil], by simp only [f106, put_at, put_no,
                  ev_t, ev_c, reduceIte, Nat.reduceEqDiff, List.map_cons, List.map_nil], by simp only [f107, put_at, put_no, ev_t, ev_c, reduceIte, Nat.reduceEqDiff,
                  List.map_cons, List.map_nil], by simp only [f108, put_at, put_no, ev_t, ev_c, reduceIte, Nat.reduceEqDiff, List.map_cons, List.map_nil], by simp only [f109,
                  put_at, put_no, ev_t, ev_c, reduceIte, Nat.reduceEqDiff, List.map_cons, List.map_nil], by simp only [f110, put_at, put_no, ev_t, ev_c, reduceIte,
                  Nat.reduceEqDiff, List.map_cons, List.map_nil], by simp only [f111, put_at, put_no, ev_t, ev_c, reduceIte, Nat.reduceEqDiff, List.map_cons, List.map_nil],
                  by simp only [f112, put_at, put_no, ev_t, ev_c, reduceIte, Nat.reduceEqDiff, List.map_cons, List.map_nil], by simp only [f114, put_at, put_no, ev_t, ev_c,
                  reduceIte, Nat.reduceEqDiff, List.map_cons, List.map_nil], by simp only [f115, put_at, put_no, ev_t, ev_c, reduceIte, Nat.reduceEqDiff, List.map_cons,
                  List.map_nil], by simp only [f116, put_at, put_no, ev_t, ev_c, reduceIte, Nat.reduceEqDiff, List.map_cons, List.map_nil], by simp only [f117, put_at, put_no,
                  ev_t, ev_c, reduceIte, Nat.reduceEqDiff, List.map_cons, List.map_nil]⟩
            · simp only [hg122, run_guard (g := 93), guard_false, f111, run_mv, f113, run_eqb, put1_some, xeqb_t, run_pick, xpick_f, run_ops_nil, run_nil, put_at, put_no, ev_t,
                ev_c, reduceIte, Nat.reduceEqDiff, List.map_cons, List.map_nil]
              exact hN121 _ _ ⟨(Sep.m2 (Sep.m2 (Sep.m2 hS119))), by rw [orF hg122]; simp only [put_at, put_no, ev_t, ev_c, reduceIte, Nat.reduceEqDiff, List.map_cons,
                  List.map_nil], by simp only [f105, put_at, put_no, ev_t, ev_c, reduceIte, Nat.reduceEqDiff, List.map_cons, List.map_nil], by simp only [f106, put_at, put_no,
                  ev_t, ev_c, reduceIte, Nat.reduceEqDiff, List.map_cons, List.map_nil], by simp only [f107, put_at, put_no, ev_t, ev_c, reduceIte, Nat.reduceEqDiff,
                  List.map_cons, List.map_nil], by simp only [f108, put_at, put_no, ev_t, ev_c, reduceIte, Nat.reduceEqDiff, List.map_cons, List.map_nil], by simp only [f109,
                  put_at, put_no, ev_t, ev_c, reduceIte, Nat.reduceEqDiff, List.map_cons, List.map_nil], by simp only [f110, put_at, put_no, ev_t, ev_c, reduceIte,
                  Nat.reduceEqDiff, List.map_cons, List.map_nil], by simp only [f111, put_at, put_no, ev_t, ev_c, reduceIte, Nat.reduceEqDiff, List.map_cons, List.map_nil],
                  by simp only [f112, put_at, put_no, ev_t, ev_c, reduceIte, Nat.reduceEqDiff, List.map_cons, List.map_nil], by simp only [f114, put_at, put_no, ev_t, ev_c,
                  reduceIte, Nat.reduceEqDiff, List.map_cons, List.map_nil], by simp only [f115, put_at, put_no, ev_t, ev_c, reduceIte, Nat.reduceEqDiff, List.map_cons,
                  List.map_nil], by simp only [f116, put_at, put_no, ev_t, ev_c, reduceIte, Nat.reduceEqDiff, List.map_cons, List.map_nil], by simp only [f117, put_at, put_no,
                  ev_t, ev_c, reduceIte, Nat.reduceEqDiff, List.map_cons, List.map_nil]⟩
          · rintro fr123 h137 ⟨hS138, f124, f125, f126, f127, f128, f129, f130, f131, f132, f133, f134, f135, f136⟩
            simp only [List.drop_succ_cons, List.drop_zero]
            simp only [f124, run_mv, put_at, put_no, ev_t, ev_c, reduceIte, Nat.reduceEqDiff, List.map_cons, List.map_nil]
            obtain ⟨v142, hx143, hF144⟩ := bind_some' hF55
            refine ops_j 5 (fun fr' h' => Sep h' h.length (c6 ++ (c30 ++
                ([]))) ∧ fr' 103 = .bool v142 ∧ fr' 3 = v5 ∧ fr' 4 = .bool v14.1 ∧ fr' 5 = .bool v14.2 ∧ fr' 7 = .bool v17.2 ∧ fr' 8 = .bool v20.1 ∧ fr' 12 = v29 ∧ fr' 13 = .bool v26.2 ∧ fr' 16 = .int .i64 v50.1 ∧ fr' 17 = .bool v50.2 ∧ fr' 18 = .int .i64 v53.1 ∧ fr' 19 = .bool v53.2)
                (fun Q139 hN140 => ?_) ?_
            · simp only [List.take_succ_cons, List.take_zero]
              simp only [run_guard (g := 98), put_at, put_no, ev_t, ev_c, reduceIte, Nat.reduceEqDiff, List.map_cons, List.map_nil]
              refine guard_split (t := (((((!(v14.2 == v17.2)) || (!(v14.1 == v17.1))) || (!(v20.2 == v23.2))) || (!(v20.1 == v23.1))) || (!(v26.2 == v38.2)))) (fun hg141 => ?_)
                  (fun hg141 => ?_)
              · rw [iteT hg141] at hx143
                simp only [hg141, run_guard (g := 98), guard_off', run_pick, put1_some, xpick_t, run_ops_nil, run_nil, put_at, put_no, ev_t, ev_c, reduceIte, Nat.reduceEqDiff,
                    List.map_cons, List.map_nil]
                have e145 := some_inj hx143
                exact hN140 _ _ ⟨(Sep.m1 (Sep.m1 (Sep.dc (Sep.m2 hS138)))), by rw [← e145]; simp only [put_at, put_no, ev_t, ev_c, reduceIte, Nat.reduceEqDiff, List.map_cons,
                    List.map_nil], by simp only [f125, put_at, put_no, ev_t, ev_c, reduceIte, Nat.reduceEqDiff, List.map_cons, List.map_nil], by simp only [f126, put_at, put_no,
                    ev_t, ev_c, reduceIte, Nat.reduceEqDiff, List.map_cons, List.map_nil], by simp only [f127, put_at, put_no, ev_t, ev_c, reduceIte, Nat.reduceEqDiff,
                    List.map_cons, List.map_nil], by simp only [f128, put_at, put_no, ev_t, ev_c, reduceIte, Nat.reduceEqDiff, List.map_cons, List.map_nil], by simp only [f129,
                    put_at, put_no, ev_t, ev_c, reduceIte, Nat.reduceEqDiff, List.map_cons, List.map_nil], by simp only [f130, put_at, put_no, ev_t, ev_c, reduceIte,
                    Nat.reduceEqDiff, List.map_cons, List.map_nil], by simp only [f131, put_at, put_no, ev_t, ev_c, reduceIte, Nat.reduceEqDiff, List.map_cons, List.map_nil],
                    by simp only [f133, put_at, put_no, ev_t, ev_c, reduceIte, Nat.reduceEqDiff, List.map_cons, List.map_nil], by simp only [f134, put_at, put_no, ev_t, ev_c,
                    reduceIte, Nat.reduceEqDiff, List.map_cons, List.map_nil], by simp only [f135, put_at, put_no, ev_t, ev_c, reduceIte, Nat.reduceEqDiff, List.map_cons,
                    List.map_nil], by simp only [f136, put_at, put_no, ev_t, ev_c, reduceIte, Nat.reduceEqDiff, List.map_cons, List.map_nil]⟩
              · rw [iteF hg141] at hx143
                obtain ⟨v146, hx147, hF148⟩ := bind_some' hx143
                simp only [hg141, run_guard (g := 98), guard_false, f130, run_mv, f132, run_call, put_at, put_no, ev_t, ev_c, reduceIte, Nat.reduceEqDiff, List.map_cons,
                    List.map_nil]
                refine call1 rfl (mapM1 (SlF.snap hv31 (Sep.m1 hS138) rfl (fun _ => rfl) (fun _ => rfl)) (mapM1 (SlF.snap hv43 (Sep.m2 hS138) rfl (fun _ => rfl)
                    (fun _ => rfl)) mapM0)) (laws_sameInts_x (fun b hb => decide_eq_true hb) v26.1 v38.1 v146 hx147) ?_
                simp only [hg141, run_guard (g := 98), guard_false, run_un, put1_some, xnot, run_pick, xpick_f, run_ops_nil, run_nil, put_at, put_no, ev_t, ev_c, reduceIte,
                    Nat.reduceEqDiff, List.map_cons, List.map_nil]
                have e149 := some_inj hF148
                exact hN140 _ _ ⟨(Sep.m1 (Sep.m1 (Sep.dc (Sep.m2 hS138)))), by rw [← e149]; simp only [put_at, put_no, ev_t, ev_c, reduceIte, Nat.reduceEqDiff, List.map_cons,
                    List.map_nil], by simp only [f125, put_at, put_no, ev_t, ev_c, reduceIte, Nat.reduceEqDiff, List.map_cons, List.map_nil], by simp only [f126, put_at, put_no,
                    ev_t, ev_c, reduceIte, Nat.reduceEqDiff, List.map_cons, List.map_nil], by simp only [f127, put_at, put_no, ev_t, ev_c, reduceIte, Nat.reduceEqDiff,
                    List.map_cons, List.map_nil], by simp only [f128, put_at, put_no, ev_t, ev_c, reduceIte, Nat.reduceEqDiff, List.map_cons, List.map_nil], by simp only [f129,
                    put_at, put_no, ev_t, ev_c, reduceIte, Nat.reduceEqDiff, List.map_cons, List.map_nil], by simp only [f130, put_at, put_no, ev_t, ev_c, reduceIte,
                    Nat.reduceEqDiff, List.map_cons, List.map_nil], by simp only [f131, put_at, put_no, ev_t, ev_c, reduceIte, Nat.reduceEqDiff, List.map_cons, List.map_nil],
                    by simp only [f133, put_at, put_no, ev_t, ev_c, reduceIte, Nat.reduceEqDiff, List.map_cons, List.map_nil], by simp only [f134, put_at, put_no, ev_t, ev_c,
                    reduceIte, Nat.reduceEqDiff, List.map_cons, List.map_nil], by simp only [f135, put_at, put_no, ev_t, ev_c, reduceIte, Nat.reduceEqDiff, List.map_cons,
                    List.map_nil], by simp only [f136, put_at, put_no, ev_t, ev_c, reduceIte, Nat.reduceEqDiff, List.map_cons, List.map_nil]⟩
            · rintro fr150 h163 ⟨hS164, f151, f152, f153, f154, f155, f156, f157, f158, f159, f160, f161, f162⟩
              simp only [List.drop_succ_cons, List.drop_zero]
              simp only [f151, run_mv, put_at, put_no, ev_t, ev_c, reduceIte, Nat.reduceEqDiff, List.map_cons, List.map_nil]
              refine ops_j 4 (fun fr' h' => Sep h' h.length (c6 ++ (c30 ++ ([]))) ∧ fr' 108 = .bool (v142 ||
                  (!(v50.2 == v53.2))) ∧ fr' 3 = v5 ∧ fr' 4 = .bool v14.1 ∧ fr' 5 = .bool v14.2 ∧ fr' 7 = .bool v17.2 ∧ fr' 8 = .bool v20.1 ∧ fr' 12 = v29 ∧ fr' 13 = .bool v26.2 ∧ fr' 16 = .int .i64 v50.1 ∧ fr' 18 = .int .i64 v53.1)
                  (fun Q165 hN166 => ?_) ?_
              · simp only [List.take_succ_cons, List.take_zero]
                simp only [run_guard (g := 104), put_at, put_no, ev_t, ev_c, reduceIte, Nat.reduceEqDiff, List.map_cons, List.map_nil]
                refine guard_split (t := v142) (fun hg167 => ?_) (fun hg167 => ?_)
                · simp only [hg167, run_guard (g := 104), guard_off', run_pick, put1_some, xpick_t, run_ops_nil, run_nil, put_at, put_no, ev_t, ev_c, reduceIte, Nat.reduceEqDiff,
                    List.map_cons, List.map_nil]
                  exact hN166 _ _ ⟨(Sep.m1 (Sep.m1 hS164)), by rw [orT hg167]; simp only [put_at, put_no, ev_t, ev_c, reduceIte, Nat.reduceEqDiff, List.map_cons, List.map_nil],
                      by simp only [f152, put_at, put_no, ev_t, ev_c, reduceIte, Nat.reduceEqDiff, List.map_cons, List.map_nil], by simp only [f153, put_at, put_no, ev_t, ev_c,
                      reduceIte, Nat.reduceEqDiff, List.map_cons, List.map_nil], by simp only [f154, put_at, put_no, ev_t, ev_c, reduceIte, Nat.reduceEqDiff, List.map_cons,
                      List.map_nil], by simp only [f155, put_at, put_no, ev_t, ev_c, reduceIte, Nat.reduceEqDiff, List.map_cons, List.map_nil], by simp only [f156, put_at, put_no,
                      ev_t, ev_c, reduceIte, Nat.reduceEqDiff, List.map_cons, List.map_nil], by simp only [f157, put_at, put_no, ev_t, ev_c, reduceIte, Nat.reduceEqDiff,
                      List.map_cons, List.map_nil], by simp only [f158, put_at, put_no, ev_t, ev_c, reduceIte, Nat.reduceEqDiff, List.map_cons, List.map_nil], by simp only [f159,
                      put_at, put_no, ev_t, ev_c, reduceIte, Nat.reduceEqDiff, List.map_cons, List.map_nil], by simp only [f161, put_at, put_no, ev_t, ev_c, reduceIte,
                      Nat.reduceEqDiff, List.map_cons, List.map_nil]⟩
                · simp only [hg167, run_guard (g := 104), guard_false, f160, run_mv, f162, run_eqb, put1_some, xeqb_t, run_pick, xpick_f, run_ops_nil, run_nil, put_at, put_no,
                    ev_t, ev_c, reduceIte, Nat.reduceEqDiff, List.map_cons, List.map_nil]
                  exact hN166 _ _ ⟨(Sep.m1 (Sep.m1 hS164)), by rw [orF hg167]; simp only [put_at, put_no, ev_t, ev_c, reduceIte, Nat.reduceEqDiff, List.map_cons, List.map_nil],
                      by simp only [f152, put_at, put_no, ev_t, ev_c, reduceIte, Nat.reduceEqDiff, List.map_cons, List.map_nil], by simp only [f153, put_at, put_no, ev_t, ev_c,
                      reduceIte, Nat.reduceEqDiff, List.map_cons, List.map_nil], by simp only [f154, put_at, put_no, ev_t, ev_c, reduceIte, Nat.reduceEqDiff, List.map_cons,
                      List.map_nil], by simp only [f155, put_at, put_no, ev_t, ev_c, reduceIte, Nat.reduceEqDiff, List.map_cons, List.map_nil], by simp only [f156, put_at, put_no,
                      ev_t, ev_c, reduceIte, Nat.reduceEqDiff, List.map_cons, List.map_nil], by simp only [f157, put_at, put_no, ev_t, ev_c, reduceIte, Nat.reduceEqDiff,
                      List.map_cons, List.map_nil], by simp only [f158, put_at, put_no, ev_t, ev_c, reduceIte, Nat.reduceEqDiff, List.map_cons, List.map_nil], by simp only [f159,
                      put_at, put_no, ev_t, ev_c, reduceIte, Nat.reduceEqDiff, List.map_cons, List.map_nil], by simp only [f161, put_at, put_no, ev_t, ev_c, reduceIte,
                      Nat.reduceEqDiff, List.map_cons, List.map_nil]⟩
              · rintro fr168 h179 ⟨hS180, f169, f170, f171, f172, f173, f174, f175, f176, f177, f178⟩
                simp only [List.drop_succ_cons, List.drop_zero]
                simp only [f169, run_mv, put_at, put_no, ev_t, ev_c, reduceIte, Nat.reduceEqDiff, List.map_cons, List.map_nil]
                refine ops_j 4 (fun fr' h' => Sep h' h.length (c6 ++ (c30 ++ ([]))) ∧ fr' 113 = .bool ((v142 || (!(v50.2 == v53.2))) || (decide
                    (v50.1 ≠ v53.1))) ∧ fr' 3 = v5 ∧ fr' 4 = .bool v14.1 ∧ fr' 5 = .bool v14.2 ∧ fr' 7 = .bool v17.2 ∧ fr' 8 = .bool v20.1 ∧ fr' 12 = v29 ∧ fr' 13 = .bool v26.2)
                    (fun Q181 hN182 => ?_) ?_
                · simp only [List.take_succ_cons, List.take_zero]
                  simp only [run_guard (g := 109), put_at, put_no, ev_t, ev_c, reduceIte, Nat.reduceEqDiff, List.map_cons, List.map_nil]
                  refine guard_split (t := (v142 || (!(v50.2 == v53.2)))) (fun hg183 => ?_) (fun hg183 => ?_)
                  · simp only [hg183, run_guard (g := 109), guard_off', run_pick, put1_some, xpick_t, run_ops_nil, run_nil, put_at, put_no, ev_t, ev_c, reduceIte,
                      Nat.reduceEqDiff, List.map_cons, List.map_nil]
                    exact hN182 _ _ ⟨(Sep.m1 (Sep.m1 hS180)), by rw [orT hg183]; simp only [put_at, put_no, ev_t, ev_c, reduceIte, Nat.reduceEqDiff, List.map_cons, List.map_nil],
                        by simp only [f170, put_at, put_no, ev_t, ev_c, reduceIte, Nat.reduceEqDiff, List.map_cons, List.map_nil], by simp only [f171, put_at, put_no, ev_t, ev_c,
                        reduceIte, Nat.reduceEqDiff, List.map_cons, List.map_nil], by simp only [f172, put_at, put_no, ev_t, ev_c, reduceIte, Nat.reduceEqDiff, List.map_cons,
                        List.map_nil], by simp only [f173, put_at, put_no, ev_t, ev_c, reduceIte, Nat.reduceEqDiff, List.map_cons, List.map_nil], by simp only [f174, put_at,
                        put_no, ev_t, ev_c, reduceIte, Nat.reduceEqDiff, List.map_cons, List.map_nil], by simp only [f175, put_at, put_no, ev_t, ev_c, reduceIte, Nat.reduceEqDiff,
                        List.map_cons, List.map_nil], by simp only [f176, put_at, put_no, ev_t, ev_c, reduceIte, Nat.reduceEqDiff, List.map_cons, List.map_nil]⟩
                  · simp only [hg183, run_guard (g := 109), guard_false, f177, run_mv, f178, run_bin, put1_some, xneq, run_pick, xpick_f, run_ops_nil, run_nil, put_at, put_no,
                      ev_t, ev_c, reduceIte, Nat.reduceEqDiff, List.map_cons, List.map_nil]
                    exact hN182 _ _ ⟨(Sep.m1 (Sep.m1 hS180)), by rw [orF hg183]; simp only [put_at, put_no, ev_t, ev_c, reduceIte, Nat.reduceEqDiff, List.map_cons, List.map_nil],
                        by simp only [f170, put_at, put_no, ev_t, ev_c, reduceIte, Nat.reduceEqDiff, List.map_cons, List.map_nil], by simp only [f171, put_at, put_no, ev_t, ev_c,
                        reduceIte, Nat.reduceEqDiff, List.map_cons, List.map_nil], by simp only [f172, put_at, put_no, ev_t, ev_c, reduceIte, Nat.reduceEqDiff, List.map_cons,
                        List.map_nil], by simp only [f173, put_at, put_no, ev_t, ev_c, reduceIte, Nat.reduceEqDiff, List.map_cons, List.map_nil], by simp only [f174, put_at,
                        put_no, ev_t, ev_c, reduceIte, Nat.reduceEqDiff, List.map_cons, List.map_nil], by simp only [f175, put_at, put_no, ev_t, ev_c, reduceIte, Nat.reduceEqDiff,
                        List.map_cons, List.map_nil], by simp only [f176, put_at, put_no, ev_t, ev_c, reduceIte, Nat.reduceEqDiff, List.map_cons, List.map_nil]⟩
                · rintro fr184 h193 ⟨hS194, f185, f186, f187, f188, f189, f190, f191, f192⟩
                  simp only [List.drop_succ_cons, List.drop_zero]
                  simp only [f185, run_mv, put_at, put_no, ev_t, ev_c, reduceIte, Nat.reduceEqDiff, List.map_cons, List.map_nil]
                  obtain ⟨v198, hx199, hF200⟩ := bind_some' hF144
                  refine ops_j 5 (fun fr' h' => Sep h' h.length (c6 ++ (c30 ++
                      ([]))) ∧ fr' 119 = .bool v198 ∧ fr' 3 = v5 ∧ fr' 4 = .bool v14.1 ∧ fr' 5 = .bool v14.2 ∧ fr' 8 = .bool v20.1 ∧ fr' 12 = v29 ∧ fr' 13 = .bool v26.2)
                      (fun Q195 hN196 => ?_) ?_
                  · simp only [List.take_succ_cons, List.take_zero]
                    simp only [run_guard (g := 114), put_at, put_no, ev_t, ev_c, reduceIte, Nat.reduceEqDiff, List.map_cons, List.map_nil]
                    refine guard_split (t := ((v142 || (!(v50.2 == v53.2))) || (decide (v50.1 ≠ v53.1)))) (fun hg197 => ?_) (fun hg197 => ?_)
                    · rw [iteT hg197] at hx199
                      simp only [hg197, run_guard (g := 114), guard_off', run_pick, put1_some, xpick_t, run_ops_nil, run_nil, put_at, put_no, ev_t, ev_c, reduceIte,
                          Nat.reduceEqDiff, List.map_cons, List.map_nil]
                      have e201 := some_inj hx199
                      exact hN196 _ _ ⟨(Sep.m1 (Sep.m1 hS194)), by rw [← e201]; simp only [put_at, put_no, ev_t, ev_c, reduceIte, Nat.reduceEqDiff, List.map_cons, List.map_nil],
                          by simp only [f186, put_at, put_no, ev_t, ev_c, reduceIte, Nat.reduceEqDiff, List.map_cons, List.map_nil], by simp only [f187, put_at, put_no, ev_t,
                          ev_c, reduceIte, Nat.reduceEqDiff, List.map_cons, List.map_nil], by simp only [f188, put_at, put_no, ev_t, ev_c, reduceIte, Nat.reduceEqDiff,
                          List.map_cons, List.map_nil], by simp only [f190, put_at, put_no, ev_t, ev_c, reduceIte, Nat.reduceEqDiff, List.map_cons, List.map_nil],
                          by simp only [f191, put_at, put_no, ev_t, ev_c, reduceIte, Nat.reduceEqDiff, List.map_cons, List.map_nil], by simp only [f192, put_at, put_no, ev_t,
                          ev_c, reduceIte, Nat.reduceEqDiff, List.map_cons, List.map_nil]⟩
                    · rw [iteF hg197] at hx199
                      obtain ⟨v202, hx203, hF204⟩ := bind_some' hx199
                      simp only [hg197, run_guard (g := 114), guard_false, f186, run_mv, run_call, put_at, put_no, ev_t, ev_c, reduceIte, Nat.reduceEqDiff, List.map_cons,
                          List.map_nil]
                      refine call1 rfl (mapM1 (SlF.snap hv7 hS194 rfl (fun _ => rfl) (fun _ => rfl)) mapM0) (impl_GoodCalls_x (fun b hb => decide_eq_true hb) v2 v202 hx203) ?_
                      simp only [hg197, run_guard (g := 114), guard_false, f189, run_mv, run_eqb, put1_some, xeqb_t, run_pick, xpick_f, run_ops_nil, run_nil, put_at, put_no, ev_t,
                          ev_c, reduceIte, Nat.reduceEqDiff, List.map_cons, List.map_nil]
                      have e205 := some_inj hF204
                      exact hN196 _ _ ⟨(Sep.m1 (Sep.m1 hS194)), by rw [← e205]; simp only [put_at, put_no, ev_t, ev_c, reduceIte, Nat.reduceEqDiff, List.map_cons, List.map_nil],
                          by simp only [f186, put_at, put_no, ev_t, ev_c, reduceIte, Nat.reduceEqDiff, List.map_cons, List.map_nil], by simp only [f187, put_at, put_no, ev_t,
                          ev_c, reduceIte, Nat.reduceEqDiff, List.map_cons, List.map_nil], by simp only [f188, put_at, put_no, ev_t, ev_c, reduceIte, Nat.reduceEqDiff,
                          List.map_cons, List.map_nil], by simp only [f190, put_at, put_no, ev_t, ev_c, reduceIte, Nat.reduceEqDiff, List.map_cons, List.map_nil],
                          by simp only [f191, put_at, put_no, ev_t, ev_c, reduceIte, Nat.reduceEqDiff, List.map_cons, List.map_nil], by simp only [f192, put_at, put_no, ev_t,
                          ev_c, reduceIte, Nat.reduceEqDiff, List.map_cons, List.map_nil]⟩
                  · rintro fr206 h214 ⟨hS215, f207, f208, f209, f210, f211, f212, f213⟩
                    simp only [List.drop_succ_cons, List.drop_zero]
                    simp only [run_ops_nil, f207, run_cond, put_at, put_no, ev_t, ev_c, reduceIte, Nat.reduceEqDiff, List.map_cons, List.map_nil]
                    refine cond_split (t := v198) (fun hc216 => ?_) (fun hc216 => ?_)
                    · rw [iteT hc216] at hF200
                      simp only [run_seq, run_reg, run_mv, run_ops_nil, run_ret, put_at, put_no, ev_t, ev_c, reduceIte, Nat.reduceEqDiff, List.map_cons, List.map_nil]
                      have he := some_inj hF200
                      subst he
                      simp only [end_ret1, put_at, put_no, ev_t, ev_c, reduceIte, Nat.reduceEqDiff, List.map_cons, List.map_nil]
                      exact rfl
                    · rw [iteF hc216] at hF200
                      simp only [run_skip, x9_20, run_seq, run_reg, f210, run_mv, run_un, put1_some, xnot, run_ops_nil, x9_2, run_cond, put_at, put_no, ev_t, ev_c, reduceIte,
                          Nat.reduceEqDiff, List.map_cons, List.map_nil]
                      refine cond_split (t := (!v14.2)) (fun hc217 => ?_) (fun hc217 => ?_)
                      · rw [iteT hc217] at hF200
                        simp only [x9_1, run_seq, run_reg, f212, run_mv, run_len, put1_some, SlF.plen hv31, run_bin, xeql, run_ops_nil, run_ret, put_at, put_no, ev_t, ev_c,
                            reduceIte, Nat.reduceEqDiff, List.map_cons, List.map_nil]
                        have he := some_inj hF200
                        subst he
                        simp only [end_ret1, put_at, put_no, ev_t, ev_c, reduceIte, Nat.reduceEqDiff, List.map_cons, List.map_nil]
                        exact rfl
                      · rw [iteF hc217] at hF200
                        simp only [run_skip, x9_19, run_seq, run_reg, f209, run_mv, put_at, put_no, ev_t, ev_c, reduceIte, Nat.reduceEqDiff, List.map_cons, List.map_nil]
                        refine ops_j 3 (fun fr' h' => Sep h' h.length (c6 ++ (c30 ++ ([]))) ∧ fr' 129 = .bool (v14.1 &&
                            (!v20.1)) ∧ fr' 3 = v5 ∧ fr' 4 = .bool v14.1 ∧ fr' 12 = v29 ∧ fr' 13 = .bool v26.2) (fun Q218 hN219 => ?_) ?_
                        · simp only [List.take_succ_cons, List.take_zero]
                          simp only [run_guard (g := 126), put_at, put_no, ev_t, ev_c, reduceIte, Nat.reduceEqDiff, List.map_cons, List.map_nil]
                          refine guard_split (t := v14.1) (fun hg220 => ?_) (fun hg220 => ?_)
                          · simp only [hg220, run_guard (g := 126), guard_true, f211, run_mv, run_un, put1_some, xnot, run_pick, xpick_t, run_ops_nil, run_nil, put_at, put_no,
                              ev_t, ev_c, reduceIte, Nat.reduceEqDiff, List.map_cons, List.map_nil]
                            exact hN219 _ _ ⟨(Sep.m1 (Sep.m1 hS215)), by rw [andT hg220]; simp only [put_at, put_no, ev_t, ev_c, reduceIte, Nat.reduceEqDiff, List.map_cons,
                                List.map_nil], by simp only [f208, put_at, put_no, ev_t, ev_c, reduceIte, Nat.reduceEqDiff, List.map_cons, List.map_nil], by simp only [f209,
                                put_at, put_no, ev_t, ev_c, reduceIte, Nat.reduceEqDiff, List.map_cons, List.map_nil], by simp only [f212, put_at, put_no, ev_t, ev_c, reduceIte,
                                Nat.reduceEqDiff, List.map_cons, List.map_nil], by simp only [f213, put_at, put_no, ev_t, ev_c, reduceIte, Nat.reduceEqDiff, List.map_cons,
                                List.map_nil]⟩
                          · simp only [hg220, run_guard (g := 126), guard_off, run_pick, put1_some, xpick_f, run_ops_nil, run_nil, put_at, put_no, ev_t, ev_c, reduceIte,
                              Nat.reduceEqDiff, List.map_cons, List.map_nil]
                            exact hN219 _ _ ⟨(Sep.m1 (Sep.m1 hS215)), by rw [andF hg220]; simp only [put_at, put_no, ev_t, ev_c, reduceIte, Nat.reduceEqDiff, List.map_cons,
                                List.map_nil], by simp only [f208, put_at, put_no, ev_t, ev_c, reduceIte, Nat.reduceEqDiff, List.map_cons, List.map_nil], by simp only [f209,
                                put_at, put_no, ev_t, ev_c, reduceIte, Nat.reduceEqDiff, List.map_cons, List.map_nil], by simp only [f212, put_at, put_no, ev_t, ev_c, reduceIte,
                                Nat.reduceEqDiff, List.map_cons, List.map_nil], by simp only [f213, put_at, put_no, ev_t, ev_c, reduceIte, Nat.reduceEqDiff, List.map_cons,
                                List.map_nil]⟩
                        · rintro fr221 h227 ⟨hS228, f222, f223, f224, f225, f226⟩
                          simp only [List.drop_succ_cons, List.drop_zero]
                          simp only [f222, run_mv, put_at, put_no, ev_t, ev_c, reduceIte, Nat.reduceEqDiff, List.map_cons, List.map_nil]
                          refine ops_j 4 (fun fr' h' => Sep h' h.length (c6 ++ (c30 ++ ([]))) ∧ fr' 134 = .bool ((v14.1 && (!v20.1)) ||
                              (!(v14.1 == v26.2))) ∧ fr' 3 = v5 ∧ fr' 4 = .bool v14.1 ∧ fr' 12 = v29 ∧ fr' 13 = .bool v26.2) (fun Q229 hN230 => ?_) ?_
                          · simp only [List.take_succ_cons, List.take_zero]
                            simp only [run_guard (g := 130), put_at, put_no, ev_t, ev_c, reduceIte, Nat.reduceEqDiff, List.map_cons, List.map_nil]
                            refine guard_split (t := (v14.1 && (!v20.1))) (fun hg231 => ?_) (fun hg231 => ?_)
                            · simp only [hg231, run_guard (g := 130), guard_off', run_pick, put1_some, xpick_t, run_ops_nil, run_nil, put_at, put_no, ev_t, ev_c, reduceIte,
                                Nat.reduceEqDiff, List.map_cons, List.map_nil]
                              exact hN230 _ _ ⟨(Sep.m1 (Sep.m1 hS228)), by rw [orT hg231]; simp only [put_at, put_no, ev_t, ev_c, reduceIte, Nat.reduceEqDiff, List.map_cons,
                                  List.map_nil], by simp only [f223, put_at, put_no, ev_t, ev_c, reduceIte, Nat.reduceEqDiff, List.map_cons, List.map_nil], by simp only [f224,
                                  put_at, put_no, ev_t, ev_c, reduceIte, Nat.reduceEqDiff, List.map_cons, List.map_nil], by simp only [f225, put_at, put_no, ev_t, ev_c, reduceIte,
                                  Nat.reduceEqDiff, List.map_cons, List.map_nil], by simp only [f226, put_at, put_no, ev_t, ev_c, reduceIte, Nat.reduceEqDiff, List.map_cons,
                                  List.map_nil]⟩
                            · simp only [hg231, run_guard (g := 130), guard_false, f224, run_mv, f226, run_eqb, put1_some, xeqb_t, run_pick, xpick_f, run_ops_nil, run_nil, put_at,
                                put_no, ev_t, ev_c, reduceIte, Nat.reduceEqDiff, List.map_cons, List.map_nil]
                              exact hN230 _ _ ⟨(Sep.m1 (Sep.m1 hS228)), by rw [orF hg231]; simp only [put_at, put_no, ev_t, ev_c, reduceIte, Nat.reduceEqDiff, List.map_cons,
                                  List.map_nil], by simp only [f223, put_at, put_no, ev_t, ev_c, reduceIte, Nat.reduceEqDiff, List.map_cons, List.map_nil], by simp only [f224,
                                  put_at, put_no, ev_t, ev_c, reduceIte, Nat.reduceEqDiff, List.map_cons, List.map_nil], by simp only [f225, put_at, put_no, ev_t, ev_c, reduceIte,
                                  Nat.reduceEqDiff, List.map_cons, List.map_nil], by simp only [f226, put_at, put_no, ev_t, ev_c, reduceIte, Nat.reduceEqDiff, List.map_cons,
                                  List.map_nil]⟩
                          · rintro fr232 h238 ⟨hS239, f233, f234, f235, f236, f237⟩
                            simp only [List.drop_succ_cons, List.drop_zero]
                            simp only [run_ops_nil, f233, run_cond, put_at, put_no, ev_t, ev_c, reduceIte, Nat.reduceEqDiff, List.map_cons, List.map_nil]
                            refine cond_split (t := ((v14.1 && (!v20.1)) || (!(v14.1 == v26.2)))) (fun hc240 => ?_) (fun hc240 => ?_)
                            · rw [iteT hc240] at hF200
                              simp only [run_seq, run_reg, run_mv, run_ops_nil, run_ret, put_at, put_no, ev_t, ev_c, reduceIte, Nat.reduceEqDiff, List.map_cons, List.map_nil]
                              have he := some_inj hF200
                              subst he
                              simp only [end_ret1, put_at, put_no, ev_t, ev_c, reduceIte, Nat.reduceEqDiff, List.map_cons, List.map_nil]
                              exact rfl
                            · rw [iteF hc240] at hF200
                              simp only [run_skip, x9_18, run_seq, run_reg, f237, run_mv, run_ops_nil, x9_6, run_cond, put_at, put_no, ev_t, ev_c, reduceIte, Nat.reduceEqDiff,
                                  List.map_cons, List.map_nil]
                              obtain ⟨oc241, hX242, hk243⟩ := jn_some hF200
                              refine cond_j (t := v26.2) (fun fr' h' => ∃ s,
                                  oc241 = .nxt s ∧ fr' 3 = v5 ∧ fr' 4 = .bool v14.1 ∧ Sep h' h.length (c6 ++ ([]))) (fun Q244 hN245 hR246 hE247 => ⟨fun hc248 => ?_,
                                  fun hc248 => ?_⟩) ?_
                              · rw [iteT hc248] at hX242
                                obtain ⟨v249, hx250, hF251⟩ := bind_some' hX242
                                simp only [x9_5, run_seq, run_reg, f234, run_mv, f236, run_call, put_at, put_no, ev_t, ev_c, reduceIte, Nat.reduceEqDiff, List.map_cons,
                                    List.map_nil]
                                refine call1 rfl (mapM1 (SlF.snap hv7 hS239 rfl (fun _ => rfl) (fun _ => rfl)) (mapM1 (SlF.snap hv31 (Sep.m1 hS239) rfl (fun _ => rfl)
                                    (fun _ => rfl)) mapM0)) (impl_IsLegal_x (fun b hb => decide_eq_true hb) k v2 v26.1 v249 hx250) ?_
                                obtain ⟨v252, hx253, hF254⟩ := bind_some' hF251
                                simp only [run_mv, run_ext, put1_some, xext_0, xext_1, run_ops_nil, x9_4, run_seq, run_reg, f234, f236, run_call, put_at, put_no, ev_t, ev_c,
                                    reduceIte, Nat.reduceEqDiff, List.map_cons, List.map_nil]
                                refine call1 rfl (mapM1 (SlF.snap hv7 hS239 rfl (fun _ => rfl) (fun _ => rfl)) (mapM1 (SlF.snap hv31 (Sep.m1 hS239) rfl (fun _ => rfl)
                                    (fun _ => rfl)) mapM0)) (impl_RespectsTime_x (fun b hb => decide_eq_true hb) k v2 v26.1 v252 hx253) ?_
                                simp only [run_mv, run_ext, put1_some, xext_0, xext_1, run_ops_nil, x9_3, run_seq, run_reg, run_un, xnot, put_at, put_no, ev_t, ev_c, reduceIte,
                                    Nat.reduceEqDiff, List.map_cons, List.map_nil]
                                refine ops_j 3 (fun fr' h' => Sep h' h.length (c6 ++ ([])) ∧ fr' 153 = .bool ((!v249.2) ||
                                    (!v249.1)) ∧ fr' 3 = v5 ∧ fr' 4 = .bool v14.1 ∧ fr' 22 = .bool v252.1 ∧ fr' 23 = .bool v252.2) (fun Q255 hN256 => ?_) ?_
                                · simp only [List.take_succ_cons, List.take_zero]
                                  simp only [run_guard (g := 150), put_at, put_no, ev_t, ev_c, reduceIte, Nat.reduceEqDiff, List.map_cons, List.map_nil]
                                  refine guard_split (t := (!v249.2)) (fun hg257 => ?_) (fun hg257 => ?_)
                                  · simp only [hg257, run_guard (g := 150), guard_off', run_pick, put1_some, xpick_t, run_ops_nil, run_nil, put_at, put_no, ev_t, ev_c, reduceIte,
                                      Nat.reduceEqDiff, List.map_cons, List.map_nil]
                                    exact hN256 _ _ ⟨(Sep.dc (Sep.m1 hS239)), by rw [orT hg257]; simp only [put_at, put_no, ev_t, ev_c, reduceIte, Nat.reduceEqDiff, List.map_cons,
                                        List.map_nil], by simp only [f234, put_at, put_no, ev_t, ev_c, reduceIte, Nat.reduceEqDiff, List.map_cons, List.map_nil],
                                        by simp only [f235, put_at, put_no, ev_t, ev_c, reduceIte, Nat.reduceEqDiff, List.map_cons, List.map_nil], by simp only [put_at, put_no,
                                        ev_t, ev_c, reduceIte, Nat.reduceEqDiff, List.map_cons, List.map_nil], by simp only [put_at, put_no, ev_t, ev_c, reduceIte,
                                        Nat.reduceEqDiff, List.map_cons, List.map_nil]⟩
                                  · simp only [hg257, run_guard (g := 150), guard_false, run_mv, run_un, put1_some, xnot, run_pick, xpick_f, run_ops_nil, run_nil, put_at, put_no,
                                      ev_t, ev_c, reduceIte, Nat.reduceEqDiff, List.map_cons, List.map_nil]
                                    exact hN256 _ _ ⟨(Sep.dc (Sep.m1 hS239)), by rw [orF hg257]; simp only [put_at, put_no, ev_t, ev_c, reduceIte, Nat.reduceEqDiff, List.map_cons,
                                        List.map_nil], by simp only [f234, put_at, put_no, ev_t, ev_c, reduceIte, Nat.reduceEqDiff, List.map_cons, List.map_nil],
                                        by simp only [f235, put_at, put_no, ev_t, ev_c, reduceIte, Nat.reduceEqDiff, List.map_cons, List.map_nil], by simp only [put_at, put_no,
                                        ev_t, ev_c, reduceIte, Nat.reduceEqDiff, List.map_cons, List.map_nil], by simp only [put_at, put_no, ev_t, ev_c, reduceIte,
                                        Nat.reduceEqDiff, List.map_cons, List.map_nil]⟩
                                · rintro fr258 h264 ⟨hS265, f259, f260, f261, f262, f263⟩
                                  simp only [List.drop_succ_cons, List.drop_zero]
                                  simp only [f259, run_mv, put_at, put_no, ev_t, ev_c, reduceIte, Nat.reduceEqDiff, List.map_cons, List.map_nil]
                                  refine ops_j 3 (fun fr' h' => Sep h' h.length (c6 ++ ([])) ∧ fr' 157 = .bool (((!v249.2) || (!v249.1)) ||
                                      (!v252.2)) ∧ fr' 3 = v5 ∧ fr' 4 = .bool v14.1 ∧ fr' 22 = .bool v252.1) (fun Q266 hN267 => ?_) ?_
                                  · simp only [List.take_succ_cons, List.take_zero]
                                    simp only [run_guard (g := 154), put_at, put_no, ev_t, ev_c, reduceIte, Nat.reduceEqDiff, List.map_cons, List.map_nil]
                                    refine guard_split (t := ((!v249.2) || (!v249.1))) (fun hg268 => ?_) (fun hg268 => ?_)
                                    · simp only [hg268, run_guard (g := 154), guard_off', run_pick, put1_some, xpick_t, run_ops_nil, run_nil, put_at, put_no, ev_t, ev_c,
                                        reduceIte, Nat.reduceEqDiff, List.map_cons, List.map_nil]
                                      exact hN267 _ _ ⟨hS265, by rw [orT hg268]; simp only [put_at, put_no, ev_t, ev_c, reduceIte, Nat.reduceEqDiff, List.map_cons, List.map_nil],
                                          by simp only [f260, put_at, put_no, ev_t, ev_c, reduceIte, Nat.reduceEqDiff, List.map_cons, List.map_nil], by simp only [f261, put_at,
                                          put_no, ev_t, ev_c, reduceIte, Nat.reduceEqDiff, List.map_cons, List.map_nil], by simp only [f262, put_at, put_no, ev_t, ev_c, reduceIte,
                                          Nat.reduceEqDiff, List.map_cons, List.map_nil]⟩
                                    · simp only [hg268, run_guard (g := 154), guard_false, f263, run_mv, run_un, put1_some, xnot, run_pick, xpick_f, run_ops_nil, run_nil, put_at,
                                        put_no, ev_t, ev_c, reduceIte, Nat.reduceEqDiff, List.map_cons, List.map_nil]
                                      exact hN267 _ _ ⟨hS265, by rw [orF hg268]; simp only [put_at, put_no, ev_t, ev_c, reduceIte, Nat.reduceEqDiff, List.map_cons, List.map_nil],
                                          by simp only [f260, put_at, put_no, ev_t, ev_c, reduceIte, Nat.reduceEqDiff, List.map_cons, List.map_nil], by simp only [f261, put_at,
                                          put_no, ev_t, ev_c, reduceIte, Nat.reduceEqDiff, List.map_cons, List.map_nil], by simp only [f262, put_at, put_no, ev_t, ev_c, reduceIte,
                                          Nat.reduceEqDiff, List.map_cons, List.map_nil]⟩
                                  · rintro fr269 h274 ⟨hS275, f270, f271, f272, f273⟩
                                    simp only [List.drop_succ_cons, List.drop_zero]
                                    simp only [f270, run_mv, put_at, put_no, ev_t, ev_c, reduceIte, Nat.reduceEqDiff, List.map_cons, List.map_nil]
                                    refine ops_j 3 (fun fr' h' => Sep h' h.length (c6 ++ ([])) ∧ fr' 161 = .bool ((((!v249.2) || (!v249.1)) || (!v252.2)) ||
                                        (!v252.1)) ∧ fr' 3 = v5 ∧ fr' 4 = .bool v14.1) (fun Q276 hN277 => ?_) ?_
                                    · simp only [List.take_succ_cons, List.take_zero]
                                      simp only [run_guard (g := 158), put_at, put_no, ev_t, ev_c, reduceIte, Nat.reduceEqDiff, List.map_cons, List.map_nil]
                                      refine guard_split (t := (((!v249.2) || (!v249.1)) || (!v252.2))) (fun hg278 => ?_) (fun hg278 => ?_)
                                      · simp only [hg278, run_guard (g := 158), guard_off', run_pick, put1_some, xpick_t, run_ops_nil, run_nil, put_at, put_no, ev_t, ev_c,
                                          reduceIte, Nat.reduceEqDiff, List.map_cons, List.map_nil]
                                        exact hN277 _ _ ⟨hS275, by rw [orT hg278]; simp only [put_at, put_no, ev_t, ev_c, reduceIte, Nat.reduceEqDiff, List.map_cons,
                                            List.map_nil], by simp only [f271, put_at, put_no, ev_t, ev_c, reduceIte, Nat.reduceEqDiff, List.map_cons, List.map_nil],
                                            by simp only [f272, put_at, put_no, ev_t, ev_c, reduceIte, Nat.reduceEqDiff, List.map_cons, List.map_nil]⟩
                                      · simp only [hg278, run_guard (g := 158), guard_false, f273, run_mv, run_un, put1_some, xnot, run_pick, xpick_f, run_ops_nil, run_nil,
                                          put_at, put_no, ev_t, ev_c, reduceIte, Nat.reduceEqDiff, List.map_cons, List.map_nil]
                                        exact hN277 _ _ ⟨hS275, by rw [orF hg278]; simp only [put_at, put_no, ev_t, ev_c, reduceIte, Nat.reduceEqDiff, List.map_cons,
                                            List.map_nil], by simp only [f271, put_at, put_no, ev_t, ev_c, reduceIte, Nat.reduceEqDiff, List.map_cons, List.map_nil],
                                            by simp only [f272, put_at, put_no, ev_t, ev_c, reduceIte, Nat.reduceEqDiff, List.map_cons, List.map_nil]⟩
                                    · rintro fr279 h283 ⟨hS284, f280, f281, f282⟩
                                      simp only [List.drop_succ_cons, List.drop_zero]
                                      simp only [run_ops_nil, f280, run_cond, put_at, put_no, ev_t, ev_c, reduceIte, Nat.reduceEqDiff, List.map_cons, List.map_nil]
                                      refine cond_split (t := ((((!v249.2) || (!v249.1)) || (!v252.2)) || (!v252.1))) (fun hc285 => ?_) (fun hc285 => ?_)
                                      · rw [iteT hc285] at hF254
                                        simp only [run_seq, run_reg, run_mv, run_ops_nil, run_ret, put_at, put_no, ev_t, ev_c, reduceIte, Nat.reduceEqDiff, List.map_cons,
                                            List.map_nil]
                                        have e286 := some_inj hF254
                                        subst e286
                                        have hk243' := hk243
                                        dsimp only [jnO] at hk243'
                                        apply hR246
                                        have he := some_inj hk243'
                                        subst he
                                        simp only [end_ret1, put_at, put_no, ev_t, ev_c, reduceIte, Nat.reduceEqDiff, List.map_cons, List.map_nil]
                                        exact rfl
                                      · rw [iteF hc285] at hF254
                                        simp only [run_skip, run_nil, put_at, put_no, ev_t, ev_c, reduceIte, Nat.reduceEqDiff, List.map_cons, List.map_nil]
                                        have e287 := some_inj hF254
                                        exact hN245 _ _ ⟨_, e287.symm, by simp only [f281, put_at, put_no, ev_t, ev_c, reduceIte, Nat.reduceEqDiff, List.map_cons, List.map_nil],
                                            by simp only [f282, put_at, put_no, ev_t, ev_c, reduceIte, Nat.reduceEqDiff, List.map_cons, List.map_nil], hS284⟩
                              · rw [iteF hc248] at hX242
                                simp only [run_skip, run_nil, put_at, put_no, ev_t, ev_c, reduceIte, Nat.reduceEqDiff, List.map_cons, List.map_nil]
                                have e288 := some_inj hX242
                                exact hN245 _ _ ⟨_, e288.symm, by simp only [f234, put_at, put_no, ev_t, ev_c, reduceIte, Nat.reduceEqDiff, List.map_cons, List.map_nil],
                                    by simp only [f235, put_at, put_no, ev_t, ev_c, reduceIte, Nat.reduceEqDiff, List.map_cons, List.map_nil], (Sep.dc (Sep.m1 hS239))⟩
                              · rintro fr289 h290 ⟨_, rfl, f292, f293, hS291⟩
                                dsimp only [jnO] at hk243
                                unfold laws_FnLinear_j1 at hk243
                                simp only [x9_17, run_seq, run_reg, run_mv, run_ops_nil, x9_16, put_at, put_no, ev_t, ev_c, reduceIte, Nat.reduceEqDiff, List.map_cons,
                                    List.map_nil]
                                obtain ⟨oc300, hX302, hk303⟩ := jn_some hk243
                                simp only [x9_14]
                                refine loopF_j (σ := Bool × Int) (fun s364 => laws_FnLinear_b1 k v2 s364.1 s364.2)
                                    (fun s fr' h' => fr' 3 = v5 ∧ fr' 4 = .bool v14.1 ∧ fr' 24 = .bool s.1 ∧ fr' 25 = .int .i64 s.2 ∧ Sep h' h.length (c6 ++
                                    ([]))) hX302 ⟨by simp only [f292, put_at, put_no, ev_t, ev_c, reduceIte, Nat.reduceEqDiff, List.map_cons, List.map_nil], by simp only [f293,
                                    put_at, put_no, ev_t, ev_c, reduceIte, Nat.reduceEqDiff, List.map_cons, List.map_nil], by simp only [put_at, put_no, ev_t, ev_c, reduceIte,
                                    Nat.reduceEqDiff, List.map_cons, List.map_nil], by simp only [put_at, put_no, ev_t, ev_c, reduceIte, Nat.reduceEqDiff, List.map_cons,
                                    List.map_nil], hS291⟩ (fun _ _ _ h => h) ?_ ?_
                                · rintro ⟨s296, s297⟩ fr312 h313 ⟨f315, f316, f317, f318, hS314⟩ oc301 hF304 hr305 Q306 hN307 hK308 hR309 hE310
                                  dsimp only at *
                                  unfold laws_FnLinear_b1 at hF304
                                  simp only [x9_12, run_seq, run_reg, f318, run_mv, run_bin, put1_some, xlss, run_ops_nil, run_cond, put_at, put_no, ev_t, ev_c, reduceIte,
                                      Nat.reduceEqDiff, List.map_cons, List.map_nil]
                                  refine cond_split (t := (decide (s297 < 3))) (fun hc320 => ?_) (fun hc320 => ?_)
                                  · rw [iteT hc320] at hF304
                                    obtain ⟨v321, hx322, hF323⟩ := bind_some' hF304
                                    simp only [run_skip, x9_11, run_seq, run_block, x9_10, run_reg, f315, run_mv, f318, run_call, put_at, put_no, ev_t, ev_c, reduceIte,
                                        Nat.reduceEqDiff, List.map_cons, List.map_nil]
                                    refine call2 rfl hS314 (mapM1 (SlF.snap hv7 hS314 rfl (fun _ => rfl) (fun _ => rfl)) (mapM1 snap_int mapM0)) (impl_OnObject_x
                                        (fun b hb => decide_eq_true hb) k v2 s297 v321 hx322) ?_
                                    rintro _ h328 ⟨v324, c325, rfl, hv326, hS329⟩
                                    refine ⟨_, free_t (all_c (free2_1 (SlF.free1 hv326)) (all_c rfl all_n)), hS329, (pf_app (SlF.pf hv326 (fun _ => rfl)) pf_nil),
                                        fun h330 hS331 => ?_⟩
                                    have hS332 : Sep h330 h.length (c325 ++ (c6 ++ ([]))) := by simpa only [List.append_assoc, List.nil_append] using hS331
                                    obtain ⟨v333, hx334, hF335⟩ := bind_some' hF323
                                    simp only [run_mv, run_ext, put1_some, xext_0, xext_1, run_ops_nil, x9_9, run_seq, run_reg, run_call, put_at, put_no, ev_t, ev_c, reduceIte,
                                        Nat.reduceEqDiff, List.map_cons, List.map_nil]
                                    refine call1 rfl (mapM1 (SlF.snap hv326 hS332 rfl (fun _ => rfl) (fun _ => rfl)) mapM0) (impl_IsLinear_x
                                        (fun b hb => decide_eq_true hb) k v321.1 v333 hx334) ?_
                                    simp only [run_mv, run_ext, put1_some, xext_0, xext_1, run_ops_nil, x9_8, run_seq, run_reg, run_un, xnot, put_at, put_no, ev_t, ev_c,
                                        reduceIte, Nat.reduceEqDiff, List.map_cons, List.map_nil]
                                    refine ops_j 3 (fun fr' h' => Sep h' h.length (c6 ++ ([])) ∧ fr' 182 = .bool ((!v321.2) ||
                                        (!v333.2)) ∧ fr' 3 = v5 ∧ fr' 4 = .bool v14.1 ∧ fr' 24 = .bool s296 ∧ fr' 25 = .int .i64 s297 ∧ fr' 28 = .bool v333.1)
                                        (fun Q336 hN337 => ?_) ?_
                                    · simp only [List.take_succ_cons, List.take_zero]
                                      simp only [run_guard (g := 179), put_at, put_no, ev_t, ev_c, reduceIte, Nat.reduceEqDiff, List.map_cons, List.map_nil]
                                      refine guard_split (t := (!v321.2)) (fun hg338 => ?_) (fun hg338 => ?_)
                                      · simp only [hg338, run_guard (g := 179), guard_off', run_pick, put1_some, xpick_t, run_ops_nil, run_nil, put_at, put_no, ev_t, ev_c,
                                          reduceIte, Nat.reduceEqDiff, List.map_cons, List.map_nil]
                                        exact hN337 _ _ ⟨(Sep.dc (hS332)), by rw [orT hg338]; simp only [put_at, put_no, ev_t, ev_c, reduceIte, Nat.reduceEqDiff, List.map_cons,
                                            List.map_nil], by simp only [f315, put_at, put_no, ev_t, ev_c, reduceIte, Nat.reduceEqDiff, List.map_cons, List.map_nil],
                                            by simp only [f316, put_at, put_no, ev_t, ev_c, reduceIte, Nat.reduceEqDiff, List.map_cons, List.map_nil], by simp only [f317, put_at,
                                            put_no, ev_t, ev_c, reduceIte, Nat.reduceEqDiff, List.map_cons, List.map_nil], by simp only [f318, put_at, put_no, ev_t, ev_c,
                                            reduceIte, Nat.reduceEqDiff, List.map_cons, List.map_nil], by simp only [put_at, put_no, ev_t, ev_c, reduceIte, Nat.reduceEqDiff,
                                            List.map_cons, List.map_nil]⟩
                                      · simp only [hg338, run_guard (g := 179), guard_false, run_mv, run_un, put1_some, xnot, run_pick, xpick_f, run_ops_nil, run_nil, put_at,
                                          put_no, ev_t, ev_c, reduceIte, Nat.reduceEqDiff, List.map_cons, List.map_nil]
                                        exact hN337 _ _ ⟨(Sep.dc (hS332)), by rw [orF hg338]; simp only [put_at, put_no, ev_t, ev_c, reduceIte, Nat.reduceEqDiff, List.map_cons,
                                            List.map_nil], by simp only [f315, put_at, put_no, ev_t, ev_c, reduceIte, Nat.reduceEqDiff, List.map_cons, List.map_nil],
                                            by simp only [f316, put_at, put_no, ev_t, ev_c, reduceIte, Nat.reduceEqDiff, List.map_cons, List.map_nil], by simp only [f317, put_at,
                                            put_no, ev_t, ev_c, reduceIte, Nat.reduceEqDiff, List.map_cons, List.map_nil], by simp only [f318, put_at, put_no, ev_t, ev_c,
                                            reduceIte, Nat.reduceEqDiff, List.map_cons, List.map_nil], by simp only [put_at, put_no, ev_t, ev_c, reduceIte, Nat.reduceEqDiff,
                                            List.map_cons, List.map_nil]⟩
                                    · rintro fr339 h346 ⟨hS347, f340, f341, f342, f343, f344, f345⟩
                                      simp only [List.drop_succ_cons, List.drop_zero]
                                      simp only [run_ops_nil, f340, run_cond, put_at, put_no, ev_t, ev_c, reduceIte, Nat.reduceEqDiff, List.map_cons, List.map_nil]
                                      refine cond_split (t := ((!v321.2) || (!v333.2))) (fun hc348 => ?_) (fun hc348 => ?_)
                                      · rw [iteT hc348] at hF335
                                        simp only [run_seq, run_reg, run_mv, run_ops_nil, run_ret, put_at, put_no, ev_t, ev_c, reduceIte, Nat.reduceEqDiff, List.map_cons,
                                            List.map_nil]
                                        have e349 := some_inj hF335
                                        subst e349
                                        have ho350 := hr305 _ rfl
                                        have hk351 := hk303
                                        rw [ho350] at hk351
                                        dsimp only [jnO] at hk351
                                        apply hR309
                                        have he := some_inj hk351
                                        subst he
                                        simp only [end_ret1, put_at, put_no, ev_t, ev_c, reduceIte, Nat.reduceEqDiff, List.map_cons, List.map_nil]
                                        exact rfl
                                      · rw [iteF hc348] at hF335
                                        simp only [run_skip, x9_7, run_reg, f343, run_mv, put_at, put_no, ev_t, ev_c, reduceIte, Nat.reduceEqDiff, List.map_cons, List.map_nil]
                                        refine ops_j 2 (fun fr' h' => Sep h' h.length (c6 ++ ([])) ∧ fr' 186 = .bool
                                            (s296 && v333.1) ∧ fr' 3 = v5 ∧ fr' 4 = .bool v14.1 ∧ fr' 25 = .int .i64 s297) (fun Q352 hN353 => ?_) ?_
                                        · simp only [List.take_succ_cons, List.take_zero]
                                          simp only [run_guard (g := 184), put_at, put_no, ev_t, ev_c, reduceIte, Nat.reduceEqDiff, List.map_cons, List.map_nil]
                                          refine guard_split (t := s296) (fun hg354 => ?_) (fun hg354 => ?_)
                                          · simp only [hg354, run_guard (g := 184), guard_true, f345, run_mv, run_pick, put1_some, xpick_t, run_ops_nil, run_nil, put_at, put_no,
                                              ev_t, ev_c, reduceIte, Nat.reduceEqDiff, List.map_cons, List.map_nil]
                                            exact hN353 _ _ ⟨hS347, by rw [andT hg354]; simp only [put_at, put_no, ev_t, ev_c, reduceIte, Nat.reduceEqDiff, List.map_cons,
                                                List.map_nil], by simp only [f341, put_at, put_no, ev_t, ev_c, reduceIte, Nat.reduceEqDiff, List.map_cons, List.map_nil],
                                                by simp only [f342, put_at, put_no, ev_t, ev_c, reduceIte, Nat.reduceEqDiff, List.map_cons, List.map_nil], by simp only [f344,
                                                put_at, put_no, ev_t, ev_c, reduceIte, Nat.reduceEqDiff, List.map_cons, List.map_nil]⟩
                                          · simp only [hg354, run_guard (g := 184), guard_off, run_pick, put1_some, xpick_f, run_ops_nil, run_nil, put_at, put_no, ev_t, ev_c,
                                              reduceIte, Nat.reduceEqDiff, List.map_cons, List.map_nil]
                                            exact hN353 _ _ ⟨hS347, by rw [andF hg354]; simp only [put_at, put_no, ev_t, ev_c, reduceIte, Nat.reduceEqDiff, List.map_cons,
                                                List.map_nil], by simp only [f341, put_at, put_no, ev_t, ev_c, reduceIte, Nat.reduceEqDiff, List.map_cons, List.map_nil],
                                                by simp only [f342, put_at, put_no, ev_t, ev_c, reduceIte, Nat.reduceEqDiff, List.map_cons, List.map_nil], by simp only [f344,
                                                put_at, put_no, ev_t, ev_c, reduceIte, Nat.reduceEqDiff, List.map_cons, List.map_nil]⟩
                                        · rintro fr355 h360 ⟨hS361, f356, f357, f358, f359⟩
                                          simp only [List.drop_succ_cons, List.drop_zero]
                                          simp only [f356, run_mv, run_ops_nil, run_blk, run_reg, f359, run_bin, put1_some, xadd, run_nil, put_at, put_no, ev_t, ev_c, reduceIte,
                                              Nat.reduceEqDiff, List.map_cons, List.map_nil]
                                          have e362 := some_inj hF335
                                          exact hN307 _ _ _ e362.symm ⟨by simp only [f357, put_at, put_no, ev_t, ev_c, reduceIte, Nat.reduceEqDiff, List.map_cons, List.map_nil],
                                              by simp only [f358, put_at, put_no, ev_t, ev_c, reduceIte, Nat.reduceEqDiff, List.map_cons, List.map_nil], by simp only [put_at,
                                              put_no, ev_t, ev_c, reduceIte, Nat.reduceEqDiff, List.map_cons, List.map_nil], by simp only [put_at, put_no, ev_t, ev_c, reduceIte,
                                              Nat.reduceEqDiff, List.map_cons, List.map_nil], hS361⟩
                                  · rw [iteF hc320] at hF304
                                    simp only [run_exit, out_code, out_nil, put_at, put_no, ev_t, ev_c, reduceIte, Nat.reduceEqDiff, List.map_cons, List.map_nil]
                                    have e363 := some_inj hF304
                                    exact hK308 _ _ _ e363.symm ⟨by simp only [f315, put_at, put_no, ev_t, ev_c, reduceIte, Nat.reduceEqDiff, List.map_cons, List.map_nil],
                                        by simp only [f316, put_at, put_no, ev_t, ev_c, reduceIte, Nat.reduceEqDiff, List.map_cons, List.map_nil], by simp only [f317, put_at,
                                        put_no, ev_t, ev_c, reduceIte, Nat.reduceEqDiff, List.map_cons, List.map_nil], by simp only [f318, put_at, put_no, ev_t, ev_c, reduceIte,
                                        Nat.reduceEqDiff, List.map_cons, List.map_nil], hS314⟩
                                · rintro ⟨s365, s366⟩ fr367 h368 rfl ⟨f370, f371, f372, f373, hS369⟩
                                  dsimp only [jnO] at hk303
                                  dsimp only at *
                                  unfold laws_FnLinear_j2 at hk303
                                  simp only [x9_15, run_seq, run_reg, f372, run_mv, f371, run_eqb, put1_some, xeqb_f, run_ops_nil, run_ret, put_at, put_no, ev_t, ev_c, reduceIte,
                                      Nat.reduceEqDiff, List.map_cons, List.map_nil]
                                  have he := some_inj hk303
                                  subst he
                                  simp only [end_ret1, put_at, put_no, ev_t, ev_c, reduceIte, Nat.reduceEqDiff, List.map_cons, List.map_nil]
                                  exact rfl
end Go.Proofs.Ytddkoiapboeemaa.X
