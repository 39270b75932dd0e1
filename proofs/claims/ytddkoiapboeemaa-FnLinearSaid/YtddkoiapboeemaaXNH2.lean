/- The functions' code comes to what the plain functions say (2). -/
import Derived.Test.YtddkoiapboeemaaXNH1
set_option linter.unusedVariables false
set_option linter.unusedSimpArgs false
set_option maxRecDepth 100000
namespace Go.Proofs.Ytddkoiapboeemaa.X
open Go
theorem spec_GoodCalls_x {W : Nat → Bool} {h : Heap} (hW : ∀ b,
    h.length ≤ b → W b = true) (l_0 : List Call) (r : Bool) (hF : spec_GoodCalls l_0 = some r) : Ret E W 40 [lst Call.cells l_0] h
    (fun v h' => cut h.length h' E.sz false 9 v = some (.bool r)) := by
  refine Ret.of (fn := x40) rfl (Run.of ?_)
  unfold spec_GoodCalls at hF
  have zf0 : argFr [lst Call.cells l_0] 0 = lst Call.cells l_0 := rfl
  generalize argFr [lst Call.cells l_0] = fr0 at zf0 ⊢
  have hS : Sep h h.length [] := Sep.nil h
  simp only [x40, run_seq, run_reg, run_mv, run_ops_nil, x40_11, zf0, run_len, put1_some, xlen_lst, put_at, put_no, ev_t, ev_c, reduceIte, Nat.reduceEqDiff, List.map_cons,
      List.map_nil]
  obtain ⟨oc3, hX5, hk6⟩ := jn_some hF
  simp only [x40_9]
  refine rangeL_j (σ := Unit) l_0 (fun i1 x2 _ => spec_GoodCalls_b2 l_0 i1 x2 ) (fun s fr' h' => fr' 0 = lst Call.cells l_0 ∧ fr' 7 = lst Call.cells l_0 ∧ Sep h' h.length
      ([])) hX5 ⟨by simp only [zf0, put_at, put_no, ev_t, ev_c, reduceIte, Nat.reduceEqDiff, List.map_cons, List.map_nil], by simp only [put_at, put_no, ev_t, ev_c, reduceIte,
      Nat.reduceEqDiff, List.map_cons, List.map_nil], hS⟩ (by simp only [put_at, put_no, ev_t, ev_c, reduceIte, Nat.reduceEqDiff, List.map_cons,
      List.map_nil]) (by simp only [put_at, put_no, ev_t, ev_c, reduceIte, Nat.reduceEqDiff, List.map_cons,
      List.map_nil]) (fun _ _ _ h => h) rfl rfl (fun _ _ _ _ h => h) (fun _ _ _ _ h => h) (fun _ _ _ _ h => h) (by decide) ?_ ?_
  · rintro i1 x2 _ fr15 h16 hx20 ⟨f18, f19, hS17⟩ f21 f22 oc4 hF7 hr8 Q9 hN10 hB14 hK11 hR12 hE13
    unfold spec_GoodCalls_b2 at hF7
    simp only [x40_7, run_seq, run_reg, f21, run_mv, f19, run_ia, put_at, put_no, ev_t, ev_c, reduceIte, Nat.reduceEqDiff, List.map_cons, List.map_nil]
    refine put1_eq (v := .ref (Call.cells x2) 0) (xia_lstN hx20 rfl) ?_
    simp only [run_ld, put_at, put_no, ev_t, ev_c, reduceIte, Nat.reduceEqDiff, List.map_cons, List.map_nil]
    refine put1_eq (v := .agg [.int .i64 x2.Client, .int .i64 x2.Object, .bool x2.Write, .int .i64 x2.Value, .int .i64 x2.Begin, .int .i64 x2.End]) rfl ?_
    simp only [run_new, put_at, put_no, ev_t, ev_c, reduceIte, Nat.reduceEqDiff, List.map_cons, List.map_nil]
    refine put2_newC hS17 (fun b23 h24 hS25 => ?_)
    simp only [run_mv, run_st, put_at, put_no, ev_t, ev_c, reduceIte, Nat.reduceEqDiff, List.map_cons, List.map_nil]
    refine put2_stC (cs' := [.int .i64 x2.Client, .int .i64 x2.Object, .bool x2.Write, .int .i64 x2.Value, .int .i64 x2.Begin,
        .int .i64 x2.End]) hS25 hW rfl rfl (Nat.le_of_ble_eq_true rfl) rfl (fun h27 hS28 => ?_)
    simp only [put_no, run_ops_nil, put_at, ev_t, ev_c, reduceIte, Nat.reduceEqDiff, List.map_cons, List.map_nil]
    refine frz_stepC hS28 hW (by simp only [put_at, put_no, ev_t, ev_c, reduceIte, Nat.reduceEqDiff, List.map_cons, List.map_nil]) (fun h29 hS30 => ?_)
    simp only [run_frz_nil, x40_6, run_seq, run_reg, run_ld, put_at, put_no, ev_t, ev_c, reduceIte, Nat.reduceEqDiff, List.map_cons, List.map_nil]
    refine put1_eq (v := .agg [.int .i64 x2.Client, .int .i64 x2.Object, .bool x2.Write, .int .i64 x2.Value, .int .i64 x2.Begin, .int .i64 x2.End]) rfl ?_
    simp only [run_call, put_at, put_no, ev_t, ev_c, reduceIte, Nat.reduceEqDiff, List.map_cons, List.map_nil]
    refine call1 rfl (mapM1 (snap_agg (mapM1 snap_int (mapM1 snap_int (mapM1 snap_bool (mapM1 snap_int (mapM1 snap_int (mapM1 snap_int mapM0))))))) mapM0) (spec_l15Call_x
        (fun b hb => decide_eq_true hb) x2 _ rfl) ?_
    simp only [run_un, put1_some, xnot, run_ops_nil, run_cond, put_at, put_no, ev_t, ev_c, reduceIte, Nat.reduceEqDiff, List.map_cons, List.map_nil]
    refine cond_split (t := (!(spec_l15Call x2))) (fun hc31 => ?_) (fun hc31 => ?_)
    · rw [iteT hc31] at hF7
      simp only [run_seq, run_reg, run_mv, run_ops_nil, run_ret, put_at, put_no, ev_t, ev_c, reduceIte, Nat.reduceEqDiff, List.map_cons, List.map_nil]
      have e32 := some_inj hF7
      subst e32
      have ho33 := hr8 _ rfl
      have hk34 := hk6
      rw [ho33] at hk34
      dsimp only [jnO] at hk34
      apply hR12
      have he := some_inj hk34
      subst he
      simp only [end_ret1, put_at, put_no, ev_t, ev_c, reduceIte, Nat.reduceEqDiff, List.map_cons, List.map_nil]
      exact rfl
    · rw [iteF hc31] at hF7
      obtain ⟨l35, hx36, hF37⟩ := bind_some' hF7
      simp only [run_skip, x40_5, run_seq, run_reg, f18, run_mv, run_slc, Option.map_some, Option.map_none, put_at, put_no, ev_t, ev_c, reduceIte, Nat.reduceEqDiff, List.map_cons,
          List.map_nil]
      refine put1_eq (pslc_lst_hi hx36 (fun _ => rfl)) ?_
      simp only [run_len, put1_some, xlen_lst, run_mv, run_ops_nil, put_at, put_no, ev_t, ev_c, reduceIte, Nat.reduceEqDiff, List.map_cons, List.map_nil]
      obtain ⟨oc40, hX42, hk43⟩ := jn_some hF37
      simp only [x40_4]
      refine rangeL_j (σ := Unit) l35 (fun i38 x39 _ => spec_GoodCalls_b1 x2 i38 x39 ) (fun s fr' h' => fr' 0 = lst Call.cells l_0 ∧ fr' 4 = .ref [.int .i64 x2.Client,
          .int .i64 x2.Object, .bool x2.Write, .int .i64 x2.Value, .int .i64 x2.Begin,
          .int .i64 x2.End] 0 ∧ fr' 7 = lst Call.cells l_0 ∧ fr' 8 = .int .i64 (List.length l_0 : Int) ∧ fr' 9 = .int .i64
          (i1 : Int) ∧ fr' 19 = lst Call.cells l35 ∧ Sep h' h.length ([])) hX42 ⟨by simp only [f18, put_at, put_no, ev_t, ev_c, reduceIte, Nat.reduceEqDiff, List.map_cons,
          List.map_nil], by simp only [put_at, put_no, ev_t, ev_c, reduceIte, Nat.reduceEqDiff, List.map_cons, List.map_nil], by simp only [f19, put_at, put_no, ev_t, ev_c,
          reduceIte, Nat.reduceEqDiff, List.map_cons, List.map_nil], by simp only [f22, put_at, put_no, ev_t, ev_c, reduceIte, Nat.reduceEqDiff, List.map_cons, List.map_nil],
          by simp only [f21, put_at, put_no, ev_t, ev_c, reduceIte, Nat.reduceEqDiff, List.map_cons, List.map_nil], by simp only [put_at, put_no, ev_t, ev_c, reduceIte,
          Nat.reduceEqDiff, List.map_cons, List.map_nil], hS30⟩ (by simp only [put_at, put_no, ev_t, ev_c, reduceIte, Nat.reduceEqDiff, List.map_cons,
          List.map_nil]) (by simp only [put_at, put_no, ev_t, ev_c, reduceIte, Nat.reduceEqDiff, List.map_cons,
          List.map_nil]) (fun _ _ _ h => h) rfl rfl (fun _ _ _ _ h => h) (fun _ _ _ _ h => h) (fun _ _ _ _ h => h) (by decide) ?_ ?_
      · rintro i38 x39 _ fr52 h53 hx61 ⟨f55, f56, f57, f58, f59, f60, hS54⟩ f62 f63 oc41 hF44 hr45 Q46 hN47 hB51 hK48 hR49 hE50
        unfold spec_GoodCalls_b1 at hF44
        simp only [x40_2, run_seq, run_reg, f60, f62, run_ia, put_at, put_no, ev_t, ev_c, reduceIte, Nat.reduceEqDiff, List.map_cons, List.map_nil]
        refine put1_eq (v := .ref (Call.cells x39) 0) (xia_lstN hx61 rfl) ?_
        simp only [run_ld, put_at, put_no, ev_t, ev_c, reduceIte, Nat.reduceEqDiff, List.map_cons, List.map_nil]
        refine put1_eq (v := .agg [.int .i64 x39.Client, .int .i64 x39.Object, .bool x39.Write, .int .i64 x39.Value, .int .i64 x39.Begin, .int .i64 x39.End]) rfl ?_
        simp only [run_new, put_at, put_no, ev_t, ev_c, reduceIte, Nat.reduceEqDiff, List.map_cons, List.map_nil]
        refine put2_newC hS54 (fun b64 h65 hS66 => ?_)
        simp only [run_st, put_at, put_no, ev_t, ev_c, reduceIte, Nat.reduceEqDiff, List.map_cons, List.map_nil]
        refine put2_stC (cs' := [.int .i64 x39.Client, .int .i64 x39.Object, .bool x39.Write, .int .i64 x39.Value, .int .i64 x39.Begin,
            .int .i64 x39.End]) hS66 hW rfl rfl (Nat.le_of_ble_eq_true rfl) rfl (fun h68 hS69 => ?_)
        simp only [put_no, run_ops_nil, put_at, ev_t, ev_c, reduceIte, Nat.reduceEqDiff, List.map_cons, List.map_nil]
        refine frz_stepC hS69 hW (by simp only [put_at, put_no, ev_t, ev_c, reduceIte, Nat.reduceEqDiff, List.map_cons, List.map_nil]) (fun h70 hS71 => ?_)
        simp only [run_frz_nil, x40_1, run_seq, run_reg, run_fa, put1_some, Nat.reduceAdd, Nat.zero_add, Nat.add_zero, xfa_ref, run_ld, put_at, put_no, ev_t, ev_c, reduceIte,
            Nat.reduceEqDiff, List.map_cons, List.map_nil]
        refine put1_eq (v := .int .i64 x39.Client) rfl ?_
        simp only [f56, run_fa, put1_some, Nat.reduceAdd, Nat.zero_add, Nat.add_zero, xfa_ref, run_ld, put_at, put_no, ev_t, ev_c, reduceIte, Nat.reduceEqDiff, List.map_cons,
            List.map_nil]
        refine put1_eq (v := .int .i64 x2.Client) rfl ?_
        simp only [run_bin, put1_some, xeql, run_mv, put_at, put_no, ev_t, ev_c, reduceIte, Nat.reduceEqDiff, List.map_cons, List.map_nil]
        refine ops_j 6 (fun fr' h' => Sep h' h.length ([]) ∧ fr' 36 = .bool ((decide (x39.Client = x2.Client)) && (decide
            (x2.Begin < x39.End))) ∧ fr' 0 = lst Call.cells l_0 ∧ fr' 4 = .ref [.int .i64 x2.Client, .int .i64 x2.Object, .bool x2.Write, .int .i64 x2.Value, .int .i64 x2.Begin,
            .int .i64 x2.End] 0 ∧ fr' 6 = .ref [.int .i64 x39.Client, .int .i64 x39.Object, .bool x39.Write, .int .i64 x39.Value, .int .i64 x39.Begin,
            .int .i64 x39.End] 0 ∧ fr' 7 = lst Call.cells l_0 ∧ fr' 8 = .int .i64 (List.length l_0 : Int) ∧ fr' 9 = .int .i64
            (i1 : Int) ∧ fr' 19 = lst Call.cells l35 ∧ fr' 20 = .int .i64 (List.length l35 : Int) ∧ fr' 21 = .int .i64 (i38 : Int)) (fun Q72 hN73 => ?_) ?_
        · simp only [List.take_succ_cons, List.take_zero]
          simp only [run_guard (g := 30), put_at, put_no, ev_t, ev_c, reduceIte, Nat.reduceEqDiff, List.map_cons, List.map_nil]
          refine guard_split (t := (decide (x39.Client = x2.Client))) (fun hg74 => ?_) (fun hg74 => ?_)
          · simp only [hg74, run_guard (g := 30), guard_true, run_fa, put1_some, Nat.reduceAdd, Nat.zero_add, Nat.add_zero, xfa_ref, run_ld, put_at, put_no, ev_t, ev_c, reduceIte,
              Nat.reduceEqDiff, List.map_cons, List.map_nil]
            refine put1_eq (v := .int .i64 x39.End) rfl ?_
            simp only [hg74, run_guard (g := 30), guard_true, f56, run_fa, put1_some, Nat.reduceAdd, Nat.zero_add, Nat.add_zero, xfa_ref, run_ld, put_at, put_no, ev_t, ev_c,
                reduceIte, Nat.reduceEqDiff, List.map_cons, List.map_nil]
            refine put1_eq (v := .int .i64 x2.Begin) rfl ?_
            simp only [hg74, run_guard (g := 30), guard_true, run_bin, put1_some, xgtr, run_pick, xpick_t, run_ops_nil, run_nil, put_at, put_no, ev_t, ev_c, reduceIte,
                Nat.reduceEqDiff, List.map_cons, List.map_nil]
            exact hN73 _ _ ⟨hS71, by rw [andT hg74]; simp only [put_at, put_no, ev_t, ev_c, reduceIte, Nat.reduceEqDiff, List.map_cons, List.map_nil], by simp only [f55, put_at,
                put_no, ev_t, ev_c, reduceIte, Nat.reduceEqDiff, List.map_cons, List.map_nil], by simp only [f56, put_at, put_no, ev_t, ev_c, reduceIte, Nat.reduceEqDiff,
                List.map_cons, List.map_nil], by simp only [put_at, put_no, ev_t, ev_c, reduceIte, Nat.reduceEqDiff, List.map_cons, List.map_nil], by simp only [f57, put_at,
                put_no, ev_t, ev_c, reduceIte, Nat.reduceEqDiff, List.map_cons, List.map_nil], by simp only [f58, put_at, put_no, ev_t, ev_c, reduceIte, Nat.reduceEqDiff,
                List.map_cons, List.map_nil], by simp only [f59, put_at, put_no, ev_t, ev_c, reduceIte, Nat.reduceEqDiff, List.map_cons, List.map_nil], by simp only [f60, put_at,
                put_no, ev_t, ev_c, reduceIte, Nat.reduceEqDiff, List.map_cons, List.map_nil], by simp only [f63, put_at, put_no, ev_t, ev_c, reduceIte, Nat.reduceEqDiff,
                List.map_cons, List.map_nil], by simp only [f62, put_at, put_no, ev_t, ev_c, reduceIte, Nat.reduceEqDiff, List.map_cons, List.map_nil]⟩
          · simp only [hg74, run_guard (g := 30), guard_off, run_pick, put1_some, xpick_f, run_ops_nil, run_nil, put_at, put_no, ev_t, ev_c, reduceIte, Nat.reduceEqDiff,
              List.map_cons, List.map_nil]
            exact hN73 _ _ ⟨hS71, by rw [andF hg74]; simp only [put_at, put_no, ev_t, ev_c, reduceIte, Nat.reduceEqDiff, List.map_cons, List.map_nil], by simp only [f55, put_at,
                put_no, ev_t, ev_c, reduceIte, Nat.reduceEqDiff, List.map_cons, List.map_nil], by simp only [f56, put_at, put_no, ev_t, ev_c, reduceIte, Nat.reduceEqDiff,
                List.map_cons, List.map_nil], by simp only [put_at, put_no, ev_t, ev_c, reduceIte, Nat.reduceEqDiff, List.map_cons, List.map_nil], by simp only [f57, put_at,
                put_no, ev_t, ev_c, reduceIte, Nat.reduceEqDiff, List.map_cons, List.map_nil], by simp only [f58, put_at, put_no, ev_t, ev_c, reduceIte, Nat.reduceEqDiff,
                List.map_cons, List.map_nil], by simp only [f59, put_at, put_no, ev_t, ev_c, reduceIte, Nat.reduceEqDiff, List.map_cons, List.map_nil], by simp only [f60, put_at,
                put_no, ev_t, ev_c, reduceIte, Nat.reduceEqDiff, List.map_cons, List.map_nil], by simp only [f63, put_at, put_no, ev_t, ev_c, reduceIte, Nat.reduceEqDiff,
                List.map_cons, List.map_nil], by simp only [f62, put_at, put_no, ev_t, ev_c, reduceIte, Nat.reduceEqDiff, List.map_cons, List.map_nil]⟩
        · rintro fr75 h86 ⟨hS87, f76, f77, f78, f79, f80, f81, f82, f83, f84, f85⟩
          simp only [List.drop_succ_cons, List.drop_zero]
          simp only [f76, run_mv, put_at, put_no, ev_t, ev_c, reduceIte, Nat.reduceEqDiff, List.map_cons, List.map_nil]
          refine ops_j 6 (fun fr' h' => Sep h' h.length ([]) ∧ fr' 43 = .bool (((decide (x39.Client = x2.Client)) && (decide (x2.Begin < x39.End))) && (decide
              (x39.Begin < x2.End))) ∧ fr' 0 = lst Call.cells l_0 ∧ fr' 4 = .ref [.int .i64 x2.Client, .int .i64 x2.Object, .bool x2.Write, .int .i64 x2.Value, .int .i64 x2.Begin,
              .int .i64 x2.End] 0 ∧ fr' 7 = lst Call.cells l_0 ∧ fr' 8 = .int .i64 (List.length l_0 : Int) ∧ fr' 9 = .int .i64
              (i1 : Int) ∧ fr' 19 = lst Call.cells l35 ∧ fr' 20 = .int .i64 (List.length l35 : Int) ∧ fr' 21 = .int .i64 (i38 : Int)) (fun Q88 hN89 => ?_) ?_
          · simp only [List.take_succ_cons, List.take_zero]
            simp only [run_guard (g := 37), put_at, put_no, ev_t, ev_c, reduceIte, Nat.reduceEqDiff, List.map_cons, List.map_nil]
            refine guard_split (t := ((decide (x39.Client = x2.Client)) && (decide (x2.Begin < x39.End)))) (fun hg90 => ?_) (fun hg90 => ?_)
            · simp only [hg90, run_guard (g := 37), guard_true, f78, run_fa, put1_some, Nat.reduceAdd, Nat.zero_add, Nat.add_zero, xfa_ref, run_ld, put_at, put_no, ev_t, ev_c,
                reduceIte, Nat.reduceEqDiff, List.map_cons, List.map_nil]
              refine put1_eq (v := .int .i64 x2.End) rfl ?_
              simp only [hg90, run_guard (g := 37), guard_true, f79, run_fa, put1_some, Nat.reduceAdd, Nat.zero_add, Nat.add_zero, xfa_ref, run_ld, put_at, put_no, ev_t, ev_c,
                  reduceIte, Nat.reduceEqDiff, List.map_cons, List.map_nil]
              refine put1_eq (v := .int .i64 x39.Begin) rfl ?_
              simp only [hg90, run_guard (g := 37), guard_true, run_bin, put1_some, xgtr, run_pick, xpick_t, run_ops_nil, run_nil, put_at, put_no, ev_t, ev_c, reduceIte,
                  Nat.reduceEqDiff, List.map_cons, List.map_nil]
              exact hN89 _ _ ⟨hS87, by rw [andT hg90]; simp only [put_at, put_no, ev_t, ev_c, reduceIte, Nat.reduceEqDiff, List.map_cons, List.map_nil], by simp only [f77, put_at,
                  put_no, ev_t, ev_c, reduceIte, Nat.reduceEqDiff, List.map_cons, List.map_nil], by simp only [f78, put_at, put_no, ev_t, ev_c, reduceIte, Nat.reduceEqDiff,
                  List.map_cons, List.map_nil], by simp only [f80, put_at, put_no, ev_t, ev_c, reduceIte, Nat.reduceEqDiff, List.map_cons, List.map_nil], by simp only [f81,
                  put_at, put_no, ev_t, ev_c, reduceIte, Nat.reduceEqDiff, List.map_cons, List.map_nil], by simp only [f82, put_at, put_no, ev_t, ev_c, reduceIte,
                  Nat.reduceEqDiff, List.map_cons, List.map_nil], by simp only [f83, put_at, put_no, ev_t, ev_c, reduceIte, Nat.reduceEqDiff, List.map_cons, List.map_nil],
                  by simp only [f84, put_at, put_no, ev_t, ev_c, reduceIte, Nat.reduceEqDiff, List.map_cons, List.map_nil], by simp only [f85, put_at, put_no, ev_t, ev_c,
                  reduceIte, Nat.reduceEqDiff, List.map_cons, List.map_nil]⟩
            · simp only [hg90, run_guard (g := 37), guard_off, run_pick, put1_some, xpick_f, run_ops_nil, run_nil, put_at, put_no, ev_t, ev_c, reduceIte, Nat.reduceEqDiff,
                List.map_cons, List.map_nil]
              exact hN89 _ _ ⟨hS87, by rw [andF hg90]; simp only [put_at, put_no, ev_t, ev_c, reduceIte, Nat.reduceEqDiff, List.map_cons, List.map_nil], by simp only [f77, put_at,
                  put_no, ev_t, ev_c, reduceIte, Nat.reduceEqDiff, List.map_cons, List.map_nil], by simp only [f78, put_at, put_no, ev_t, ev_c, reduceIte, Nat.reduceEqDiff,
                  List.map_cons, List.map_nil], by simp only [f80, put_at, put_no, ev_t, ev_c, reduceIte, Nat.reduceEqDiff, List.map_cons, List.map_nil], by simp only [f81,
                  put_at, put_no, ev_t, ev_c, reduceIte, Nat.reduceEqDiff, List.map_cons, List.map_nil], by simp only [f82, put_at, put_no, ev_t, ev_c, reduceIte,
                  Nat.reduceEqDiff, List.map_cons, List.map_nil], by simp only [f83, put_at, put_no, ev_t, ev_c, reduceIte, Nat.reduceEqDiff, List.map_cons, List.map_nil],
                  by simp only [f84, put_at, put_no, ev_t, ev_c, reduceIte, Nat.reduceEqDiff, List.map_cons, List.map_nil], by simp only [f85, put_at, put_no, ev_t, ev_c,
                  reduceIte, Nat.reduceEqDiff, List.map_cons, List.map_nil]⟩
          · rintro fr91 h101 ⟨hS102, f92, f93, f94, f95, f96, f97, f98, f99, f100⟩
            simp only [List.drop_succ_cons, List.drop_zero]
            simp only [run_ops_nil, f92, run_cond, put_at, put_no, ev_t, ev_c, reduceIte, Nat.reduceEqDiff, List.map_cons, List.map_nil]
            refine cond_split (t := (((decide (x39.Client = x2.Client)) && (decide (x2.Begin < x39.End))) && (decide (x39.Begin < x2.End)))) (fun hc103 => ?_) (fun hc103 => ?_)
            · rw [iteT hc103] at hF44
              simp only [run_seq, run_reg, run_mv, run_ops_nil, run_ret, put_at, put_no, ev_t, ev_c, reduceIte, Nat.reduceEqDiff, List.map_cons, List.map_nil]
              have e104 := some_inj hF44
              subst e104
              have ho105 := hr45 _ rfl
              have hk106 := hk43
              rw [ho105] at hk106
              dsimp only [jnO] at hk106
              apply hR49
              have e107 := some_inj hk106
              subst e107
              have ho108 := hr8 _ rfl
              have hk109 := hk6
              rw [ho108] at hk109
              dsimp only [jnO] at hk109
              apply hR12
              have he := some_inj hk109
              subst he
              simp only [end_ret1, put_at, put_no, ev_t, ev_c, reduceIte, Nat.reduceEqDiff, List.map_cons, List.map_nil]
              exact rfl
            · rw [iteF hc103] at hF44
              simp only [run_skip, run_nil, put_at, put_no, ev_t, ev_c, reduceIte, Nat.reduceEqDiff, List.map_cons, List.map_nil]
              have e110 := some_inj hF44
              exact hN47 _ _ _ e110.symm ⟨by simp only [f93, put_at, put_no, ev_t, ev_c, reduceIte, Nat.reduceEqDiff, List.map_cons, List.map_nil], by simp only [f94, put_at,
                  put_no, ev_t, ev_c, reduceIte, Nat.reduceEqDiff, List.map_cons, List.map_nil], by simp only [f95, put_at, put_no, ev_t, ev_c, reduceIte, Nat.reduceEqDiff,
                  List.map_cons, List.map_nil], by simp only [f96, put_at, put_no, ev_t, ev_c, reduceIte, Nat.reduceEqDiff, List.map_cons, List.map_nil], by simp only [f97,
                  put_at, put_no, ev_t, ev_c, reduceIte, Nat.reduceEqDiff, List.map_cons, List.map_nil], by simp only [f98, put_at, put_no, ev_t, ev_c, reduceIte,
                  Nat.reduceEqDiff, List.map_cons, List.map_nil], hS102⟩ (by simp only [f100, put_at, put_no, ev_t, ev_c, reduceIte, Nat.reduceEqDiff, List.map_cons,
                  List.map_nil]) (by simp only [f99, put_at, put_no, ev_t, ev_c, reduceIte, Nat.reduceEqDiff, List.map_cons, List.map_nil])
      · rintro _ fr112 h113 rfl ⟨f115, f116, f117, f118, f119, f120, hS114⟩
        dsimp only [jnO] at hk43
        unfold spec_GoodCalls_j1 at hk43
        simp only [run_nil, put_at, put_no, ev_t, ev_c, reduceIte, Nat.reduceEqDiff, List.map_cons, List.map_nil]
        have e121 := some_inj hk43
        exact hN10 _ _ _ e121.symm ⟨by simp only [f115, put_at, put_no, ev_t, ev_c, reduceIte, Nat.reduceEqDiff, List.map_cons, List.map_nil], by simp only [f117, put_at, put_no,
            ev_t, ev_c, reduceIte, Nat.reduceEqDiff, List.map_cons, List.map_nil], hS114⟩ (by simp only [f119, put_at, put_no, ev_t, ev_c, reduceIte, Nat.reduceEqDiff,
            List.map_cons, List.map_nil]) (by simp only [f118, put_at, put_no, ev_t, ev_c, reduceIte, Nat.reduceEqDiff, List.map_cons, List.map_nil])
  · rintro _ fr124 h125 rfl ⟨f127, f128, hS126⟩
    dsimp only [jnO] at hk6
    unfold spec_GoodCalls_j2 at hk6
    simp only [x40_10, run_seq, run_reg, f127, run_mv, run_len, put1_some, xlen_lst, run_bin, xleq, run_ops_nil, run_ret, put_at, put_no, ev_t, ev_c, reduceIte, Nat.reduceEqDiff,
        List.map_cons, List.map_nil]
    have he := some_inj hk6
    subst he
    simp only [end_ret1, put_at, put_no, ev_t, ev_c, reduceIte, Nat.reduceEqDiff, List.map_cons, List.map_nil]
    exact rfl
theorem spec_l15Before_x {W : Nat → Bool} {h : Heap} (hW : ∀ b,
    h.length ≤ b → W b = true) (a_0 : Call) (b_1 : Call) (clients_2 : Bool) (r : Bool) (hF : spec_l15Before a_0 b_1 clients_2 = some r) : Ret E W 53 [.agg [.int .i64 a_0.Client,
    .int .i64 a_0.Object, .bool a_0.Write, .int .i64 a_0.Value, .int .i64 a_0.Begin, .int .i64 a_0.End], .agg [.int .i64 b_1.Client, .int .i64 b_1.Object, .bool b_1.Write,
    .int .i64 b_1.Value, .int .i64 b_1.Begin, .int .i64 b_1.End], .bool clients_2] h (fun v h' => cut h.length h' E.sz false 9 v = some (.bool r)) := by
  refine Ret.of (fn := x53) rfl (Run.of ?_)
  unfold spec_l15Before at hF
  have zf0 : argFr [.agg [.int .i64 a_0.Client, .int .i64 a_0.Object, .bool a_0.Write, .int .i64 a_0.Value, .int .i64 a_0.Begin, .int .i64 a_0.End], .agg [.int .i64 b_1.Client,
      .int .i64 b_1.Object, .bool b_1.Write, .int .i64 b_1.Value, .int .i64 b_1.Begin, .int .i64 b_1.End], .bool clients_2] 0 = .agg [.int .i64 a_0.Client, .int .i64 a_0.Object,
      .bool a_0.Write, .int .i64 a_0.Value, .int .i64 a_0.Begin, .int .i64 a_0.End] := rfl
  have zf1 : argFr [.agg [.int .i64 a_0.Client, .int .i64 a_0.Object, .bool a_0.Write, .int .i64 a_0.Value, .int .i64 a_0.Begin, .int .i64 a_0.End], .agg [.int .i64 b_1.Client,
      .int .i64 b_1.Object, .bool b_1.Write, .int .i64 b_1.Value, .int .i64 b_1.Begin, .int .i64 b_1.End], .bool clients_2] 1 = .agg [.int .i64 b_1.Client, .int .i64 b_1.Object,
      .bool b_1.Write, .int .i64 b_1.Value, .int .i64 b_1.Begin, .int .i64 b_1.End] := rfl
  have zf2 : argFr [.agg [.int .i64 a_0.Client, .int .i64 a_0.Object, .bool a_0.Write, .int .i64 a_0.Value, .int .i64 a_0.Begin, .int .i64 a_0.End], .agg [.int .i64 b_1.Client,
      .int .i64 b_1.Object, .bool b_1.Write, .int .i64 b_1.Value, .int .i64 b_1.Begin, .int .i64 b_1.End], .bool clients_2] 2 = .bool clients_2 := rfl
  generalize argFr [.agg [.int .i64 a_0.Client, .int .i64 a_0.Object, .bool a_0.Write, .int .i64 a_0.Value, .int .i64 a_0.Begin, .int .i64 a_0.End], .agg [.int .i64 b_1.Client,
      .int .i64 b_1.Object, .bool b_1.Write, .int .i64 b_1.Value, .int .i64 b_1.Begin, .int .i64 b_1.End], .bool clients_2] = fr0 at zf0 zf1 zf2 ⊢
  have hS : Sep h h.length [] := Sep.nil h
  simp only [x53, run_seq, run_reg, run_box, zf0, put_at, put_no, ev_t, ev_c, reduceIte, Nat.reduceEqDiff, List.map_cons, List.map_nil]
  refine put2_boxC (cs := [.int .i64 a_0.Client, .int .i64 a_0.Object, .bool a_0.Write, .int .i64 a_0.Value, .int .i64 a_0.Begin,
      .int .i64 a_0.End]) hS rfl rfl rfl (fun b1 h2 hS3 => ?_)
  simp only [run_box, zf1, put_at, put_no, ev_t, ev_c, reduceIte, Nat.reduceEqDiff, List.map_cons, List.map_nil]
  refine put2_boxC (cs := [.int .i64 b_1.Client, .int .i64 b_1.Object, .bool b_1.Write, .int .i64 b_1.Value, .int .i64 b_1.Begin,
      .int .i64 b_1.End]) hS3 rfl rfl rfl (fun b5 h6 hS7 => ?_)
  simp only [run_mv, run_ops_nil, put_at, put_no, ev_t, ev_c, reduceIte, Nat.reduceEqDiff, List.map_cons, List.map_nil]
  refine frz_stepC (Sep.m1 hS7) hW (by simp only [put_at, put_no, ev_t, ev_c, reduceIte, Nat.reduceEqDiff, List.map_cons, List.map_nil]) (fun h9 hS10 => ?_)
  refine frz_stepC hS10 hW (by simp only [put_at, put_no, ev_t, ev_c, reduceIte, Nat.reduceEqDiff, List.map_cons, List.map_nil]) (fun h11 hS12 => ?_)
  simp only [run_frz_nil, x53_4, run_seq, run_reg, zf2, run_mv, run_ops_nil, x53_2, run_cond, put_at, put_no, ev_t, ev_c, reduceIte, Nat.reduceEqDiff, List.map_cons, List.map_nil]
  refine cond_split (t := clients_2) (fun hc13 => ?_) (fun hc13 => ?_)
  · rw [iteT hc13] at hF
    simp only [x53_1, run_seq, run_reg, run_fa, put1_some, Nat.reduceAdd, Nat.zero_add, Nat.add_zero, xfa_ref, run_ld, put_at, put_no, ev_t, ev_c, reduceIte, Nat.reduceEqDiff,
        List.map_cons, List.map_nil]
    refine put1_eq (v := .int .i64 a_0.Client) rfl ?_
    simp only [run_fa, put1_some, Nat.reduceAdd, Nat.zero_add, Nat.add_zero, xfa_ref, run_ld, put_at, put_no, ev_t, ev_c, reduceIte, Nat.reduceEqDiff, List.map_cons, List.map_nil]
    refine put1_eq (v := .int .i64 b_1.Client) rfl ?_
    simp only [run_bin, put1_some, xeql, run_mv, put_at, put_no, ev_t, ev_c, reduceIte, Nat.reduceEqDiff, List.map_cons, List.map_nil]
    refine ops_j 6 (fun fr' h' => Sep h' h.length ([]) ∧ fr' 19 = .bool ((decide (a_0.Client = b_1.Client)) && (decide (a_0.Begin < b_1.Begin)))) (fun Q14 hN15 => ?_) ?_
    · simp only [List.take_succ_cons, List.take_zero]
      simp only [run_guard (g := 13), put_at, put_no, ev_t, ev_c, reduceIte, Nat.reduceEqDiff, List.map_cons, List.map_nil]
      refine guard_split (t := (decide (a_0.Client = b_1.Client))) (fun hg16 => ?_) (fun hg16 => ?_)
      · simp only [hg16, run_guard (g := 13), guard_true, run_fa, put1_some, Nat.reduceAdd, Nat.zero_add, Nat.add_zero, xfa_ref, run_ld, put_at, put_no, ev_t, ev_c, reduceIte,
          Nat.reduceEqDiff, List.map_cons, List.map_nil]
        refine put1_eq (v := .int .i64 a_0.Begin) rfl ?_
        simp only [hg16, run_guard (g := 13), guard_true, run_fa, put1_some, Nat.reduceAdd, Nat.zero_add, Nat.add_zero, xfa_ref, run_ld, put_at, put_no, ev_t, ev_c, reduceIte,
            Nat.reduceEqDiff, List.map_cons, List.map_nil]
        refine put1_eq (v := .int .i64 b_1.Begin) rfl ?_
        simp only [hg16, run_guard (g := 13), guard_true, run_bin, put1_some, xlss, run_pick, xpick_t, run_ops_nil, run_nil, put_at, put_no, ev_t, ev_c, reduceIte,
            Nat.reduceEqDiff, List.map_cons, List.map_nil]
        exact hN15 _ _ ⟨hS12, by rw [andT hg16]; simp only [put_at, put_no, ev_t, ev_c, reduceIte, Nat.reduceEqDiff, List.map_cons, List.map_nil]⟩
      · simp only [hg16, run_guard (g := 13), guard_off, run_pick, put1_some, xpick_f, run_ops_nil, run_nil, put_at, put_no, ev_t, ev_c, reduceIte, Nat.reduceEqDiff,
          List.map_cons, List.map_nil]
        exact hN15 _ _ ⟨hS12, by rw [andF hg16]; simp only [put_at, put_no, ev_t, ev_c, reduceIte, Nat.reduceEqDiff, List.map_cons, List.map_nil]⟩
    · rintro fr17 h19 ⟨hS20, f18⟩
      simp only [List.drop_succ_cons, List.drop_zero]
      simp only [f18, run_mv, run_ops_nil, run_ret, put_at, put_no, ev_t, ev_c, reduceIte, Nat.reduceEqDiff, List.map_cons, List.map_nil]
      have he := some_inj hF
      subst he
      simp only [end_ret1, put_at, put_no, ev_t, ev_c, reduceIte, Nat.reduceEqDiff, List.map_cons, List.map_nil]
      exact rfl
  · rw [iteF hc13] at hF
    simp only [run_skip, x53_3, run_seq, run_reg, run_fa, put1_some, Nat.reduceAdd, Nat.zero_add, Nat.add_zero, xfa_ref, run_ld, put_at, put_no, ev_t, ev_c, reduceIte,
        Nat.reduceEqDiff, List.map_cons, List.map_nil]
    refine put1_eq (v := .int .i64 a_0.End) rfl ?_
    simp only [run_fa, put1_some, Nat.reduceAdd, Nat.zero_add, Nat.add_zero, xfa_ref, run_ld, put_at, put_no, ev_t, ev_c, reduceIte, Nat.reduceEqDiff, List.map_cons, List.map_nil]
    refine put1_eq (v := .int .i64 b_1.Begin) rfl ?_
    simp only [run_bin, put1_some, xleq, run_mv, run_ops_nil, run_ret, put_at, put_no, ev_t, ev_c, reduceIte, Nat.reduceEqDiff, List.map_cons, List.map_nil]
    have he := some_inj hF
    subst he
    simp only [end_ret1, put_at, put_no, ev_t, ev_c, reduceIte, Nat.reduceEqDiff, List.map_cons, List.map_nil]
    exact rfl
theorem spec_l15Legal_x {W : Nat → Bool} {h : Heap} (hW : ∀ b,
    h.length ≤ b → W b = true) (l_0 : List Call) (order_1 : List Int) (r : Bool) (hF : spec_l15Legal l_0 order_1 = some r) : Ret E W 57 [lst Call.cells l_0,
    lst cI order_1] h (fun v h' => cut h.length h' E.sz false 9 v = some (.bool r)) := by
  refine Ret.of (fn := x57) rfl (Run.of ?_)
  unfold spec_l15Legal at hF
  have zf0 : argFr [lst Call.cells l_0, lst cI order_1] 0 = lst Call.cells l_0 := rfl
  have zf1 : argFr [lst Call.cells l_0, lst cI order_1] 1 = lst cI order_1 := rfl
  generalize argFr [lst Call.cells l_0, lst cI order_1] = fr0 at zf0 zf1 ⊢
  have hS : Sep h h.length [] := Sep.nil h
  obtain ⟨l1, hx2, hF3⟩ := bind_some' hF
  simp only [x57, run_seq, run_reg, run_mv, run_ops_nil, x57_10, run_mkS, put_at, put_no, ev_t, ev_c, reduceIte, Nat.reduceEqDiff, List.map_cons, List.map_nil]
  refine put2_mkSF (f := cI) (z := (0 : Int)) hS hx2 rfl (fun v4 c5 h6 hv7 hS8 => ?_)
  simp only [run_mv, run_ops_nil, x57_9, run_seq, run_reg, zf1, run_len, put1_some, xlen_lst, put_at, put_no, ev_t, ev_c, reduceIte, Nat.reduceEqDiff, List.map_cons, List.map_nil]
  obtain ⟨oc18, hX20, hk21⟩ := jn_some hF3
  simp only [x57_8]
  refine rangeL_j (σ := (List Int)) order_1 (fun i16 x17 s72 => spec_l15Legal_b1 l_0 i16 x17 s72) (fun s fr' h' => ∃ c14,
      fr' 0 = lst Call.cells l_0 ∧ fr' 5 = v4 ∧ fr' 10 = lst cI order_1 ∧ SlF cI 1 3 v4 s c14 ∧ Sep h' h.length (c14 ++ ([]))) hX20 ⟨c5, by simp only [zf0, put_at, put_no, ev_t,
      ev_c, reduceIte, Nat.reduceEqDiff, List.map_cons, List.map_nil], by simp only [put_at, put_no, ev_t, ev_c, reduceIte, Nat.reduceEqDiff, List.map_cons, List.map_nil],
      by simp only [put_at, put_no, ev_t, ev_c, reduceIte, Nat.reduceEqDiff, List.map_cons, List.map_nil], hv7, hS8⟩ (by simp only [put_at, put_no, ev_t, ev_c, reduceIte,
      Nat.reduceEqDiff, List.map_cons, List.map_nil]) (by simp only [put_at, put_no, ev_t, ev_c, reduceIte, Nat.reduceEqDiff, List.map_cons,
      List.map_nil]) (fun _ _ _ h => h) rfl rfl (fun _ _ _ _ h => h) (fun _ _ _ _ h => h) (fun _ _ _ _ h => h) (by decide) ?_ ?_
  · rintro i16 x17 s13 fr30 h31 hx36 ⟨c14, f33, f34, f35, hv15, hS32⟩ f37 f38 oc19 hF22 hr23 Q24 hN25 hB29 hK26 hR27 hE28
    unfold spec_l15Legal_b1 at hF22
    simp only [x57_6, run_seq, run_reg, f35, f37, run_ia, put_at, put_no, ev_t, ev_c, reduceIte, Nat.reduceEqDiff, List.map_cons, List.map_nil]
    refine put1_eq (v := .ref (cI x17) 0) (xia_lstN hx36 rfl) ?_
    simp only [run_ld, put_at, put_no, ev_t, ev_c, reduceIte, Nat.reduceEqDiff, List.map_cons, List.map_nil]
    refine put1_eq (v := .int .i64 x17) rfl ?_
    obtain ⟨x39, hx40, hF41⟩ := bind_some' hF22
    simp only [run_mv, run_ops_nil, x57_5, run_seq, run_reg, f33, run_ia, put_at, put_no, ev_t, ev_c, reduceIte, Nat.reduceEqDiff, List.map_cons, List.map_nil]
    refine put1_eq (v := .ref (Call.cells x39) 0) (xia_lst hx40 rfl) ?_
    simp only [run_ld, put_at, put_no, ev_t, ev_c, reduceIte, Nat.reduceEqDiff, List.map_cons, List.map_nil]
    refine put1_eq (v := .agg [.int .i64 x39.Client, .int .i64 x39.Object, .bool x39.Write, .int .i64 x39.Value, .int .i64 x39.Begin, .int .i64 x39.End]) rfl ?_
    simp only [run_new, put_at, put_no, ev_t, ev_c, reduceIte, Nat.reduceEqDiff, List.map_cons, List.map_nil]
    refine put2_newC hS32 (fun b42 h43 hS44 => ?_)
    simp only [run_st, put_at, put_no, ev_t, ev_c, reduceIte, Nat.reduceEqDiff, List.map_cons, List.map_nil]
    refine put2_stC (cs' := [.int .i64 x39.Client, .int .i64 x39.Object, .bool x39.Write, .int .i64 x39.Value, .int .i64 x39.Begin,
        .int .i64 x39.End]) hS44 hW rfl rfl (Nat.le_of_ble_eq_true rfl) rfl (fun h46 hS47 => ?_)
    simp only [put_no, run_ops_nil, put_at, ev_t, ev_c, reduceIte, Nat.reduceEqDiff, List.map_cons, List.map_nil]
    refine frz_stepC hS47 hW (by simp only [put_at, put_no, ev_t, ev_c, reduceIte, Nat.reduceEqDiff, List.map_cons, List.map_nil]) (fun h48 hS49 => ?_)
    simp only [run_frz_nil, x57_4, run_seq, run_reg, run_fa, put1_some, Nat.reduceAdd, Nat.zero_add, Nat.add_zero, xfa_ref, run_ld, put_at, put_no, ev_t, ev_c, reduceIte,
        Nat.reduceEqDiff, List.map_cons, List.map_nil]
    refine put1_eq (v := .bool x39.Write) rfl ?_
    simp only [run_ops_nil, x57_3, run_cond, put_at, put_no, ev_t, ev_c, reduceIte, Nat.reduceEqDiff, List.map_cons, List.map_nil]
    refine cond_split (t := x39.Write) (fun hc50 => ?_) (fun hc50 => ?_)
    · rw [iteT hc50] at hF41
      simp only [x57_1, run_reg, f34, run_mv, run_fa, put1_some, Nat.reduceAdd, Nat.zero_add, Nat.add_zero, xfa_ref, run_ld, put_at, put_no, ev_t, ev_c, reduceIte,
          Nat.reduceEqDiff, List.map_cons, List.map_nil]
      refine put1_eq (v := .int .i64 x39.Object) rfl ?_
      simp only [run_fa, put1_some, Nat.reduceAdd, Nat.zero_add, Nat.add_zero, xfa_ref, run_ld, put_at, put_no, ev_t, ev_c, reduceIte, Nat.reduceEqDiff, List.map_cons,
          List.map_nil]
      refine put1_eq (v := .int .i64 x39.Value) rfl ?_
      obtain ⟨x51, hx52, hF53⟩ := bind_some' hF41
      simp only [run_ia, put_at, put_no, ev_t, ev_c, reduceIte, Nat.reduceEqDiff, List.map_cons, List.map_nil]
      obtain ⟨b54, hb55⟩ := SlF.isrow hv15 (geti_ne hx52)
      refine put1_eq (SlF.ia hv15 hb55 hx52) ?_
      simp only [run_st, put_at, put_no, ev_t, ev_c, reduceIte, Nat.reduceEqDiff, List.map_cons, List.map_nil]
      refine put2_stF (f := cI) (x' := x39.Value) (o := 0) hv15 hS49 hW hb55 hx52 (fun _ => rfl) rfl rfl (Nat.le_of_ble_eq_true rfl) rfl (fun c58 h56 hv59 hS57 => ?_)
      have hx60 := geti_set (x' := x39.Value) hx52
      simp only [put_no, run_ops_nil, run_nil, put_at, ev_t, ev_c, reduceIte, Nat.reduceEqDiff, List.map_cons, List.map_nil]
      have e61 := some_inj hF53
      exact hN25 _ _ _ e61.symm ⟨c58, by simp only [f33, put_at, put_no, ev_t, ev_c, reduceIte, Nat.reduceEqDiff, List.map_cons, List.map_nil], by simp only [f34, put_at, put_no,
          ev_t, ev_c, reduceIte, Nat.reduceEqDiff, List.map_cons, List.map_nil], by simp only [f35, put_at, put_no, ev_t, ev_c, reduceIte, Nat.reduceEqDiff, List.map_cons,
          List.map_nil], hv59, hS57⟩ (by simp only [f37, put_at, put_no, ev_t, ev_c, reduceIte, Nat.reduceEqDiff, List.map_cons, List.map_nil]) (by simp only [f38, put_at, put_no,
          ev_t, ev_c, reduceIte, Nat.reduceEqDiff, List.map_cons, List.map_nil])
    · rw [iteF hc50] at hF41
      simp only [x57_2, run_seq, run_draw, f34, d4_mv, put1d_some, d4_fa, Nat.reduceAdd, Nat.zero_add, Nat.add_zero, xfa_ref, d4_ld, put_at, put_no, ev_t, ev_c, reduceIte,
          Nat.reduceEqDiff, List.map_cons, List.map_nil]
      refine put1d_eq (v := .int .i64 x39.Object) rfl ?_
      obtain ⟨x62, hx63, hF64⟩ := bind_some' hF41
      simp only [d4_ia, put_at, put_no, ev_t, ev_c, reduceIte, Nat.reduceEqDiff, List.map_cons, List.map_nil]
      obtain ⟨b65, hb66⟩ := SlF.isrow hv15 (geti_ne hx63)
      refine put1d_eq (SlF.ia hv15 hb66 hx63) ?_
      simp only [d4_ld, put_at, put_no, ev_t, ev_c, reduceIte, Nat.reduceEqDiff, List.map_cons, List.map_nil]
      refine put1d_eq (v := .int .i64 x62) ((SlF.ld (o := 0) hv15 hS49 hb66 hx63 (fun _ => rfl) (Nat.le_of_ble_eq_true rfl)).trans rfl) ?_
      simp only [d4_fa, put1d_some, Nat.reduceAdd, Nat.zero_add, Nat.add_zero, xfa_ref, d4_ld, put_at, put_no, ev_t, ev_c, reduceIte, Nat.reduceEqDiff, List.map_cons, List.map_nil]
      refine put1d_eq (v := .int .i64 x39.Value) rfl ?_
      simp only [d4_bin, put1d_some, xneq, run_draw_nil, run_cond, put_at, put_no, ev_t, ev_c, reduceIte, Nat.reduceEqDiff, List.map_cons, List.map_nil]
      refine cond_split (t := (decide (x62 ≠ x39.Value))) (fun hc67 => ?_) (fun hc67 => ?_)
      · rw [iteT hc67] at hF64
        simp only [run_seq, run_reg, run_mv, run_ops_nil, run_ret, put_at, put_no, ev_t, ev_c, reduceIte, Nat.reduceEqDiff, List.map_cons, List.map_nil]
        have e68 := some_inj hF64
        subst e68
        have ho69 := hr23 _ rfl
        have hk70 := hk21
        rw [ho69] at hk70
        dsimp only [jnO] at hk70
        apply hR27
        have he := some_inj hk70
        subst he
        simp only [end_ret1, put_at, put_no, ev_t, ev_c, reduceIte, Nat.reduceEqDiff, List.map_cons, List.map_nil]
        exact rfl
      · rw [iteF hc67] at hF64
        simp only [run_skip, run_nil, put_at, put_no, ev_t, ev_c, reduceIte, Nat.reduceEqDiff, List.map_cons, List.map_nil]
        have e71 := some_inj hF64
        exact hN25 _ _ _ e71.symm ⟨c14, by simp only [f33, put_at, put_no, ev_t, ev_c, reduceIte, Nat.reduceEqDiff, List.map_cons, List.map_nil], by simp only [f34, put_at,
            put_no, ev_t, ev_c, reduceIte, Nat.reduceEqDiff, List.map_cons, List.map_nil], by simp only [f35, put_at, put_no, ev_t, ev_c, reduceIte, Nat.reduceEqDiff,
            List.map_cons, List.map_nil], hv15, hS49⟩ (by simp only [f37, put_at, put_no, ev_t, ev_c, reduceIte, Nat.reduceEqDiff, List.map_cons,
            List.map_nil]) (by simp only [f38, put_at, put_no, ev_t, ev_c, reduceIte, Nat.reduceEqDiff, List.map_cons, List.map_nil])
  · rintro s73 fr76 h77 rfl ⟨c74, f79, f80, f81, hv75, hS78⟩
    dsimp only [jnO] at hk21
    unfold spec_l15Legal_j1 at hk21
    simp only [run_seq, run_reg, run_mv, run_ops_nil, run_ret, put_at, put_no, ev_t, ev_c, reduceIte, Nat.reduceEqDiff, List.map_cons, List.map_nil]
    have he := some_inj hk21
    subst he
    simp only [end_ret1, put_at, put_no, ev_t, ev_c, reduceIte, Nat.reduceEqDiff, List.map_cons, List.map_nil]
    exact rfl
theorem spec_l1Has_x {W : Nat → Bool} {h : Heap} (hW : ∀ b,
    h.length ≤ b → W b = true) (l_0 : List Int) (n_1 : Int) (r : Bool) (hF : spec_l1Has l_0 n_1 = some r) : Ret E W 66 [lst cI l_0,
    .int .i64 n_1] h (fun v h' => cut h.length h' E.sz false 9 v = some (.bool r)) := by
  refine Ret.of (fn := x66) rfl (Run.of ?_)
  unfold spec_l1Has at hF
  have zf0 : argFr [lst cI l_0, .int .i64 n_1] 0 = lst cI l_0 := rfl
  have zf1 : argFr [lst cI l_0, .int .i64 n_1] 1 = .int .i64 n_1 := rfl
  generalize argFr [lst cI l_0, .int .i64 n_1] = fr0 at zf0 zf1 ⊢
  have hS : Sep h h.length [] := Sep.nil h
  simp only [x66, run_seq, run_reg, run_mv, run_ops_nil, x66_5, zf0, run_len, put1_some, xlen_lst, put_at, put_no, ev_t, ev_c, reduceIte, Nat.reduceEqDiff, List.map_cons,
      List.map_nil]
  obtain ⟨oc3, hX5, hk6⟩ := jn_some hF
  simp only [x66_4]
  refine rangeL_j (σ := Unit) l_0 (fun i1 x2 _ => spec_l1Has_b1 n_1 i1 x2 ) (fun s fr' h' => fr' 1 = .int .i64 n_1 ∧ fr' 7 = lst cI l_0 ∧ Sep h' h.length
      ([])) hX5 ⟨by simp only [zf1, put_at, put_no, ev_t, ev_c, reduceIte, Nat.reduceEqDiff, List.map_cons, List.map_nil], by simp only [put_at, put_no, ev_t, ev_c, reduceIte,
      Nat.reduceEqDiff, List.map_cons, List.map_nil], hS⟩ (by simp only [put_at, put_no, ev_t, ev_c, reduceIte, Nat.reduceEqDiff, List.map_cons,
      List.map_nil]) (by simp only [put_at, put_no, ev_t, ev_c, reduceIte, Nat.reduceEqDiff, List.map_cons,
      List.map_nil]) (fun _ _ _ h => h) rfl rfl (fun _ _ _ _ h => h) (fun _ _ _ _ h => h) (fun _ _ _ _ h => h) (by decide) ?_ ?_
  · rintro i1 x2 _ fr15 h16 hx20 ⟨f18, f19, hS17⟩ f21 f22 oc4 hF7 hr8 Q9 hN10 hB14 hK11 hR12 hE13
    unfold spec_l1Has_b1 at hF7
    simp only [x66_2, run_seq, run_reg, f19, f21, run_ia, put_at, put_no, ev_t, ev_c, reduceIte, Nat.reduceEqDiff, List.map_cons, List.map_nil]
    refine put1_eq (v := .ref (cI x2) 0) (xia_lstN hx20 rfl) ?_
    simp only [run_ld, put_at, put_no, ev_t, ev_c, reduceIte, Nat.reduceEqDiff, List.map_cons, List.map_nil]
    refine put1_eq (v := .int .i64 x2) rfl ?_
    simp only [run_mv, run_ops_nil, x66_1, run_seq, run_reg, f18, run_bin, put1_some, xeql, run_cond, put_at, put_no, ev_t, ev_c, reduceIte, Nat.reduceEqDiff, List.map_cons,
        List.map_nil]
    refine cond_split (t := (decide (x2 = n_1))) (fun hc23 => ?_) (fun hc23 => ?_)
    · rw [iteT hc23] at hF7
      simp only [run_seq, run_reg, run_mv, run_ops_nil, run_ret, put_at, put_no, ev_t, ev_c, reduceIte, Nat.reduceEqDiff, List.map_cons, List.map_nil]
      have e24 := some_inj hF7
      subst e24
      have ho25 := hr8 _ rfl
      have hk26 := hk6
      rw [ho25] at hk26
      dsimp only [jnO] at hk26
      apply hR12
      have he := some_inj hk26
      subst he
      simp only [end_ret1, put_at, put_no, ev_t, ev_c, reduceIte, Nat.reduceEqDiff, List.map_cons, List.map_nil]
      exact rfl
    · rw [iteF hc23] at hF7
      simp only [run_skip, run_nil, put_at, put_no, ev_t, ev_c, reduceIte, Nat.reduceEqDiff, List.map_cons, List.map_nil]
      have e27 := some_inj hF7
      exact hN10 _ _ _ e27.symm ⟨by simp only [f18, put_at, put_no, ev_t, ev_c, reduceIte, Nat.reduceEqDiff, List.map_cons, List.map_nil], by simp only [f19, put_at, put_no, ev_t,
          ev_c, reduceIte, Nat.reduceEqDiff, List.map_cons, List.map_nil], hS17⟩ (by simp only [f21, put_at, put_no, ev_t, ev_c, reduceIte, Nat.reduceEqDiff, List.map_cons,
          List.map_nil]) (by simp only [f22, put_at, put_no, ev_t, ev_c, reduceIte, Nat.reduceEqDiff, List.map_cons, List.map_nil])
  · rintro _ fr29 h30 rfl ⟨f32, f33, hS31⟩
    dsimp only [jnO] at hk6
    unfold spec_l1Has_j1 at hk6
    simp only [run_seq, run_reg, run_mv, run_ops_nil, run_ret, put_at, put_no, ev_t, ev_c, reduceIte, Nat.reduceEqDiff, List.map_cons, List.map_nil]
    have he := some_inj hk6
    subst he
    simp only [end_ret1, put_at, put_no, ev_t, ev_c, reduceIte, Nat.reduceEqDiff, List.map_cons, List.map_nil]
    exact rfl
end Go.Proofs.Ytddkoiapboeemaa.X
namespace Go.Proofs.Ytddkoiapboeemaa.X
open Go
theorem spec_l15Find_rec_x (rec : (List Call) → (List Int) → Bool → Option (List Int)) (hrec : ∀ {W : Nat → Bool} {h : Heap} {lo : Nat} {S0 : List Obj} (hW : ∀ b,
    lo ≤ b → W b = true) (v_0 : List Call) (pv1 : XV) (pc1 : List Obj) (v_1 : List Int) (ph1 : SlF cI 1 3 pv1 v_1 pc1) (v_2 : Bool) (r : List Int) (hF : rec v_0 v_1 v_2 = some r)
    (hS : Sep h lo (pc1 ++ (S0))), Ret E W 48 [lst Call.cells v_0, pv1, .bool v_2] h (fun v h' => ∃ rv0 rc0,
    v = rv0 ∧ SlF cI 1 3 rv0 r rc0 ∧ Sep h' lo (rc0 ++ (S0)))) {W : Nat → Bool} {h : Heap} {lo : Nat} {S0 : List Obj} (hW : ∀ b,
    lo ≤ b → W b = true) (v_0 : List Call) (pv1 : XV) (pc1 : List Obj) (v_1 : List Int) (ph1 : SlF cI 1 3 pv1 v_1 pc1) (v_2 : Bool) (r : List Int)
    (hF : spec_l15Find_rec rec v_0 v_1 v_2 = some r) (hS : Sep h lo (pc1 ++ (S0))) : Ret E W 48 [lst Call.cells v_0, pv1, .bool v_2] h (fun v h' => ∃ rv0 rc0,
    v = rv0 ∧ SlF cI 1 3 rv0 r rc0 ∧ Sep h' lo (rc0 ++ (S0))) := by
  refine Ret.of (fn := x48) rfl (Run.of ?_)
  unfold spec_l15Find_rec at hF
  have zf0 : argFr [lst Call.cells v_0, pv1, .bool v_2] 0 = lst Call.cells v_0 := rfl
  have zf1 : argFr [lst Call.cells v_0, pv1, .bool v_2] 1 = pv1 := rfl
  have zf2 : argFr [lst Call.cells v_0, pv1, .bool v_2] 2 = .bool v_2 := rfl
  generalize argFr [lst Call.cells v_0, pv1, .bool v_2] = fr0 at zf0 zf1 zf2 ⊢
  obtain ⟨v1, hx2, hF3⟩ := bind_some' hF
  simp only [x48, run_seq, run_reg, run_mv, run_ops_nil, x48_17, zf0, zf1, run_call, put_at, put_no, ev_t, ev_c, reduceIte, Nat.reduceEqDiff, List.map_cons, List.map_nil]
  refine call1 rfl (mapM1 snap_lst (mapM1 (SlF.snap ph1 hS rfl (fun _ => rfl) (fun _ => rfl)) mapM0)) (spec_l15Legal_x (fun b hb => decide_eq_true hb) v_0 v_1 v1 hx2) ?_
  simp only [run_un, put1_some, xnot, run_ops_nil, run_cond, put_at, put_no, ev_t, ev_c, reduceIte, Nat.reduceEqDiff, List.map_cons, List.map_nil]
  refine cond_split (t := (!v1)) (fun hc4 => ?_) (fun hc4 => ?_)
  · rw [iteT hc4] at hF3
    simp only [run_seq, run_reg, run_mv, run_ops_nil, run_ret, put_at, put_no, ev_t, ev_c, reduceIte, Nat.reduceEqDiff, List.map_cons, List.map_nil]
    have he := some_inj hF3
    subst he
    simp only [end_ret1, put_at, put_no, ev_t, ev_c, reduceIte, Nat.reduceEqDiff, List.map_cons, List.map_nil]
    exact ⟨.nil, [], by first | trivial | rfl, SlF.nil, (Sep.dc (hS))⟩
  · rw [iteF hc4] at hF3
    simp only [run_skip, x48_16, run_seq, run_reg, zf1, run_mv, run_len, put1_some, SlF.plen ph1, zf0, xlen_lst, run_bin, xeql, run_ops_nil, x48_1, run_cond, put_at, put_no, ev_t,
        ev_c, reduceIte, Nat.reduceEqDiff, List.map_cons, List.map_nil]
    refine cond_split (t := (decide ((List.length v_1 : Int) = (List.length v_0 : Int)))) (fun hc5 => ?_) (fun hc5 => ?_)
    · rw [iteT hc5] at hF3
      simp only [run_seq, run_reg, zf1, run_mv, run_ops_nil, run_ret, put_at, put_no, ev_t, ev_c, reduceIte, Nat.reduceEqDiff, List.map_cons, List.map_nil]
      have he := some_inj hF3
      subst he
      simp only [end_ret1, put_at, put_no, ev_t, ev_c, reduceIte, Nat.reduceEqDiff, List.map_cons, List.map_nil]
      exact ⟨pv1, pc1, by first | trivial | rfl, ph1, hS⟩
    · rw [iteF hc5] at hF3
      simp only [run_skip, x48_15, run_seq, run_reg, zf0, run_mv, run_len, put1_some, xlen_lst, run_ops_nil, put_at, put_no, ev_t, ev_c, reduceIte, Nat.reduceEqDiff,
          List.map_cons, List.map_nil]
      obtain ⟨oc8, hX10, hk11⟩ := jn_some hF3
      simp only [x48_14]
      refine rangeL_j (σ := Unit) v_0 (fun i6 x7 _ => spec_l15Find_b2 v_0 v_1 v_2 rec i6 x7 )
          (fun s fr' h' => fr' 0 = lst Call.cells v_0 ∧ fr' 1 = pv1 ∧ fr' 2 = .bool v_2 ∧ fr' 23 = lst Call.cells v_0 ∧ Sep h' lo (pc1 ++ (S0))) hX10 ⟨by simp only [zf0, put_at,
          put_no, ev_t, ev_c, reduceIte, Nat.reduceEqDiff, List.map_cons, List.map_nil], by simp only [zf1, put_at, put_no, ev_t, ev_c, reduceIte, Nat.reduceEqDiff, List.map_cons,
          List.map_nil], by simp only [zf2, put_at, put_no, ev_t, ev_c, reduceIte, Nat.reduceEqDiff, List.map_cons, List.map_nil], by simp only [put_at, put_no, ev_t, ev_c,
          reduceIte, Nat.reduceEqDiff, List.map_cons, List.map_nil], hS⟩ (by simp only [put_at, put_no, ev_t, ev_c, reduceIte, Nat.reduceEqDiff, List.map_cons,
          List.map_nil]) (by simp only [put_at, put_no, ev_t, ev_c, reduceIte, Nat.reduceEqDiff, List.map_cons,
          List.map_nil]) (fun _ _ _ h => h) rfl rfl (fun _ _ _ _ h => h) (fun _ _ _ _ h => h) (fun _ _ _ _ h => h) (by decide) ?_ ?_
      · rintro i6 x7 _ fr20 h21 hx27 ⟨f23, f24, f25, f26, hS22⟩ f28 f29 oc9 hF12 hr13 Q14 hN15 hB19 hK16 hR17 hE18
        unfold spec_l15Find_b2 at hF12
        simp only [x48_12, run_seq, run_reg, f28, run_mv, f26, run_ia, put_at, put_no, ev_t, ev_c, reduceIte, Nat.reduceEqDiff, List.map_cons, List.map_nil]
        refine put1_eq (v := .ref (Call.cells x7) 0) (xia_lstN hx27 rfl) ?_
        simp only [run_ld, put_at, put_no, ev_t, ev_c, reduceIte, Nat.reduceEqDiff, List.map_cons, List.map_nil]
        refine put1_eq (v := .agg [.int .i64 x7.Client, .int .i64 x7.Object, .bool x7.Write, .int .i64 x7.Value, .int .i64 x7.Begin, .int .i64 x7.End]) rfl ?_
        simp only [run_new, put_at, put_no, ev_t, ev_c, reduceIte, Nat.reduceEqDiff, List.map_cons, List.map_nil]
        refine put2_newC hS22 (fun b30 h31 hS32 => ?_)
        simp only [run_mv, run_st, put_at, put_no, ev_t, ev_c, reduceIte, Nat.reduceEqDiff, List.map_cons, List.map_nil]
        refine put2_stC (cs' := [.int .i64 x7.Client, .int .i64 x7.Object, .bool x7.Write, .int .i64 x7.Value, .int .i64 x7.Begin,
            .int .i64 x7.End]) hS32 hW rfl rfl (Nat.le_of_ble_eq_true rfl) rfl (fun h34 hS35 => ?_)
        simp only [put_no, run_ops_nil, put_at, ev_t, ev_c, reduceIte, Nat.reduceEqDiff, List.map_cons, List.map_nil]
        refine frz_stepC hS35 hW (by simp only [put_at, put_no, ev_t, ev_c, reduceIte, Nat.reduceEqDiff, List.map_cons, List.map_nil]) (fun h36 hS37 => ?_)
        obtain ⟨v38, hx39, hF40⟩ := bind_some' hF12
        simp only [run_frz_nil, x48_11, run_seq, run_reg, f24, run_mv, run_call, put_at, put_no, ev_t, ev_c, reduceIte, Nat.reduceEqDiff, List.map_cons, List.map_nil]
        refine call1 rfl (mapM1 (SlF.snap ph1 hS37 rfl (fun _ => rfl) (fun _ => rfl)) (mapM1 snap_int mapM0)) (spec_l1Has_x (fun b hb => decide_eq_true hb) v_1
            (i6 : Int) v38 hx39) ?_
        simp only [run_un, put1_some, xnot, run_mv, run_ops_nil, x48_10, run_seq, run_reg, f23, run_len, xlen_lst, put_at, put_no, ev_t, ev_c, reduceIte, Nat.reduceEqDiff,
            List.map_cons, List.map_nil]
        obtain ⟨oc45, hX47, hk48⟩ := jn_some hF40
        simp only [x48_5]
        refine rangeL_j (σ := Bool) v_0 (fun i43 x44 s139 => spec_l15Find_b1 v_1 v_2 i6 x7 i43 x44 s139)
            (fun s fr' h' => fr' 0 = lst Call.cells v_0 ∧ fr' 1 = pv1 ∧ fr' 2 = .bool v_2 ∧ fr' 7 = .int .i64 (i6 : Int) ∧ fr' 8 = .ref [.int .i64 x7.Client, .int .i64 x7.Object,
            .bool x7.Write, .int .i64 x7.Value, .int .i64 x7.Begin,
            .int .i64 x7.End] 0 ∧ fr' 9 = .bool s ∧ fr' 23 = lst Call.cells v_0 ∧ fr' 24 = .int .i64 (List.length v_0 : Int) ∧ fr' 25 = .int .i64
            (i6 : Int) ∧ fr' 34 = lst Call.cells v_0 ∧ Sep h' lo (pc1 ++ (S0))) hX47 ⟨by simp only [f23, put_at, put_no, ev_t, ev_c, reduceIte, Nat.reduceEqDiff, List.map_cons,
            List.map_nil], by simp only [f24, put_at, put_no, ev_t, ev_c, reduceIte, Nat.reduceEqDiff, List.map_cons, List.map_nil], by simp only [f25, put_at, put_no, ev_t, ev_c,
            reduceIte, Nat.reduceEqDiff, List.map_cons, List.map_nil], by simp only [put_at, put_no, ev_t, ev_c, reduceIte, Nat.reduceEqDiff, List.map_cons, List.map_nil],
            by simp only [put_at, put_no, ev_t, ev_c, reduceIte, Nat.reduceEqDiff, List.map_cons, List.map_nil], by simp only [put_at, put_no, ev_t, ev_c, reduceIte,
            Nat.reduceEqDiff, List.map_cons, List.map_nil], by simp only [f26, put_at, put_no, ev_t, ev_c, reduceIte, Nat.reduceEqDiff, List.map_cons, List.map_nil],
            by simp only [f29, put_at, put_no, ev_t, ev_c, reduceIte, Nat.reduceEqDiff, List.map_cons, List.map_nil], by simp only [f28, put_at, put_no, ev_t, ev_c, reduceIte,
            Nat.reduceEqDiff, List.map_cons, List.map_nil], by simp only [put_at, put_no, ev_t, ev_c, reduceIte, Nat.reduceEqDiff, List.map_cons, List.map_nil],
            hS37⟩ (by simp only [put_at, put_no, ev_t, ev_c, reduceIte, Nat.reduceEqDiff, List.map_cons, List.map_nil]) (by simp only [put_at, put_no, ev_t, ev_c, reduceIte,
            Nat.reduceEqDiff, List.map_cons, List.map_nil]) (fun _ _ _ h => h) rfl rfl (fun _ _ _ _ h => h) (fun _ _ _ _ h => h) (fun _ _ _ _ h => h) (by decide) ?_ ?_
        · rintro i43 x44 s42 fr57 h58 hx70 ⟨f60, f61, f62, f63, f64, f65, f66, f67, f68, f69, hS59⟩ f71 f72 oc46 hF49 hr50 Q51 hN52 hB56 hK53 hR54 hE55
          unfold spec_l15Find_b1 at hF49
          simp only [x48_3, run_seq, run_reg, f71, run_mv, f69, run_ia, put_at, put_no, ev_t, ev_c, reduceIte, Nat.reduceEqDiff, List.map_cons, List.map_nil]
          refine put1_eq (v := .ref (Call.cells x44) 0) (xia_lstN hx70 rfl) ?_
          simp only [run_ld, put_at, put_no, ev_t, ev_c, reduceIte, Nat.reduceEqDiff, List.map_cons, List.map_nil]
          refine put1_eq (v := .agg [.int .i64 x44.Client, .int .i64 x44.Object, .bool x44.Write, .int .i64 x44.Value, .int .i64 x44.Begin, .int .i64 x44.End]) rfl ?_
          simp only [run_new, put_at, put_no, ev_t, ev_c, reduceIte, Nat.reduceEqDiff, List.map_cons, List.map_nil]
          refine put2_newC hS59 (fun b73 h74 hS75 => ?_)
          simp only [run_mv, run_st, put_at, put_no, ev_t, ev_c, reduceIte, Nat.reduceEqDiff, List.map_cons, List.map_nil]
          refine put2_stC (cs' := [.int .i64 x44.Client, .int .i64 x44.Object, .bool x44.Write, .int .i64 x44.Value, .int .i64 x44.Begin,
              .int .i64 x44.End]) hS75 hW rfl rfl (Nat.le_of_ble_eq_true rfl) rfl (fun h77 hS78 => ?_)
          simp only [put_no, run_ops_nil, put_at, ev_t, ev_c, reduceIte, Nat.reduceEqDiff, List.map_cons, List.map_nil]
          refine frz_stepC hS78 hW (by simp only [put_at, put_no, ev_t, ev_c, reduceIte, Nat.reduceEqDiff, List.map_cons, List.map_nil]) (fun h79 hS80 => ?_)
          simp only [run_frz_nil, x48_2, run_seq, run_reg, run_mv, f63, run_bin, put1_some, xneq, put_at, put_no, ev_t, ev_c, reduceIte, Nat.reduceEqDiff, List.map_cons,
              List.map_nil]
          obtain ⟨v84, hx85, hF86⟩ := bind_some' hF49
          refine ops_j 5 (fun fr' h' => Sep h' lo (pc1 ++ (S0)) ∧ fr' 49 = .bool v84 ∧ fr' 0 = lst Call.cells v_0 ∧ fr' 1 = pv1 ∧ fr' 2 = .bool v_2 ∧ fr' 7 = .int .i64
              (i6 : Int) ∧ fr' 8 = .ref [.int .i64 x7.Client, .int .i64 x7.Object, .bool x7.Write, .int .i64 x7.Value, .int .i64 x7.Begin,
              .int .i64 x7.End] 0 ∧ fr' 9 = .bool s42 ∧ fr' 11 = .ref [.int .i64 x44.Client, .int .i64 x44.Object, .bool x44.Write, .int .i64 x44.Value, .int .i64 x44.Begin,
              .int .i64 x44.End] 0 ∧ fr' 23 = lst Call.cells v_0 ∧ fr' 24 = .int .i64 (List.length v_0 : Int) ∧ fr' 25 = .int .i64
              (i6 : Int) ∧ fr' 34 = lst Call.cells v_0 ∧ fr' 35 = .int .i64 (List.length v_0 : Int) ∧ fr' 36 = .int .i64 (i43 : Int)) (fun Q81 hN82 => ?_) ?_
          · simp only [List.take_succ_cons, List.take_zero]
            simp only [run_guard (g := 44), put_at, put_no, ev_t, ev_c, reduceIte, Nat.reduceEqDiff, List.map_cons, List.map_nil]
            refine guard_split (t := (decide ((i43 : Int) ≠ (i6 : Int)))) (fun hg83 => ?_) (fun hg83 => ?_)
            · rw [iteT hg83] at hx85
              obtain ⟨v87, hx88, hF89⟩ := bind_some' hx85
              simp only [hg83, run_guard (g := 44), guard_true, f61, run_mv, run_call, put_at, put_no, ev_t, ev_c, reduceIte, Nat.reduceEqDiff, List.map_cons, List.map_nil]
              refine call1 rfl (mapM1 (SlF.snap ph1 hS80 rfl (fun _ => rfl) (fun _ => rfl)) (mapM1 snap_int mapM0)) (spec_l1Has_x (fun b hb => decide_eq_true hb) v_1
                  (i43 : Int) v87 hx88) ?_
              simp only [hg83, run_guard (g := 44), guard_true, run_un, put1_some, xnot, run_pick, xpick_t, run_ops_nil, run_nil, put_at, put_no, ev_t, ev_c, reduceIte,
                  Nat.reduceEqDiff, List.map_cons, List.map_nil]
              have e90 := some_inj hF89
              exact hN82 _ _ ⟨hS80, by rw [← e90]; simp only [put_at, put_no, ev_t, ev_c, reduceIte, Nat.reduceEqDiff, List.map_cons, List.map_nil], by simp only [f60, put_at,
                  put_no, ev_t, ev_c, reduceIte, Nat.reduceEqDiff, List.map_cons, List.map_nil], by simp only [f61, put_at, put_no, ev_t, ev_c, reduceIte, Nat.reduceEqDiff,
                  List.map_cons, List.map_nil], by simp only [f62, put_at, put_no, ev_t, ev_c, reduceIte, Nat.reduceEqDiff, List.map_cons, List.map_nil], by simp only [f63,
                  put_at, put_no, ev_t, ev_c, reduceIte, Nat.reduceEqDiff, List.map_cons, List.map_nil], by simp only [f64, put_at, put_no, ev_t, ev_c, reduceIte,
                  Nat.reduceEqDiff, List.map_cons, List.map_nil], by simp only [f65, put_at, put_no, ev_t, ev_c, reduceIte, Nat.reduceEqDiff, List.map_cons, List.map_nil],
                  by simp only [put_at, put_no, ev_t, ev_c, reduceIte, Nat.reduceEqDiff, List.map_cons, List.map_nil], by simp only [f66, put_at, put_no, ev_t, ev_c, reduceIte,
                  Nat.reduceEqDiff, List.map_cons, List.map_nil], by simp only [f67, put_at, put_no, ev_t, ev_c, reduceIte, Nat.reduceEqDiff, List.map_cons, List.map_nil],
                  by simp only [f68, put_at, put_no, ev_t, ev_c, reduceIte, Nat.reduceEqDiff, List.map_cons, List.map_nil], by simp only [f69, put_at, put_no, ev_t, ev_c,
                  reduceIte, Nat.reduceEqDiff, List.map_cons, List.map_nil], by simp only [f72, put_at, put_no, ev_t, ev_c, reduceIte, Nat.reduceEqDiff, List.map_cons,
                  List.map_nil], by simp only [f71, put_at, put_no, ev_t, ev_c, reduceIte, Nat.reduceEqDiff, List.map_cons, List.map_nil]⟩
            · rw [iteF hg83] at hx85
              simp only [hg83, run_guard (g := 44), guard_off, run_pick, put1_some, xpick_f, run_ops_nil, run_nil, put_at, put_no, ev_t, ev_c, reduceIte, Nat.reduceEqDiff,
                  List.map_cons, List.map_nil]
              have e91 := some_inj hx85
              exact hN82 _ _ ⟨hS80, by rw [← e91]; simp only [put_at, put_no, ev_t, ev_c, reduceIte, Nat.reduceEqDiff, List.map_cons, List.map_nil], by simp only [f60, put_at,
                  put_no, ev_t, ev_c, reduceIte, Nat.reduceEqDiff, List.map_cons, List.map_nil], by simp only [f61, put_at, put_no, ev_t, ev_c, reduceIte, Nat.reduceEqDiff,
                  List.map_cons, List.map_nil], by simp only [f62, put_at, put_no, ev_t, ev_c, reduceIte, Nat.reduceEqDiff, List.map_cons, List.map_nil], by simp only [f63,
                  put_at, put_no, ev_t, ev_c, reduceIte, Nat.reduceEqDiff, List.map_cons, List.map_nil], by simp only [f64, put_at, put_no, ev_t, ev_c, reduceIte,
                  Nat.reduceEqDiff, List.map_cons, List.map_nil], by simp only [f65, put_at, put_no, ev_t, ev_c, reduceIte, Nat.reduceEqDiff, List.map_cons, List.map_nil],
                  by simp only [put_at, put_no, ev_t, ev_c, reduceIte, Nat.reduceEqDiff, List.map_cons, List.map_nil], by simp only [f66, put_at, put_no, ev_t, ev_c, reduceIte,
                  Nat.reduceEqDiff, List.map_cons, List.map_nil], by simp only [f67, put_at, put_no, ev_t, ev_c, reduceIte, Nat.reduceEqDiff, List.map_cons, List.map_nil],
                  by simp only [f68, put_at, put_no, ev_t, ev_c, reduceIte, Nat.reduceEqDiff, List.map_cons, List.map_nil], by simp only [f69, put_at, put_no, ev_t, ev_c,
                  reduceIte, Nat.reduceEqDiff, List.map_cons, List.map_nil], by simp only [f72, put_at, put_no, ev_t, ev_c, reduceIte, Nat.reduceEqDiff, List.map_cons,
                  List.map_nil], by simp only [f71, put_at, put_no, ev_t, ev_c, reduceIte, Nat.reduceEqDiff, List.map_cons, List.map_nil]⟩
          · rintro fr92 h107 ⟨hS108, f93, f94, f95, f96, f97, f98, f99, f100, f101, f102, f103, f104, f105, f106⟩
            simp only [List.drop_succ_cons, List.drop_zero]
            simp only [f93, run_mv, put_at, put_no, ev_t, ev_c, reduceIte, Nat.reduceEqDiff, List.map_cons, List.map_nil]
            obtain ⟨v112, hx113, hF114⟩ := bind_some' hF86
            refine ops_j 5 (fun fr' h' => Sep h' lo (pc1 ++ (S0)) ∧ fr' 55 = .bool v112 ∧ fr' 0 = lst Call.cells v_0 ∧ fr' 1 = pv1 ∧ fr' 2 = .bool v_2 ∧ fr' 7 = .int .i64
                (i6 : Int) ∧ fr' 8 = .ref [.int .i64 x7.Client, .int .i64 x7.Object, .bool x7.Write, .int .i64 x7.Value, .int .i64 x7.Begin,
                .int .i64 x7.End] 0 ∧ fr' 9 = .bool s42 ∧ fr' 23 = lst Call.cells v_0 ∧ fr' 24 = .int .i64 (List.length v_0 : Int) ∧ fr' 25 = .int .i64
                (i6 : Int) ∧ fr' 34 = lst Call.cells v_0 ∧ fr' 35 = .int .i64 (List.length v_0 : Int) ∧ fr' 36 = .int .i64 (i43 : Int)) (fun Q109 hN110 => ?_) ?_
            · simp only [List.take_succ_cons, List.take_zero]
              simp only [run_guard (g := 50), put_at, put_no, ev_t, ev_c, reduceIte, Nat.reduceEqDiff, List.map_cons, List.map_nil]
              refine guard_split (t := v84) (fun hg111 => ?_) (fun hg111 => ?_)
              · rw [iteT hg111] at hx113
                simp only [hg111, run_guard (g := 50), guard_true, f100, run_ld, put_at, put_no, ev_t, ev_c, reduceIte, Nat.reduceEqDiff, List.map_cons, List.map_nil]
                refine put1_eq (v := .agg [.int .i64 x44.Client, .int .i64 x44.Object, .bool x44.Write, .int .i64 x44.Value, .int .i64 x44.Begin, .int .i64 x44.End]) rfl ?_
                simp only [hg111, run_guard (g := 50), guard_true, f98, run_ld, put_at, put_no, ev_t, ev_c, reduceIte, Nat.reduceEqDiff, List.map_cons, List.map_nil]
                refine put1_eq (v := .agg [.int .i64 x7.Client, .int .i64 x7.Object, .bool x7.Write, .int .i64 x7.Value, .int .i64 x7.Begin, .int .i64 x7.End]) rfl ?_
                obtain ⟨v115, hx116, hF117⟩ := bind_some' hx113
                simp only [hg111, run_guard (g := 50), guard_true, f96, run_mv, run_call, put_at, put_no, ev_t, ev_c, reduceIte, Nat.reduceEqDiff, List.map_cons, List.map_nil]
                refine call1 rfl (mapM1 (snap_agg (mapM1 snap_int (mapM1 snap_int (mapM1 snap_bool (mapM1 snap_int (mapM1 snap_int (mapM1 snap_int mapM0))))))) (mapM1 (snap_agg
                    (mapM1 snap_int (mapM1 snap_int (mapM1 snap_bool (mapM1 snap_int (mapM1 snap_int (mapM1 snap_int mapM0))))))) (mapM1 snap_bool mapM0))) (spec_l15Before_x
                    (fun b hb => decide_eq_true hb) x44 x7 v_2 v115 hx116) ?_
                simp only [hg111, run_pick, put1_some, xpick_t, run_ops_nil, run_nil, put_at, put_no, ev_t, ev_c, reduceIte, Nat.reduceEqDiff, List.map_cons, List.map_nil]
                have e118 := some_inj hF117
                exact hN110 _ _ ⟨hS108, by rw [← e118]; simp only [put_at, put_no, ev_t, ev_c, reduceIte, Nat.reduceEqDiff, List.map_cons, List.map_nil], by simp only [f94,
                    put_at, put_no, ev_t, ev_c, reduceIte, Nat.reduceEqDiff, List.map_cons, List.map_nil], by simp only [f95, put_at, put_no, ev_t, ev_c, reduceIte,
                    Nat.reduceEqDiff, List.map_cons, List.map_nil], by simp only [f96, put_at, put_no, ev_t, ev_c, reduceIte, Nat.reduceEqDiff, List.map_cons, List.map_nil],
                    by simp only [f97, put_at, put_no, ev_t, ev_c, reduceIte, Nat.reduceEqDiff, List.map_cons, List.map_nil], by simp only [f98, put_at, put_no, ev_t, ev_c,
                    reduceIte, Nat.reduceEqDiff, List.map_cons, List.map_nil], by simp only [f99, put_at, put_no, ev_t, ev_c, reduceIte, Nat.reduceEqDiff, List.map_cons,
                    List.map_nil], by simp only [f101, put_at, put_no, ev_t, ev_c, reduceIte, Nat.reduceEqDiff, List.map_cons, List.map_nil], by simp only [f102, put_at, put_no,
                    ev_t, ev_c, reduceIte, Nat.reduceEqDiff, List.map_cons, List.map_nil], by simp only [f103, put_at, put_no, ev_t, ev_c, reduceIte, Nat.reduceEqDiff,
                    List.map_cons, List.map_nil], by simp only [f104, put_at, put_no, ev_t, ev_c, reduceIte, Nat.reduceEqDiff, List.map_cons, List.map_nil], by simp only [f105,
                    put_at, put_no, ev_t, ev_c, reduceIte, Nat.reduceEqDiff, List.map_cons, List.map_nil], by simp only [f106, put_at, put_no, ev_t, ev_c, reduceIte,
                    Nat.reduceEqDiff, List.map_cons, List.map_nil]⟩
              · rw [iteF hg111] at hx113
                simp only [hg111, run_guard (g := 50), guard_off, run_pick, put1_some, xpick_f, run_ops_nil, run_nil, put_at, put_no, ev_t, ev_c, reduceIte, Nat.reduceEqDiff,
                    List.map_cons, List.map_nil]
                have e119 := some_inj hx113
                exact hN110 _ _ ⟨hS108, by rw [← e119]; simp only [put_at, put_no, ev_t, ev_c, reduceIte, Nat.reduceEqDiff, List.map_cons, List.map_nil], by simp only [f94,
                    put_at, put_no, ev_t, ev_c, reduceIte, Nat.reduceEqDiff, List.map_cons, List.map_nil], by simp only [f95, put_at, put_no, ev_t, ev_c, reduceIte,
                    Nat.reduceEqDiff, List.map_cons, List.map_nil], by simp only [f96, put_at, put_no, ev_t, ev_c, reduceIte, Nat.reduceEqDiff, List.map_cons, List.map_nil],
                    by simp only [f97, put_at, put_no, ev_t, ev_c, reduceIte, Nat.reduceEqDiff, List.map_cons, List.map_nil], by simp only [f98, put_at, put_no, ev_t, ev_c,
                    reduceIte, Nat.reduceEqDiff, List.map_cons, List.map_nil], by simp only [f99, put_at, put_no, ev_t, ev_c, reduceIte, Nat.reduceEqDiff, List.map_cons,
                    List.map_nil], by simp only [f101, put_at, put_no, ev_t, ev_c, reduceIte, Nat.reduceEqDiff, List.map_cons, List.map_nil], by simp only [f102, put_at, put_no,
                    ev_t, ev_c, reduceIte, Nat.reduceEqDiff, List.map_cons, List.map_nil], by simp only [f103, put_at, put_no, ev_t, ev_c, reduceIte, Nat.reduceEqDiff,
                    List.map_cons, List.map_nil], by simp only [f104, put_at, put_no, ev_t, ev_c, reduceIte, Nat.reduceEqDiff, List.map_cons, List.map_nil], by simp only [f105,
                    put_at, put_no, ev_t, ev_c, reduceIte, Nat.reduceEqDiff, List.map_cons, List.map_nil], by simp only [f106, put_at, put_no, ev_t, ev_c, reduceIte,
                    Nat.reduceEqDiff, List.map_cons, List.map_nil]⟩
            · rintro fr120 h134 ⟨hS135, f121, f122, f123, f124, f125, f126, f127, f128, f129, f130, f131, f132, f133⟩
              simp only [List.drop_succ_cons, List.drop_zero]
              simp only [run_ops_nil, f121, run_cond, put_at, put_no, ev_t, ev_c, reduceIte, Nat.reduceEqDiff, List.map_cons, List.map_nil]
              refine cond_split (t := v112) (fun hc136 => ?_) (fun hc136 => ?_)
              · rw [iteT hc136] at hF114
                simp only [run_reg, run_mv, run_ops_nil, run_nil, put_at, put_no, ev_t, ev_c, reduceIte, Nat.reduceEqDiff, List.map_cons, List.map_nil]
                have e137 := some_inj hF114
                exact hN52 _ _ _ e137.symm ⟨by simp only [f122, put_at, put_no, ev_t, ev_c, reduceIte, Nat.reduceEqDiff, List.map_cons, List.map_nil], by simp only [f123, put_at,
                    put_no, ev_t, ev_c, reduceIte, Nat.reduceEqDiff, List.map_cons, List.map_nil], by simp only [f124, put_at, put_no, ev_t, ev_c, reduceIte, Nat.reduceEqDiff,
                    List.map_cons, List.map_nil], by simp only [f125, put_at, put_no, ev_t, ev_c, reduceIte, Nat.reduceEqDiff, List.map_cons, List.map_nil], by simp only [f126,
                    put_at, put_no, ev_t, ev_c, reduceIte, Nat.reduceEqDiff, List.map_cons, List.map_nil], by simp only [put_at, put_no, ev_t, ev_c, reduceIte, Nat.reduceEqDiff,
                    List.map_cons, List.map_nil], by simp only [f128, put_at, put_no, ev_t, ev_c, reduceIte, Nat.reduceEqDiff, List.map_cons, List.map_nil], by simp only [f129,
                    put_at, put_no, ev_t, ev_c, reduceIte, Nat.reduceEqDiff, List.map_cons, List.map_nil], by simp only [f130, put_at, put_no, ev_t, ev_c, reduceIte,
                    Nat.reduceEqDiff, List.map_cons, List.map_nil], by simp only [f131, put_at, put_no, ev_t, ev_c, reduceIte, Nat.reduceEqDiff, List.map_cons, List.map_nil],
                    hS135⟩ (by simp only [f133, put_at, put_no, ev_t, ev_c, reduceIte, Nat.reduceEqDiff, List.map_cons, List.map_nil]) (by simp only [f132, put_at, put_no, ev_t,
                    ev_c, reduceIte, Nat.reduceEqDiff, List.map_cons, List.map_nil])
              · rw [iteF hc136] at hF114
                simp only [run_skip, run_nil, put_at, put_no, ev_t, ev_c, reduceIte, Nat.reduceEqDiff, List.map_cons, List.map_nil]
                have e138 := some_inj hF114
                exact hN52 _ _ _ e138.symm ⟨by simp only [f122, put_at, put_no, ev_t, ev_c, reduceIte, Nat.reduceEqDiff, List.map_cons, List.map_nil], by simp only [f123, put_at,
                    put_no, ev_t, ev_c, reduceIte, Nat.reduceEqDiff, List.map_cons, List.map_nil], by simp only [f124, put_at, put_no, ev_t, ev_c, reduceIte, Nat.reduceEqDiff,
                    List.map_cons, List.map_nil], by simp only [f125, put_at, put_no, ev_t, ev_c, reduceIte, Nat.reduceEqDiff, List.map_cons, List.map_nil], by simp only [f126,
                    put_at, put_no, ev_t, ev_c, reduceIte, Nat.reduceEqDiff, List.map_cons, List.map_nil], by simp only [f127, put_at, put_no, ev_t, ev_c, reduceIte,
                    Nat.reduceEqDiff, List.map_cons, List.map_nil], by simp only [f128, put_at, put_no, ev_t, ev_c, reduceIte, Nat.reduceEqDiff, List.map_cons, List.map_nil],
                    by simp only [f129, put_at, put_no, ev_t, ev_c, reduceIte, Nat.reduceEqDiff, List.map_cons, List.map_nil], by simp only [f130, put_at, put_no, ev_t, ev_c,
                    reduceIte, Nat.reduceEqDiff, List.map_cons, List.map_nil], by simp only [f131, put_at, put_no, ev_t, ev_c, reduceIte, Nat.reduceEqDiff, List.map_cons,
                    List.map_nil], hS135⟩ (by simp only [f133, put_at, put_no, ev_t, ev_c, reduceIte, Nat.reduceEqDiff, List.map_cons, List.map_nil]) (by simp only [f132, put_at,
                    put_no, ev_t, ev_c, reduceIte, Nat.reduceEqDiff, List.map_cons, List.map_nil])
        · rintro s140 fr141 h142 rfl ⟨f144, f145, f146, f147, f148, f149, f150, f151, f152, f153, hS143⟩
          dsimp only [jnO] at hk48
          unfold spec_l15Find_j1 at hk48
          simp only [x48_9, run_seq, run_reg, f149, run_mv, run_un, put1_some, xnot, run_ops_nil, run_cond, put_at, put_no, ev_t, ev_c, reduceIte, Nat.reduceEqDiff, List.map_cons,
              List.map_nil]
          refine cond_split (t := (!s140)) (fun hc154 => ?_) (fun hc154 => ?_)
          · rw [iteT hc154] at hk48
            simp only [run_exit, out_code, out_nil, put_at, put_no, ev_t, ev_c, reduceIte, Nat.reduceEqDiff, List.map_cons, List.map_nil]
            have e155 := some_inj hk48
            exact hB19 _ _ _ e155.symm ⟨by simp only [f144, put_at, put_no, ev_t, ev_c, reduceIte, Nat.reduceEqDiff, List.map_cons, List.map_nil], by simp only [f145, put_at,
                put_no, ev_t, ev_c, reduceIte, Nat.reduceEqDiff, List.map_cons, List.map_nil], by simp only [f146, put_at, put_no, ev_t, ev_c, reduceIte, Nat.reduceEqDiff,
                List.map_cons, List.map_nil], by simp only [f150, put_at, put_no, ev_t, ev_c, reduceIte, Nat.reduceEqDiff, List.map_cons, List.map_nil],
                hS143⟩ (by simp only [f152, put_at, put_no, ev_t, ev_c, reduceIte, Nat.reduceEqDiff, List.map_cons, List.map_nil]) (by simp only [f151, put_at, put_no, ev_t, ev_c,
                reduceIte, Nat.reduceEqDiff, List.map_cons, List.map_nil])
          · rw [iteF hc154] at hk48
            simp only [run_skip, x48_8, run_seq, run_reg, f144, run_mv, run_buildS, evp, put_at, put_no, ev_t, ev_c, reduceIte, Nat.reduceEqDiff, List.map_cons, List.map_nil]
            refine put2_buildSF (n := 1) (f := cI) ([] : List Int) hS143 rfl rfl (fun v156 c157 h158 hv159 hS160 => ?_)
            simp only [f145, run_mv, run_app, put_at, put_no, ev_t, ev_c, reduceIte, Nat.reduceEqDiff, List.map_cons, List.map_nil]
            obtain ⟨l162, hx163, hF164⟩ := bind_some' hk48
            refine put2_appF (f := cI) hv159 hS160 hW (fun _ => rfl) (fun _ => rfl) (SlF.first ph1 (Sep.m1 hS160) (fun _ => rfl)) hx163 (fun v165 c166 h167 hv168 hS169 => ?_)
            simp only [f147, run_mv, run_buildS, evp, put_at, put_no, ev_t, ev_c, reduceIte, Nat.reduceEqDiff, List.map_cons, List.map_nil]
            refine put2_buildSF (n := 1) (f := cI) [(i6 : Int)] hS169 rfl rfl (fun v171 c172 h173 hv174 hS175 => ?_)
            simp only [run_app, put_at, put_no, ev_t, ev_c, reduceIte, Nat.reduceEqDiff, List.map_cons, List.map_nil]
            obtain ⟨l177, hx178, hF179⟩ := bind_some' hF164
            refine put2_appF (f := cI) hv168 (Sep.m1 hS175) hW (fun _ => rfl) (fun _ => rfl) (SlF.first hv174 hS175 (fun _ => rfl)) hx178 (fun v180 c181 h182 hv183 hS184 => ?_)
            obtain ⟨v186, hx187, hF188⟩ := bind_some' hF179
            simp only [f146, run_mv, run_call, put_at, put_no, ev_t, ev_c, reduceIte, Nat.reduceEqDiff, List.map_cons, List.map_nil]
            refine call0 rfl (hrec hW v_0 v180 c181 l177 hv183 v_2 v186 hx187 hS184) ?_
            rintro v189 h193 ⟨_, c190, rfl, hv191, hS194⟩
            simp only [run_mv, run_ops_nil, x48_7, run_seq, run_reg, run_len, put1_some, SlF.plen hv191, run_bin, xgtr, x48_6, run_cond, put_at, put_no, ev_t, ev_c, reduceIte,
                Nat.reduceEqDiff, List.map_cons, List.map_nil]
            refine cond_split (t := (decide ((0 : Int) < (List.length v186 : Int)))) (fun hc195 => ?_) (fun hc195 => ?_)
            · rw [iteT hc195] at hF188
              simp only [run_seq, run_reg, run_mv, run_ops_nil, run_ret, put_at, put_no, ev_t, ev_c, reduceIte, Nat.reduceEqDiff, List.map_cons, List.map_nil]
              have e196 := some_inj hF188
              subst e196
              have ho197 := hr13 _ rfl
              have hk198 := hk11
              rw [ho197] at hk198
              dsimp only [jnO] at hk198
              apply hR17
              have he := some_inj hk198
              subst he
              simp only [end_ret1, put_at, put_no, ev_t, ev_c, reduceIte, Nat.reduceEqDiff, List.map_cons, List.map_nil]
              exact ⟨v189, c190, by first | trivial | rfl, hv191, (Sep.dc (Sep.m1 (Sep.dc (Sep.m1 hS194))))⟩
            · rw [iteF hc195] at hF188
              simp only [run_skip, run_nil, put_at, put_no, ev_t, ev_c, reduceIte, Nat.reduceEqDiff, List.map_cons, List.map_nil]
              have e199 := some_inj hF188
              exact hN15 _ _ _ e199.symm ⟨by simp only [f144, put_at, put_no, ev_t, ev_c, reduceIte, Nat.reduceEqDiff, List.map_cons, List.map_nil], by simp only [f145, put_at,
                  put_no, ev_t, ev_c, reduceIte, Nat.reduceEqDiff, List.map_cons, List.map_nil], by simp only [f146, put_at, put_no, ev_t, ev_c, reduceIte, Nat.reduceEqDiff,
                  List.map_cons, List.map_nil], by simp only [f150, put_at, put_no, ev_t, ev_c, reduceIte, Nat.reduceEqDiff, List.map_cons, List.map_nil],
                  (Sep.dc ((Sep.dc (hS194))))⟩ (by simp only [f152, put_at, put_no, ev_t, ev_c, reduceIte, Nat.reduceEqDiff, List.map_cons, List.map_nil]) (by simp only [f151,
                  put_at, put_no, ev_t, ev_c, reduceIte, Nat.reduceEqDiff, List.map_cons, List.map_nil])
      · rintro _ fr202 h203 rfl ⟨f205, f206, f207, f208, hS204⟩
        dsimp only [jnO] at hk11
        unfold spec_l15Find_j2 at hk11
        simp only [run_seq, run_reg, run_mv, run_ops_nil, run_ret, put_at, put_no, ev_t, ev_c, reduceIte, Nat.reduceEqDiff, List.map_cons, List.map_nil]
        have he := some_inj hk11
        subst he
        simp only [end_ret1, put_at, put_no, ev_t, ev_c, reduceIte, Nat.reduceEqDiff, List.map_cons, List.map_nil]
        exact ⟨.nil, [], by first | trivial | rfl, SlF.nil, (Sep.dc (hS204))⟩
theorem spec_l15Find_all : ∀ k : Nat, ∀ {W : Nat → Bool} {h : Heap} {lo : Nat} {S0 : List Obj} (hW : ∀ b,
    lo ≤ b → W b = true) (v_0 : List Call) (pv1 : XV) (pc1 : List Obj) (v_1 : List Int) (ph1 : SlF cI 1 3 pv1 v_1 pc1) (v_2 : Bool) (r : List Int)
    (hF : spec_l15Find k v_0 v_1 v_2 = some r) (hS : Sep h lo (pc1 ++ (S0))), Ret E W 48 [lst Call.cells v_0, pv1, .bool v_2] h (fun v h' => ∃ rv0 rc0,
    v = rv0 ∧ SlF cI 1 3 rv0 r rc0 ∧ Sep h' lo (rc0 ++ (S0))) := by
  intro k
  induction k with
  | zero => intros; rename_i hF _; cases hF
  | succ k ih => exact @spec_l15Find_rec_x (spec_l15Find k) ih
theorem spec_l15Find_x {W : Nat → Bool} {h : Heap} {lo : Nat} {S0 : List Obj} (hW : ∀ b,
    lo ≤ b → W b = true) (k : Nat) (v_0 : List Call) (pv1 : XV) (pc1 : List Obj) (v_1 : List Int) (ph1 : SlF cI 1 3 pv1 v_1 pc1) (v_2 : Bool) (r : List Int)
    (hF : spec_l15Find k v_0 v_1 v_2 = some r) (hS : Sep h lo (pc1 ++ (S0))) : Ret E W 48 [lst Call.cells v_0, pv1, .bool v_2] h (fun v h' => ∃ rv0 rc0,
    v = rv0 ∧ SlF cI 1 3 rv0 r rc0 ∧ Sep h' lo (rc0 ++ (S0))) := spec_l15Find_all k hW v_0 pv1 pc1 v_1 ph1 v_2 r hF hS
theorem spec_IsSequential_x {W : Nat → Bool} {h : Heap} (hW : ∀ b,
    h.length ≤ b → W b = true) (k : Nat) (l_0 : List Call) (r : Bool × Bool) (hF : spec_IsSequential k l_0 = some r) : Ret E W 18 [lst Call.cells l_0] h
    (fun v h' => cut h.length h' E.sz false 9 v = some (.tup [.bool r.1, .bool r.2])) := by
  refine Ret.of (fn := x18) rfl (Run.of ?_)
  unfold spec_IsSequential at hF
  have zf0 : argFr [lst Call.cells l_0] 0 = lst Call.cells l_0 := rfl
  generalize argFr [lst Call.cells l_0] = fr0 at zf0 ⊢
  have hS : Sep h h.length [] := Sep.nil h
  obtain ⟨v1, hx2, hF3⟩ := bind_some' hF
  simp only [x18, run_seq, run_reg, run_mv, run_ops_nil, x18_3, zf0, run_call, put_at, put_no, ev_t, ev_c, reduceIte, Nat.reduceEqDiff, List.map_cons, List.map_nil]
  refine call1 rfl (mapM1 snap_lst mapM0) (spec_GoodCalls_x (fun b hb => decide_eq_true hb) l_0 v1 hx2) ?_
  simp only [run_un, put1_some, xnot, run_ops_nil, x18_1, run_cond, put_at, put_no, ev_t, ev_c, reduceIte, Nat.reduceEqDiff, List.map_cons, List.map_nil]
  refine cond_split (t := (!v1)) (fun hc4 => ?_) (fun hc4 => ?_)
  · rw [iteT hc4] at hF3
    simp only [run_seq, run_reg, run_mv, run_ops_nil, run_ret, put_at, put_no, ev_t, ev_c, reduceIte, Nat.reduceEqDiff, List.map_cons, List.map_nil]
    have he := some_inj hF3
    subst he
    simp only [end_ret2, put_at, put_no, ev_t, ev_c, reduceIte, Nat.reduceEqDiff, List.map_cons, List.map_nil]
    exact cut_tup (mapM1 rfl (mapM1 rfl mapM0))
  · rw [iteF hc4] at hF3
    obtain ⟨v5, hx6, hF7⟩ := bind_some' hF3
    simp only [run_skip, x18_2, run_seq, run_reg, zf0, run_mv, run_call, put_at, put_no, ev_t, ev_c, reduceIte, Nat.reduceEqDiff, List.map_cons, List.map_nil]
    refine call0 rfl (spec_l15Find_x hW k l_0 .nil [] [] SlF.nil true v5 hx6 hS) ?_
    rintro v8 h12 ⟨_, c9, rfl, hv10, hS13⟩
    simp only [run_len, put1_some, SlF.plen hv10, zf0, run_mv, xlen_lst, run_bin, xeql, run_ops_nil, run_ret, put_at, put_no, ev_t, ev_c, reduceIte, Nat.reduceEqDiff,
        List.map_cons, List.map_nil]
    have he := some_inj hF7
    subst he
    simp only [end_ret2, put_at, put_no, ev_t, ev_c, reduceIte, Nat.reduceEqDiff, List.map_cons, List.map_nil]
    exact cut_tup (mapM1 rfl (mapM1 rfl mapM0))
theorem impl_inOrder_x {W : Nat → Bool} {h : Heap} (hW : ∀ b,
    h.length ≤ b → W b = true) (order_0 : List Int) {g1 : Nat} {caps1 : List XV} (hm1 : E.mode g1 = 1) (may_1 : Int → Int → Option Bool) (hf1 : ∀ (W : Nat → Bool) (h : Heap),
    (∀ b, h.length ≤ b → W b = true) → ∀ a0 a1 r, may_1 a0 a1 = some r → Ret E W g1 ([.int .i64 a0,
    .int .i64 a1] ++ caps1) h (fun v h' => cut h.length h' E.sz false 9 v = some (.bool r))) (r : Bool) (hF : impl_inOrder order_0 may_1 = some r) : Ret E W 55 [lst cI order_0,
    .fn g1 caps1] h (fun v h' => cut h.length h' E.sz false 9 v = some (.bool r)) := by
  refine Ret.of (fn := x55) rfl (Run.of ?_)
  unfold impl_inOrder at hF
  have zf0 : argFr [lst cI order_0, .fn g1 caps1] 0 = lst cI order_0 := rfl
  have zf1 : argFr [lst cI order_0, .fn g1 caps1] 1 = .fn g1 caps1 := rfl
  generalize argFr [lst cI order_0, .fn g1 caps1] = fr0 at zf0 zf1 ⊢
  have hS : Sep h h.length [] := Sep.nil h
  simp only [x55, run_seq, run_reg, run_mv, run_ops_nil, x55_9, zf0, run_len, put1_some, xlen_lst, put_at, put_no, ev_t, ev_c, reduceIte, Nat.reduceEqDiff, List.map_cons,
      List.map_nil]
  obtain ⟨oc3, hX5, hk6⟩ := jn_some hF
  simp only [x55_8]
  refine rangeL_j (σ := Unit) order_0 (fun i1 x2 _ => impl_inOrder_b2 order_0 may_1 i1 x2 )
      (fun s fr' h' => fr' 0 = lst cI order_0 ∧ fr' 1 = .fn g1 caps1 ∧ fr' 9 = lst cI order_0 ∧ Sep h' h.length ([])) hX5 ⟨by simp only [zf0, put_at, put_no, ev_t, ev_c,
      reduceIte, Nat.reduceEqDiff, List.map_cons, List.map_nil], by simp only [zf1, put_at, put_no, ev_t, ev_c, reduceIte, Nat.reduceEqDiff, List.map_cons, List.map_nil],
      by simp only [put_at, put_no, ev_t, ev_c, reduceIte, Nat.reduceEqDiff, List.map_cons, List.map_nil], hS⟩ (by simp only [put_at, put_no, ev_t, ev_c, reduceIte,
      Nat.reduceEqDiff, List.map_cons, List.map_nil]) (by simp only [put_at, put_no, ev_t, ev_c, reduceIte, Nat.reduceEqDiff, List.map_cons,
      List.map_nil]) (fun _ _ _ h => h) rfl rfl (fun _ _ _ _ h => h) (fun _ _ _ _ h => h) (fun _ _ _ _ h => h) (by decide) ?_ ?_
  · rintro i1 x2 _ fr15 h16 hx21 ⟨f18, f19, f20, hS17⟩ f22 f23 oc4 hF7 hr8 Q9 hN10 hB14 hK11 hR12 hE13
    unfold impl_inOrder_b2 at hF7
    simp only [x55_6, run_seq, run_reg, f22, run_mv, f20, run_ia, put_at, put_no, ev_t, ev_c, reduceIte, Nat.reduceEqDiff, List.map_cons, List.map_nil]
    refine put1_eq (v := .ref (cI x2) 0) (xia_lstN hx21 rfl) ?_
    simp only [run_ld, put_at, put_no, ev_t, ev_c, reduceIte, Nat.reduceEqDiff, List.map_cons, List.map_nil]
    refine put1_eq (v := .int .i64 x2) rfl ?_
    obtain ⟨l24, hx25, hF26⟩ := bind_some' hF7
    simp only [run_mv, run_ops_nil, x55_5, run_seq, run_reg, f18, run_slc, Option.map_some, Option.map_none, put_at, put_no, ev_t, ev_c, reduceIte, Nat.reduceEqDiff,
        List.map_cons, List.map_nil]
    refine put1_eq (pslc_lst_hi hx25 (fun _ => rfl)) ?_
    simp only [run_len, put1_some, xlen_lst, run_mv, run_ops_nil, put_at, put_no, ev_t, ev_c, reduceIte, Nat.reduceEqDiff, List.map_cons, List.map_nil]
    obtain ⟨oc29, hX31, hk32⟩ := jn_some hF26
    simp only [x55_4]
    refine rangeL_j (σ := Unit) l24 (fun i27 x28 _ => impl_inOrder_b1 may_1 x2 i27 x28 )
        (fun s fr' h' => fr' 0 = lst cI order_0 ∧ fr' 1 = .fn g1 caps1 ∧ fr' 6 = .int .i64 x2 ∧ fr' 9 = lst cI order_0 ∧ fr' 10 = .int .i64
        (List.length order_0 : Int) ∧ fr' 11 = .int .i64 (i1 : Int) ∧ fr' 18 = lst cI l24 ∧ Sep h' h.length ([])) hX31 ⟨by simp only [f18, put_at, put_no, ev_t, ev_c, reduceIte,
        Nat.reduceEqDiff, List.map_cons, List.map_nil], by simp only [f19, put_at, put_no, ev_t, ev_c, reduceIte, Nat.reduceEqDiff, List.map_cons, List.map_nil],
        by simp only [put_at, put_no, ev_t, ev_c, reduceIte, Nat.reduceEqDiff, List.map_cons, List.map_nil], by simp only [f20, put_at, put_no, ev_t, ev_c, reduceIte,
        Nat.reduceEqDiff, List.map_cons, List.map_nil], by simp only [f23, put_at, put_no, ev_t, ev_c, reduceIte, Nat.reduceEqDiff, List.map_cons, List.map_nil],
        by simp only [f22, put_at, put_no, ev_t, ev_c, reduceIte, Nat.reduceEqDiff, List.map_cons, List.map_nil], by simp only [put_at, put_no, ev_t, ev_c, reduceIte,
        Nat.reduceEqDiff, List.map_cons, List.map_nil], hS17⟩ (by simp only [put_at, put_no, ev_t, ev_c, reduceIte, Nat.reduceEqDiff, List.map_cons,
        List.map_nil]) (by simp only [put_at, put_no, ev_t, ev_c, reduceIte, Nat.reduceEqDiff, List.map_cons,
        List.map_nil]) (fun _ _ _ h => h) rfl rfl (fun _ _ _ _ h => h) (fun _ _ _ _ h => h) (fun _ _ _ _ h => h) (by decide) ?_ ?_
    · rintro i27 x28 _ fr41 h42 hx51 ⟨f44, f45, f46, f47, f48, f49, f50, hS43⟩ f52 f53 oc30 hF33 hr34 Q35 hN36 hB40 hK37 hR38 hE39
      unfold impl_inOrder_b1 at hF33
      simp only [x55_2, run_seq, run_reg, f50, f52, run_ia, put_at, put_no, ev_t, ev_c, reduceIte, Nat.reduceEqDiff, List.map_cons, List.map_nil]
      refine put1_eq (v := .ref (cI x28) 0) (xia_lstN hx51 rfl) ?_
      simp only [run_ld, put_at, put_no, ev_t, ev_c, reduceIte, Nat.reduceEqDiff, List.map_cons, List.map_nil]
      refine put1_eq (v := .int .i64 x28) rfl ?_
      obtain ⟨v54, hx55, hF56⟩ := bind_some' hF33
      simp only [run_mv, run_ops_nil, x55_1, run_seq, run_reg, f45, f46, run_call, put_at, put_no, ev_t, ev_c, reduceIte, Nat.reduceEqDiff, List.map_cons, List.map_nil]
      refine call1 hm1 (mapM1 snap_int (mapM1 snap_int mapM0)) (hf1 _ _ (fun b hb => decide_eq_true hb) x28 x2 v54 hx55) ?_
      simp only [run_un, put1_some, xnot, run_ops_nil, run_cond, put_at, put_no, ev_t, ev_c, reduceIte, Nat.reduceEqDiff, List.map_cons, List.map_nil]
      refine cond_split (t := (!v54)) (fun hc57 => ?_) (fun hc57 => ?_)
      · rw [iteT hc57] at hF56
        simp only [run_seq, run_reg, run_mv, run_ops_nil, run_ret, put_at, put_no, ev_t, ev_c, reduceIte, Nat.reduceEqDiff, List.map_cons, List.map_nil]
        have e58 := some_inj hF56
        subst e58
        have ho59 := hr34 _ rfl
        have hk60 := hk32
        rw [ho59] at hk60
        dsimp only [jnO] at hk60
        apply hR38
        have e61 := some_inj hk60
        subst e61
        have ho62 := hr8 _ rfl
        have hk63 := hk6
        rw [ho62] at hk63
        dsimp only [jnO] at hk63
        apply hR12
        have he := some_inj hk63
        subst he
        simp only [end_ret1, put_at, put_no, ev_t, ev_c, reduceIte, Nat.reduceEqDiff, List.map_cons, List.map_nil]
        exact rfl
      · rw [iteF hc57] at hF56
        simp only [run_skip, run_nil, put_at, put_no, ev_t, ev_c, reduceIte, Nat.reduceEqDiff, List.map_cons, List.map_nil]
        have e64 := some_inj hF56
        exact hN36 _ _ _ e64.symm ⟨by simp only [f44, put_at, put_no, ev_t, ev_c, reduceIte, Nat.reduceEqDiff, List.map_cons, List.map_nil], by simp only [f45, put_at, put_no,
            ev_t, ev_c, reduceIte, Nat.reduceEqDiff, List.map_cons, List.map_nil], by simp only [f46, put_at, put_no, ev_t, ev_c, reduceIte, Nat.reduceEqDiff, List.map_cons,
            List.map_nil], by simp only [f47, put_at, put_no, ev_t, ev_c, reduceIte, Nat.reduceEqDiff, List.map_cons, List.map_nil], by simp only [f48, put_at, put_no, ev_t, ev_c,
            reduceIte, Nat.reduceEqDiff, List.map_cons, List.map_nil], by simp only [f49, put_at, put_no, ev_t, ev_c, reduceIte, Nat.reduceEqDiff, List.map_cons, List.map_nil],
            by simp only [f50, put_at, put_no, ev_t, ev_c, reduceIte, Nat.reduceEqDiff, List.map_cons, List.map_nil], hS43⟩ (by simp only [f52, put_at, put_no, ev_t, ev_c,
            reduceIte, Nat.reduceEqDiff, List.map_cons, List.map_nil]) (by simp only [f53, put_at, put_no, ev_t, ev_c, reduceIte, Nat.reduceEqDiff, List.map_cons, List.map_nil])
    · rintro _ fr66 h67 rfl ⟨f69, f70, f71, f72, f73, f74, f75, hS68⟩
      dsimp only [jnO] at hk32
      unfold impl_inOrder_j1 at hk32
      simp only [run_nil, put_at, put_no, ev_t, ev_c, reduceIte, Nat.reduceEqDiff, List.map_cons, List.map_nil]
      have e76 := some_inj hk32
      exact hN10 _ _ _ e76.symm ⟨by simp only [f69, put_at, put_no, ev_t, ev_c, reduceIte, Nat.reduceEqDiff, List.map_cons, List.map_nil], by simp only [f70, put_at, put_no, ev_t,
          ev_c, reduceIte, Nat.reduceEqDiff, List.map_cons, List.map_nil], by simp only [f72, put_at, put_no, ev_t, ev_c, reduceIte, Nat.reduceEqDiff, List.map_cons,
          List.map_nil], hS68⟩ (by simp only [f74, put_at, put_no, ev_t, ev_c, reduceIte, Nat.reduceEqDiff, List.map_cons, List.map_nil]) (by simp only [f73, put_at, put_no, ev_t,
          ev_c, reduceIte, Nat.reduceEqDiff, List.map_cons, List.map_nil])
  · rintro _ fr79 h80 rfl ⟨f82, f83, f84, hS81⟩
    dsimp only [jnO] at hk6
    unfold impl_inOrder_j2 at hk6
    simp only [run_seq, run_reg, run_mv, run_ops_nil, run_ret, put_at, put_no, ev_t, ev_c, reduceIte, Nat.reduceEqDiff, List.map_cons, List.map_nil]
    have he := some_inj hk6
    subst he
    simp only [end_ret1, put_at, put_no, ev_t, ev_c, reduceIte, Nat.reduceEqDiff, List.map_cons, List.map_nil]
    exact rfl
theorem impl_isLegal_x {W : Nat → Bool} {h : Heap} (hW : ∀ b,
    h.length ≤ b → W b = true) (l_0 : List Call) (order_1 : List Int) (r : Bool) (hF : impl_isLegal l_0 order_1 = some r) : Ret E W 58 [lst Call.cells l_0,
    lst cI order_1] h (fun v h' => cut h.length h' E.sz false 9 v = some (.bool r)) := by
  refine Ret.of (fn := x58) rfl (Run.of ?_)
  unfold impl_isLegal at hF
  have zf0 : argFr [lst Call.cells l_0, lst cI order_1] 0 = lst Call.cells l_0 := rfl
  have zf1 : argFr [lst Call.cells l_0, lst cI order_1] 1 = lst cI order_1 := rfl
  generalize argFr [lst Call.cells l_0, lst cI order_1] = fr0 at zf0 zf1 ⊢
  have hS : Sep h h.length [] := Sep.nil h
  simp only [x58, run_seq, run_reg, run_mv, run_ops_nil, x58_10, run_build, evp, put_at, put_no, ev_t, ev_c, reduceIte, Nat.reduceEqDiff, List.map_cons, List.map_nil]
  refine put1_eq (v := .agg [.int .i64 0, .int .i64 0, .int .i64 0]) rfl ?_
  simp only [run_new, put_at, put_no, ev_t, ev_c, reduceIte, Nat.reduceEqDiff, List.map_cons, List.map_nil]
  refine put2_newC hS (fun b1 h2 hS3 => ?_)
  have hS5 : Sep h2 h.length ([Blk1 b1 (List.map cI [(0 : Int), (0 : Int), (0 : Int)]).flatten 81] ++ ([])) := hS3
  simp only [run_st, put_at, put_no, ev_t, ev_c, reduceIte, Nat.reduceEqDiff, List.map_cons, List.map_nil]
  refine put2_stC (cs' := [.int .i64 0, .int .i64 0, .int .i64 0]) hS5 hW rfl rfl (Nat.le_of_ble_eq_true rfl) rfl (fun h6 hS7 => ?_)
  have hS8 : Sep h6 h.length ([Blk1 b1 (List.map cI [(0 : Int), (0 : Int), (0 : Int)]).flatten 81] ++ ([])) := hS7
  simp only [put_no, run_ops_nil, x58_9, run_seq, run_reg, zf1, run_mv, run_len, put1_some, xlen_lst, put_at, ev_t, ev_c, reduceIte, Nat.reduceEqDiff, List.map_cons, List.map_nil]
  obtain ⟨oc13, hX15, hk16⟩ := jn_some hF
  simp only [x58_8]
  refine rangeL_j (σ := (List Int)) order_1 (fun i11 x12 s65 => impl_isLegal_b1 l_0 i11 x12 s65)
      (fun s fr' h' => fr' 0 = lst Call.cells l_0 ∧ fr' 5 = .ptr b1 0 ∧ fr' 10 = lst cI order_1 ∧ Sep h' h.length ([Blk1 b1 (List.map cI s).flatten 81] ++
      ([]))) hX15 ⟨by simp only [zf0, put_at, put_no, ev_t, ev_c, reduceIte, Nat.reduceEqDiff, List.map_cons, List.map_nil], by simp only [put_at, put_no, ev_t, ev_c, reduceIte,
      Nat.reduceEqDiff, List.map_cons, List.map_nil], by simp only [put_at, put_no, ev_t, ev_c, reduceIte, Nat.reduceEqDiff, List.map_cons, List.map_nil],
      hS8⟩ (by simp only [put_at, put_no, ev_t, ev_c, reduceIte, Nat.reduceEqDiff, List.map_cons, List.map_nil]) (by simp only [put_at, put_no, ev_t, ev_c, reduceIte,
      Nat.reduceEqDiff, List.map_cons, List.map_nil]) (fun _ _ _ h => h) rfl rfl (fun _ _ _ _ h => h) (fun _ _ _ _ h => h) (fun _ _ _ _ h => h) (by decide) ?_ ?_
  · rintro i11 x12 s10 fr25 h26 hx31 ⟨f28, f29, f30, hS27⟩ f32 f33 oc14 hF17 hr18 Q19 hN20 hB24 hK21 hR22 hE23
    unfold impl_isLegal_b1 at hF17
    simp only [x58_6, run_seq, run_reg, f30, f32, run_ia, put_at, put_no, ev_t, ev_c, reduceIte, Nat.reduceEqDiff, List.map_cons, List.map_nil]
    refine put1_eq (v := .ref (cI x12) 0) (xia_lstN hx31 rfl) ?_
    simp only [run_ld, put_at, put_no, ev_t, ev_c, reduceIte, Nat.reduceEqDiff, List.map_cons, List.map_nil]
    refine put1_eq (v := .int .i64 x12) rfl ?_
    obtain ⟨x34, hx35, hF36⟩ := bind_some' hF17
    simp only [run_mv, run_ops_nil, x58_5, run_seq, run_reg, f28, run_ia, put_at, put_no, ev_t, ev_c, reduceIte, Nat.reduceEqDiff, List.map_cons, List.map_nil]
    refine put1_eq (v := .ref (Call.cells x34) 0) (xia_lst hx35 rfl) ?_
    simp only [run_ld, put_at, put_no, ev_t, ev_c, reduceIte, Nat.reduceEqDiff, List.map_cons, List.map_nil]
    refine put1_eq (v := .agg [.int .i64 x34.Client, .int .i64 x34.Object, .bool x34.Write, .int .i64 x34.Value, .int .i64 x34.Begin, .int .i64 x34.End]) rfl ?_
    simp only [run_new, put_at, put_no, ev_t, ev_c, reduceIte, Nat.reduceEqDiff, List.map_cons, List.map_nil]
    refine put2_newC hS27 (fun b37 h38 hS39 => ?_)
    simp only [run_st, put_at, put_no, ev_t, ev_c, reduceIte, Nat.reduceEqDiff, List.map_cons, List.map_nil]
    refine put2_stC (cs' := [.int .i64 x34.Client, .int .i64 x34.Object, .bool x34.Write, .int .i64 x34.Value, .int .i64 x34.Begin,
        .int .i64 x34.End]) hS39 hW rfl rfl (Nat.le_of_ble_eq_true rfl) rfl (fun h41 hS42 => ?_)
    simp only [put_no, run_ops_nil, put_at, ev_t, ev_c, reduceIte, Nat.reduceEqDiff, List.map_cons, List.map_nil]
    refine frz_stepC hS42 hW (by simp only [put_at, put_no, ev_t, ev_c, reduceIte, Nat.reduceEqDiff, List.map_cons, List.map_nil]) (fun h43 hS44 => ?_)
    simp only [run_frz_nil, x58_4, run_seq, run_reg, run_fa, put1_some, Nat.reduceAdd, Nat.zero_add, Nat.add_zero, xfa_ref, run_ld, put_at, put_no, ev_t, ev_c, reduceIte,
        Nat.reduceEqDiff, List.map_cons, List.map_nil]
    refine put1_eq (v := .bool x34.Write) rfl ?_
    simp only [run_ops_nil, x58_3, run_cond, put_at, put_no, ev_t, ev_c, reduceIte, Nat.reduceEqDiff, List.map_cons, List.map_nil]
    refine cond_split (t := x34.Write) (fun hc45 => ?_) (fun hc45 => ?_)
    · rw [iteT hc45] at hF36
      simp only [x58_1, run_reg, run_fa, put1_some, Nat.reduceAdd, Nat.zero_add, Nat.add_zero, xfa_ref, run_ld, put_at, put_no, ev_t, ev_c, reduceIte, Nat.reduceEqDiff,
          List.map_cons, List.map_nil]
      refine put1_eq (v := .int .i64 x34.Object) rfl ?_
      simp only [run_fa, put1_some, Nat.reduceAdd, Nat.zero_add, Nat.add_zero, xfa_ref, run_ld, put_at, put_no, ev_t, ev_c, reduceIte, Nat.reduceEqDiff, List.map_cons,
          List.map_nil]
      refine put1_eq (v := .int .i64 x34.Value) rfl ?_
      obtain ⟨x46, hx47, hF48⟩ := bind_some' hF36
      obtain ⟨hp49, hF50⟩ := ck_some hF48
      simp only [f29, run_iaA, put_at, put_no, ev_t, ev_c, reduceIte, Nat.reduceEqDiff, List.map_cons, List.map_nil]
      refine put2_iaA (geti_some hx47).1 hp49 ?_
      simp only [run_st, put_at, put_no, ev_t, ev_c, reduceIte, Nat.reduceEqDiff, List.map_cons, List.map_nil]
      refine put2_starr (f1 := cI) (x' := x34.Value) hS44 hW hx47 (fun _ => rfl) rfl rfl (fun h51 hS52 => ?_)
      have hx53 := geti_set (x' := x34.Value) hx47
      simp only [put_no, run_ops_nil, run_nil, put_at, ev_t, ev_c, reduceIte, Nat.reduceEqDiff, List.map_cons, List.map_nil]
      have e54 := some_inj hF50
      exact hN20 _ _ _ e54.symm ⟨by simp only [f28, put_at, put_no, ev_t, ev_c, reduceIte, Nat.reduceEqDiff, List.map_cons, List.map_nil], by simp only [f29, put_at, put_no, ev_t,
          ev_c, reduceIte, Nat.reduceEqDiff, List.map_cons, List.map_nil], by simp only [f30, put_at, put_no, ev_t, ev_c, reduceIte, Nat.reduceEqDiff, List.map_cons,
          List.map_nil], hS52⟩ (by simp only [f32, put_at, put_no, ev_t, ev_c, reduceIte, Nat.reduceEqDiff, List.map_cons, List.map_nil]) (by simp only [f33, put_at, put_no, ev_t,
          ev_c, reduceIte, Nat.reduceEqDiff, List.map_cons, List.map_nil])
    · rw [iteF hc45] at hF36
      simp only [x58_2, run_seq, run_draw, d4_fa, put1d_some, Nat.reduceAdd, Nat.zero_add, Nat.add_zero, xfa_ref, d4_ld, put_at, put_no, ev_t, ev_c, reduceIte, Nat.reduceEqDiff,
          List.map_cons, List.map_nil]
      refine put1d_eq (v := .int .i64 x34.Object) rfl ?_
      obtain ⟨x55, hx56, hF57⟩ := bind_some' hF36
      obtain ⟨hp58, hF59⟩ := ck_some hF57
      simp only [f29, d4_iaA, put_at, put_no, ev_t, ev_c, reduceIte, Nat.reduceEqDiff, List.map_cons, List.map_nil]
      refine put1d_eq (xiaA_i (geti_some hx56).1 hp58) ?_
      simp only [d4_ld, put_at, put_no, ev_t, ev_c, reduceIte, Nat.reduceEqDiff, List.map_cons, List.map_nil]
      refine put1d_eq (v := .int .i64 x55) ((arr_ld (f1 := cI) (Sep.bk _ _ _ hS44) hx56 (fun _ => rfl)).trans rfl) ?_
      simp only [d4_fa, put1d_some, Nat.reduceAdd, Nat.zero_add, Nat.add_zero, xfa_ref, d4_ld, put_at, put_no, ev_t, ev_c, reduceIte, Nat.reduceEqDiff, List.map_cons, List.map_nil]
      refine put1d_eq (v := .int .i64 x34.Value) rfl ?_
      simp only [d4_bin, put1d_some, xneq, run_draw_nil, run_cond, put_at, put_no, ev_t, ev_c, reduceIte, Nat.reduceEqDiff, List.map_cons, List.map_nil]
      refine cond_split (t := (decide (x55 ≠ x34.Value))) (fun hc60 => ?_) (fun hc60 => ?_)
      · rw [iteT hc60] at hF59
        simp only [run_seq, run_reg, run_mv, run_ops_nil, run_ret, put_at, put_no, ev_t, ev_c, reduceIte, Nat.reduceEqDiff, List.map_cons, List.map_nil]
        have e61 := some_inj hF59
        subst e61
        have ho62 := hr18 _ rfl
        have hk63 := hk16
        rw [ho62] at hk63
        dsimp only [jnO] at hk63
        apply hR22
        have he := some_inj hk63
        subst he
        simp only [end_ret1, put_at, put_no, ev_t, ev_c, reduceIte, Nat.reduceEqDiff, List.map_cons, List.map_nil]
        exact rfl
      · rw [iteF hc60] at hF59
        simp only [run_skip, run_nil, put_at, put_no, ev_t, ev_c, reduceIte, Nat.reduceEqDiff, List.map_cons, List.map_nil]
        have e64 := some_inj hF59
        exact hN20 _ _ _ e64.symm ⟨by simp only [f28, put_at, put_no, ev_t, ev_c, reduceIte, Nat.reduceEqDiff, List.map_cons, List.map_nil], by simp only [f29, put_at, put_no,
            ev_t, ev_c, reduceIte, Nat.reduceEqDiff, List.map_cons, List.map_nil], by simp only [f30, put_at, put_no, ev_t, ev_c, reduceIte, Nat.reduceEqDiff, List.map_cons,
            List.map_nil], hS44⟩ (by simp only [f32, put_at, put_no, ev_t, ev_c, reduceIte, Nat.reduceEqDiff, List.map_cons, List.map_nil]) (by simp only [f33, put_at, put_no,
            ev_t, ev_c, reduceIte, Nat.reduceEqDiff, List.map_cons, List.map_nil])
  · rintro s66 fr67 h68 rfl ⟨f70, f71, f72, hS69⟩
    dsimp only [jnO] at hk16
    unfold impl_isLegal_j1 at hk16
    simp only [run_seq, run_reg, run_mv, run_ops_nil, run_ret, put_at, put_no, ev_t, ev_c, reduceIte, Nat.reduceEqDiff, List.map_cons, List.map_nil]
    have he := some_inj hk16
    subst he
    simp only [end_ret1, put_at, put_no, ev_t, ev_c, reduceIte, Nat.reduceEqDiff, List.map_cons, List.map_nil]
    exact rfl
theorem slices_Index_int_x {W : Nat → Bool} {h : Heap} (hW : ∀ b,
    h.length ≤ b → W b = true) (s_0 : List Int) (v_1 : Int) (r : Int) (hF : slices_Index_int s_0 v_1 = some r) : Ret E W 74 [lst cI s_0,
    .int .i64 v_1] h (fun v h' => cut h.length h' E.sz false 9 v = some (.int .i64 r)) := by
  refine Ret.of (fn := x74) rfl (Run.of ?_)
  unfold slices_Index_int at hF
  have zf0 : argFr [lst cI s_0, .int .i64 v_1] 0 = lst cI s_0 := rfl
  have zf1 : argFr [lst cI s_0, .int .i64 v_1] 1 = .int .i64 v_1 := rfl
  generalize argFr [lst cI s_0, .int .i64 v_1] = fr0 at zf0 zf1 ⊢
  have hS : Sep h h.length [] := Sep.nil h
  simp only [x74, run_seq, run_reg, run_mv, run_ops_nil, x74_6, zf0, run_len, put1_some, xlen_lst, put_at, put_no, ev_t, ev_c, reduceIte, Nat.reduceEqDiff, List.map_cons,
      List.map_nil]
  obtain ⟨oc3, hX5, hk6⟩ := jn_some hF
  simp only [x74_5]
  refine rangeL_j (σ := Unit) s_0 (fun i1 x2 _ => slices_Index_int_b1 v_1 i1 x2 ) (fun s fr' h' => fr' 0 = lst cI s_0 ∧ fr' 1 = .int .i64 v_1 ∧ Sep h' h.length
      ([])) hX5 ⟨by simp only [zf0, put_at, put_no, ev_t, ev_c, reduceIte, Nat.reduceEqDiff, List.map_cons, List.map_nil], by simp only [zf1, put_at, put_no, ev_t, ev_c,
      reduceIte, Nat.reduceEqDiff, List.map_cons, List.map_nil], hS⟩ (by simp only [put_at, put_no, ev_t, ev_c, reduceIte, Nat.reduceEqDiff, List.map_cons,
      List.map_nil]) (by simp only [put_at, put_no, ev_t, ev_c, reduceIte, Nat.reduceEqDiff, List.map_cons,
      List.map_nil]) (fun _ _ _ h => h) rfl rfl (fun _ _ _ _ h => h) (fun _ _ _ _ h => h) (fun _ _ _ _ h => h) (by decide) ?_ ?_
  · rintro i1 x2 _ fr15 h16 hx20 ⟨f18, f19, hS17⟩ f21 f22 oc4 hF7 hr8 Q9 hN10 hB14 hK11 hR12 hE13
    unfold slices_Index_int_b1 at hF7
    simp only [x74_3, run_seq, run_reg, f21, run_mv, run_ops_nil, x74_2, f19, f18, run_ia, put_at, put_no, ev_t, ev_c, reduceIte, Nat.reduceEqDiff, List.map_cons, List.map_nil]
    refine put1_eq (v := .ref (cI x2) 0) (xia_lstN hx20 rfl) ?_
    simp only [run_ld, put_at, put_no, ev_t, ev_c, reduceIte, Nat.reduceEqDiff, List.map_cons, List.map_nil]
    refine put1_eq (v := .int .i64 x2) rfl ?_
    simp only [run_bin, put1_some, xeql, run_ops_nil, x74_1, run_cond, put_at, put_no, ev_t, ev_c, reduceIte, Nat.reduceEqDiff, List.map_cons, List.map_nil]
    refine cond_split (t := (decide (v_1 = x2))) (fun hc23 => ?_) (fun hc23 => ?_)
    · rw [iteT hc23] at hF7
      simp only [run_seq, run_reg, run_mv, run_ops_nil, run_ret, put_at, put_no, ev_t, ev_c, reduceIte, Nat.reduceEqDiff, List.map_cons, List.map_nil]
      have e24 := some_inj hF7
      subst e24
      have ho25 := hr8 _ rfl
      have hk26 := hk6
      rw [ho25] at hk26
      dsimp only [jnO] at hk26
      apply hR12
      have he := some_inj hk26
      subst he
      simp only [end_ret1, put_at, put_no, ev_t, ev_c, reduceIte, Nat.reduceEqDiff, List.map_cons, List.map_nil]
      exact rfl
    · rw [iteF hc23] at hF7
      simp only [run_skip, run_nil, put_at, put_no, ev_t, ev_c, reduceIte, Nat.reduceEqDiff, List.map_cons, List.map_nil]
      have e27 := some_inj hF7
      exact hN10 _ _ _ e27.symm ⟨by simp only [f18, put_at, put_no, ev_t, ev_c, reduceIte, Nat.reduceEqDiff, List.map_cons, List.map_nil], by simp only [f19, put_at, put_no, ev_t,
          ev_c, reduceIte, Nat.reduceEqDiff, List.map_cons, List.map_nil], hS17⟩ (by simp only [f21, put_at, put_no, ev_t, ev_c, reduceIte, Nat.reduceEqDiff, List.map_cons,
          List.map_nil]) (by simp only [f22, put_at, put_no, ev_t, ev_c, reduceIte, Nat.reduceEqDiff, List.map_cons, List.map_nil])
  · rintro _ fr29 h30 rfl ⟨f32, f33, hS31⟩
    dsimp only [jnO] at hk6
    unfold slices_Index_int_j1 at hk6
    simp only [run_seq, run_reg, run_mv, run_ops_nil, run_ret, put_at, put_no, ev_t, ev_c, reduceIte, Nat.reduceEqDiff, List.map_cons, List.map_nil]
    have he := some_inj hk6
    subst he
    simp only [end_ret1, put_at, put_no, ev_t, ev_c, reduceIte, Nat.reduceEqDiff, List.map_cons, List.map_nil]
    exact rfl
theorem slices_Contains_int_x {W : Nat → Bool} {h : Heap} (hW : ∀ b,
    h.length ≤ b → W b = true) (s_0 : List Int) (v_1 : Int) (r : Bool) (hF : slices_Contains_int s_0 v_1 = some r) : Ret E W 68 [lst cI s_0,
    .int .i64 v_1] h (fun v h' => cut h.length h' E.sz false 9 v = some (.bool r)) := by
  refine Ret.of (fn := x68) rfl (Run.of ?_)
  unfold slices_Contains_int at hF
  have zf0 : argFr [lst cI s_0, .int .i64 v_1] 0 = lst cI s_0 := rfl
  have zf1 : argFr [lst cI s_0, .int .i64 v_1] 1 = .int .i64 v_1 := rfl
  generalize argFr [lst cI s_0, .int .i64 v_1] = fr0 at zf0 zf1 ⊢
  have hS : Sep h h.length [] := Sep.nil h
  obtain ⟨v1, hx2, hF3⟩ := bind_some' hF
  simp only [x68, run_seq, run_reg, run_mv, run_ops_nil, x68_1, zf0, zf1, run_call, put_at, put_no, ev_t, ev_c, reduceIte, Nat.reduceEqDiff, List.map_cons, List.map_nil]
  refine call1 rfl (mapM1 snap_lst (mapM1 snap_int mapM0)) (slices_Index_int_x (fun b hb => decide_eq_true hb) s_0 v_1 v1 hx2) ?_
  simp only [run_bin, put1_some, xgeq, run_mv, run_ops_nil, run_ret, put_at, put_no, ev_t, ev_c, reduceIte, Nat.reduceEqDiff, List.map_cons, List.map_nil]
  have he := some_inj hF3
  subst he
  simp only [end_ret1, put_at, put_no, ev_t, ev_c, reduceIte, Nat.reduceEqDiff, List.map_cons, List.map_nil]
  exact rfl
end Go.Proofs.Ytddkoiapboeemaa.X
