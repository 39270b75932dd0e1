/- The functions' code comes to what the plain functions say (2). -/
import Derived.Test.YtddkoiapboeemaaXFH1
set_option linter.unusedVariables false
set_option linter.unusedSimpArgs false
set_option maxRecDepth 100000
namespace Go.Proofs.Ytddkoiapboeemaa.X
open Go
theorem spec_l15Find_rec_x (rec : (List Call) → (List Int) → Bool → Option (List Int)) (hrec : ∀ {W : Nat → Bool} {h : Heap} {lo : Nat} {S0 : List Obj} (hW : ∀ b,
    lo ≤ b → W b = true) (v_0 : List Call) (pv1 : XV) (pc1 : List Obj) (v_1 : List Int) (ph1 : SlF cI 1 3 pv1 v_1 pc1) (v_2 : Bool) (r : List Int) (hF : rec v_0 v_1 v_2 = some r)
    (hS : Sep h lo (pc1 ++ (S0))), Ret E W 48 [lst Call.cells v_0, pv1, .bool v_2] h (fun v h' => ∃ rv0 rc0,
    v = rv0 ∧ SlF cI 1 3 rv0 r rc0 ∧ Sep h' lo (rc0 ++ (S0)))) {W : Nat → Bool} {h : Heap} {lo : Nat} {S0 : List Obj} (hW : ∀ b,
    lo ≤ b → W b = true) (v_0 : List Call) (pv1 : XV) (pc1 : List Obj) (v_1 : List Int) (ph1 : SlF cI 1 3 pv1 v_1 pc1) (v_2 : Bool) (r : List Int)
    (hF : spec_l15Find_rec rec v_0 v_1 v_2 = some r) (hS : Sep h lo (pc1 ++ (S0))) : Ret E W 48 [lst Call.cells v_0, pv1, .bool v_2] h (fun v h' => ∃ rv0 rc0,
    v = rv0 ∧ SlF cI 1 3 rv0 r rc0 ∧ Sep h' lo (rc0 ++ (S0))) := by
  refine Ret.of (fn := x48) rfl (Run.of ?_)
  unfold spec_l15Find_rec at hF
  have zf0 : argFr [lst Call.cells v_0, pv1, .bool v_2] 0 = lst Call.cells v_0 := rfl
  have zf1 : argFr [lst Call.cells v_0, pv1, .bool v_2] 1 = pv1 := rfl
  have zf2 : argFr [lst Call.cells v_0, pv1, .bool v_2] 2 = .bool v_2 := rfl
  generalize argFr [lst Call.cells v_0, pv1, .bool v_2] = fr0 at zf0 zf1 zf2 ⊢
  obtain ⟨v1, hx2, hF3⟩ := bind_some' hF
  simp only [x48, run_seq, run_reg, run_mv, run_ops_nil, x48_17, zf0, zf1, run_call, put_at, put_no, ev_t, ev_c, reduceIte, Nat.reduceEqDiff, List.map_cons, List.map_nil]
  refine call1 rfl (mapM1 snap_lst (mapM1 (SlF.snap ph1 hS rfl (fun _ => rfl) (fun _ => rfl)) mapM0)) (spec_l15Legal_x (fun b hb => decide_eq_true hb) v_0 v_1 v1 hx2) ?_
  simp only [run_un, put1_some, xnot, run_ops_nil, run_cond, put_at, put_no, ev_t, ev_c, reduceIte, Nat.reduceEqDiff, List.map_cons, List.map_nil]
  refine cond_split (t := (!v1)) (fun hc4 => ?_) (fun hc4 => ?_)
  · rw [iteT hc4] at hF3
    simp only [run_seq, run_reg, run_mv, run_ops_nil, run_ret, put_at, put_no, ev_t, ev_c, reduceIte, Nat.reduceEqDiff, List.map_cons, List.map_nil]
    have he := some_inj hF3
    subst he
    simp only [end_ret1, put_at, put_no, ev_t, ev_c, reduceIte, Nat.reduceEqDiff, List.map_cons, List.map_nil]
    exact ⟨.nil, [], by first | trivial | rfl, SlF.nil, (Sep.dc (hS))⟩
  · rw [iteF hc4] at hF3
    simp only [run_skip, x48_16, run_seq, run_reg, zf1, run_mv, run_len, put1_some, SlF.plen ph1, zf0, xlen_lst, run_bin, xeql, run_ops_nil, x48_1, run_cond, put_at, put_no, ev_t,
        ev_c, reduceIte, Nat.reduceEqDiff, List.map_cons, List.map_nil]
    refine cond_split (t := (decide ((List.length v_1 : Int) = (List.length v_0 : Int)))) (fun hc5 => ?_) (fun hc5 => ?_)
    · rw [iteT hc5] at hF3
      simp only [run_seq, run_reg, zf1, run_mv, run_ops_nil, run_ret, put_at, put_no, ev_t, ev_c, reduceIte, Nat.reduceEqDiff, List.map_cons, List.map_nil]
      have he := some_inj hF3
      subst he
      simp only [end_ret1, put_at, put_no, ev_t, ev_c, reduceIte, Nat.reduceEqDiff, List.map_cons, List.map_nil]
      exact ⟨pv1, pc1, by first | trivial | rfl, ph1, hS⟩
    · rw [iteF hc5] at hF3
      simp only [run_skip, x48_15, run_seq, run_reg, zf0, run_mv, run_len, put1_some, xlen_lst, run_ops_nil, put_at, put_no, ev_t, ev_c, reduceIte, Nat.reduceEqDiff,
          List.map_cons, List.map_nil]
      obtain ⟨oc8, hX10, hk11⟩ := jn_some hF3
      simp only [x48_14]
      refine rangeL_j (σ := Unit) v_0 (fun i6 x7 _ => spec_l15Find_b2 v_0 v_1 v_2 rec i6 x7 )
          (fun s fr' h' => fr' 0 = lst Call.cells v_0 ∧ fr' 1 = pv1 ∧ fr' 2 = .bool v_2 ∧ fr' 23 = lst Call.cells v_0 ∧ Sep h' lo (pc1 ++ (S0))) hX10 ⟨by simp only [zf0, put_at,
          put_no, ev_t, ev_c, reduceIte, Nat.reduceEqDiff, List.map_cons, List.map_nil], by simp only [zf1, put_at, put_no, ev_t, ev_c, reduceIte, Nat.reduceEqDiff, List.map_cons,
          List.map_nil], by simp only [zf2, put_at, put_no, ev_t, ev_c, reduceIte, Nat.reduceEqDiff, List.map_cons, List.map_nil], by simp only [put_at, put_no, ev_t, ev_c,
          reduceIte, Nat.reduceEqDiff, List.map_cons, List.map_nil], hS⟩ (by simp only [put_at, put_no, ev_t, ev_c, reduceIte, Nat.reduceEqDiff, List.map_cons,
          List.map_nil]) (by simp only [put_at, put_no, ev_t, ev_c, reduceIte, Nat.reduceEqDiff, List.map_cons,
          List.map_nil]) (fun _ _ _ h => h) rfl rfl (fun _ _ _ _ h => h) (fun _ _ _ _ h => h) (fun _ _ _ _ h => h) (by decide) ?_ ?_
      · rintro i6 x7 _ fr20 h21 hx27 ⟨f23, f24, f25, f26, hS22⟩ f28 f29 oc9 hF12 hr13 Q14 hN15 hB19 hK16 hR17 hE18
        unfold spec_l15Find_b2 at hF12
        simp only [x48_12, run_seq, run_reg, f28, run_mv, f26, run_ia, put_at, put_no, ev_t, ev_c, reduceIte, Nat.reduceEqDiff, List.map_cons, List.map_nil]
        refine put1_eq (v := .ref (Call.cells x7) 0) (xia_lstN hx27 rfl) ?_
        simp only [run_ld, put_at, put_no, ev_t, ev_c, reduceIte, Nat.reduceEqDiff, List.map_cons, List.map_nil]
        refine put1_eq (v := .agg [.int .i64 x7.Client, .int .i64 x7.Object, .bool x7.Write, .int .i64 x7.Value, .int .i64 x7.Begin, .int .i64 x7.End]) rfl ?_
        simp only [run_new, put_at, put_no, ev_t, ev_c, reduceIte, Nat.reduceEqDiff, List.map_cons, List.map_nil]
        refine put2_newC hS22 (fun b30 h31 hS32 => ?_)
        simp only [run_mv, run_st, put_at, put_no, ev_t, ev_c, reduceIte, Nat.reduceEqDiff, List.map_cons, List.map_nil]
        refine put2_stC (cs' := [.int .i64 x7.Client, .int .i64 x7.Object, .bool x7.Write, .int .i64 x7.Value, .int .i64 x7.Begin,
            .int .i64 x7.End]) hS32 hW rfl rfl (Nat.le_of_ble_eq_true rfl) rfl (fun h34 hS35 => ?_)
        simp only [put_no, run_ops_nil, put_at, ev_t, ev_c, reduceIte, Nat.reduceEqDiff, List.map_cons, List.map_nil]
        refine frz_stepC hS35 hW (by simp only [put_at, put_no, ev_t, ev_c, reduceIte, Nat.reduceEqDiff, List.map_cons, List.map_nil]) (fun h36 hS37 => ?_)
        obtain ⟨v38, hx39, hF40⟩ := bind_some' hF12
        simp only [run_frz_nil, x48_11, run_seq, run_reg, f24, run_mv, run_call, put_at, put_no, ev_t, ev_c, reduceIte, Nat.reduceEqDiff, List.map_cons, List.map_nil]
        refine call1 rfl (mapM1 (SlF.snap ph1 hS37 rfl (fun _ => rfl) (fun _ => rfl)) (mapM1 snap_int mapM0)) (spec_l1Has_x (fun b hb => decide_eq_true hb) v_1
            (i6 : Int) v38 hx39) ?_
        simp only [run_un, put1_some, xnot, run_mv, run_ops_nil, x48_10, run_seq, run_reg, f23, run_len, xlen_lst, put_at, put_no, ev_t, ev_c, reduceIte, Nat.reduceEqDiff,
            List.map_cons, List.map_nil]
        obtain ⟨oc45, hX47, hk48⟩ := jn_some hF40
        simp only [x48_5]
        refine rangeL_j (σ := Bool) v_0 (fun i43 x44 s139 => spec_l15Find_b1 v_1 v_2 i6 x7 i43 x44 s139)
            (fun s fr' h' => fr' 0 = lst Call.cells v_0 ∧ fr' 1 = pv1 ∧ fr' 2 = .bool v_2 ∧ fr' 7 = .int .i64 (i6 : Int) ∧ fr' 8 = .ref [.int .i64 x7.Client, .int .i64 x7.Object,
            .bool x7.Write, .int .i64 x7.Value, .int .i64 x7.Begin,
            .int .i64 x7.End] 0 ∧ fr' 9 = .bool s ∧ fr' 23 = lst Call.cells v_0 ∧ fr' 24 = .int .i64 (List.length v_0 : Int) ∧ fr' 25 = .int .i64
            (i6 : Int) ∧ fr' 34 = lst Call.cells v_0 ∧ Sep h' lo (pc1 ++ (S0))) hX47 ⟨by simp only [f23, put_at, put_no, ev_t, ev_c, reduceIte, Nat.reduceEqDiff, List.map_cons,
            List.map_nil], by simp only [f24, put_at, put_no, ev_t, ev_c, reduceIte, Nat.reduceEqDiff, List.map_cons, List.map_nil], by simp only [f25, put_at, put_no, ev_t, ev_c,
            reduceIte, Nat.reduceEqDiff, List.map_cons, List.map_nil], by simp only [put_at, put_no, ev_t, ev_c, reduceIte, Nat.reduceEqDiff, List.map_cons, List.map_nil],
            by simp only [put_at, put_no, ev_t, ev_c, reduceIte, Nat.reduceEqDiff, List.map_cons, List.map_nil], by simp only [put_at, put_no, ev_t, ev_c, reduceIte,
            Nat.reduceEqDiff, List.map_cons, List.map_nil], by simp only [f26, put_at, put_no, ev_t, ev_c, reduceIte, Nat.reduceEqDiff, List.map_cons, List.map_nil],
            by simp only [f29, put_at, put_no, ev_t, ev_c, reduceIte, Nat.reduceEqDiff, List.map_cons, List.map_nil], by simp only [f28, put_at, put_no, ev_t, ev_c, reduceIte,
            Nat.reduceEqDiff, List.map_cons, List.map_nil], by simp only [put_at, put_no, ev_t, ev_c, reduceIte, Nat.reduceEqDiff, List.map_cons, List.map_nil],
            hS37⟩ (by simp only [put_at, put_no, ev_t, ev_c, reduceIte, Nat.reduceEqDiff, List.map_cons, List.map_nil]) (by simp only [put_at, put_no, ev_t, ev_c, reduceIte,
            Nat.reduceEqDiff, List.map_cons, List.map_nil]) (fun _ _ _ h => h) rfl rfl (fun _ _ _ _ h => h) (fun _ _ _ _ h => h) (fun _ _ _ _ h => h) (by decide) ?_ ?_
        · rintro i43 x44 s42 fr57 h58 hx70 ⟨f60, f61, f62, f63, f64, f65, f66, f67, f68, f69, hS59⟩ f71 f72 oc46 hF49 hr50 Q51 hN52 hB56 hK53 hR54 hE55
          unfold spec_l15Find_b1 at hF49
          simp only [x48_3, run_seq, run_reg, f71, run_mv, f69, run_ia, put_at, put_no, ev_t, ev_c, reduceIte, Nat.reduceEqDiff, List.map_cons, List.map_nil]
          refine put1_eq (v := .ref (Call.cells x44) 0) (xia_lstN hx70 rfl) ?_
          simp only [run_ld, put_at, put_no, ev_t, ev_c, reduceIte, Nat.reduceEqDiff, List.map_cons, List.map_nil]
          refine put1_eq (v := .agg [.int .i64 x44.Client, .int .i64 x44.Object, .bool x44.Write, .int .i64 x44.Value, .int .i64 x44.Begin, .int .i64 x44.End]) rfl ?_
          simp only [run_new, put_at, put_no, ev_t, ev_c, reduceIte, Nat.reduceEqDiff, List.map_cons, List.map_nil]
          refine put2_newC hS59 (fun b73 h74 hS75 => ?_)
          simp only [run_mv, run_st, put_at, put_no, ev_t, ev_c, reduceIte, Nat.reduceEqDiff, List.map_cons, List.map_nil]
          refine put2_stC (cs' := [.int .i64 x44.Client, .int .i64 x44.Object, .bool x44.Write, .int .i64 x44.Value, .int .i64 x44.Begin,
              .int .i64 x44.End]) hS75 hW rfl rfl (Nat.le_of_ble_eq_true rfl) rfl (fun h77 hS78 => ?_)
          simp only [put_no, run_ops_nil, put_at, ev_t, ev_c, reduceIte, Nat.reduceEqDiff, List.map_cons, List.map_nil]
          refine frz_stepC hS78 hW (by simp only [put_at, put_no, ev_t, ev_c, reduceIte, Nat.reduceEqDiff, List.map_cons, List.map_nil]) (fun h79 hS80 => ?_)
          simp only [run_frz_nil, x48_2, run_seq, run_reg, run_mv, f63, run_bin, put1_some, xneq, put_at, put_no, ev_t, ev_c, reduceIte, Nat.reduceEqDiff, List.map_cons,
              List.map_nil]
          obtain ⟨v84, hx85, hF86⟩ := bind_some' hF49
          refine ops_j 5 (fun fr' h' => Sep h' lo (pc1 ++ (S0)) ∧ fr' 49 = .bool v84 ∧ fr' 0 = lst Call.cells v_0 ∧ fr' 1 = pv1 ∧ fr' 2 = .bool v_2 ∧ fr' 7 = .int .i64
              (i6 : Int) ∧ fr' 8 = .ref [.int .i64 x7.Client, .int .i64 x7.Object, .bool x7.Write, .int .i64 x7.Value, .int .i64 x7.Begin,
              .int .i64 x7.End] 0 ∧ fr' 9 = .bool s42 ∧ fr' 11 = .ref [.int .i64 x44.Client, .int .i64 x44.Object, .bool x44.Write, .int .i64 x44.Value, .int .i64 x44.Begin,
              .int .i64 x44.End] 0 ∧ fr' 23 = lst Call.cells v_0 ∧ fr' 24 = .int .i64 (List.length v_0 : Int) ∧ fr' 25 = .int .i64
              (i6 : Int) ∧ fr' 34 = lst Call.cells v_0 ∧ fr' 35 = .int .i64 (List.length v_0 : Int) ∧ fr' 36 = .int .i64 (i43 : Int)) (fun Q81 hN82 => ?_) ?_
          · simp only [List.take_succ_cons, List.take_zero]
            simp only [run_guard (g := 44), put_at, put_no, ev_t, ev_c, reduceIte, Nat.reduceEqDiff, List.map_cons, List.map_nil]
            refine guard_split (t := (decide ((i43 : Int) ≠ (i6 : Int)))) (fun hg83 => ?_) (fun hg83 => ?_)
            · rw [iteT hg83] at hx85
              obtain ⟨v87, hx88, hF89⟩ := bind_some' hx85
              simp only [hg83, run_guard (g := 44), guard_true, f61, run_mv, run_call, put_at, put_no, ev_t, ev_c, reduceIte, Nat.reduceEqDiff, List.map_cons, List.map_nil]
              refine call1 rfl (mapM1 (SlF.snap ph1 hS80 rfl (fun _ => rfl) (fun _ => rfl)) (mapM1 snap_int mapM0)) (spec_l1Has_x (fun b hb => decide_eq_true hb) v_1
                  (i43 : Int) v87 hx88) ?_
              simp only [hg83, run_guard (g := 44), guard_true, run_un, put1_some, xnot, run_pick, xpick_t, run_ops_nil, run_nil, put_at, put_no, ev_t, ev_c, reduceIte,
                  Nat.reduceEqDiff, List.map_cons, List.map_nil]
              have e90 := some_inj hF89
              exact hN82 _ _ ⟨hS80, by rw [← e90]; simp only [put_at, put_no, ev_t, ev_c, reduceIte, Nat.reduceEqDiff, List.map_cons, List.map_nil], by simp only [f60, put_at,
                  put_no, ev_t, ev_c, reduceIte, Nat.reduceEqDiff, List.map_cons, List.map_nil], by simp only [f61, put_at, put_no, ev_t, ev_c, reduceIte, Nat.reduceEqDiff,
                  List.map_cons, List.map_nil], by simp only [f62, put_at, put_no, ev_t, ev_c, reduceIte, Nat.reduceEqDiff, List.map_cons, List.map_nil], by simp only [f63,
                  put_at, put_no, ev_t, ev_c, reduceIte, Nat.reduceEqDiff, List.map_cons, List.map_nil], by simp only [f64, put_at, put_no, ev_t, ev_c, reduceIte,
                  Nat.reduceEqDiff, List.map_cons, List.map_nil], by simp only [f65, put_at, put_no, ev_t, ev_c, reduceIte, Nat.reduceEqDiff, List.map_cons, List.map_nil],
                  by simp only [put_at, put_no, ev_t, ev_c, reduceIte, Nat.reduceEqDiff, List.map_cons, List.map_nil], by simp only [f66, put_at, put_no, ev_t, ev_c, reduceIte,
                  Nat.reduceEqDiff, List.map_cons, List.map_nil], by simp only [f67, put_at, put_no, ev_t, ev_c, reduceIte, Nat.reduceEqDiff, List.map_cons, List.map_nil],
                  by simp only [f68, put_at, put_no, ev_t, ev_c, reduceIte, Nat.reduceEqDiff, List.map_cons, List.map_nil], by simp only [f69, put_at, put_no, ev_t, ev_c,
                  reduceIte, Nat.reduceEqDiff, List.map_cons, List.map_nil], by simp only [f72, put_at, put_no, ev_t, ev_c, reduceIte, Nat.reduceEqDiff, List.map_cons,
                  List.map_nil], by simp only [f71, put_at, put_no, ev_t, ev_c, reduceIte, Nat.reduceEqDiff, List.map_cons, List.map_nil]⟩
            · rw [iteF hg83] at hx85
              simp only [hg83, run_guard (g := 44), guard_off, run_pick, put1_some, xpick_f, run_ops_nil, run_nil, put_at, put_no, ev_t, ev_c, reduceIte, Nat.reduceEqDiff,
                  List.map_cons, List.map_nil]
              have e91 := some_inj hx85
              exact hN82 _ _ ⟨hS80, by rw [← e91]; simp only [put_at, put_no, ev_t, ev_c, reduceIte, Nat.reduceEqDiff, List.map_cons, List.map_nil], by simp only [f60, put_at,
                  put_no, ev_t, ev_c, reduceIte, Nat.reduceEqDiff, List.map_cons, List.map_nil], by simp only [f61, put_at, put_no, ev_t, ev_c, reduceIte, Nat.reduceEqDiff,
                  List.map_cons, List.map_nil], by simp only [f62, put_at, put_no, ev_t, ev_c, reduceIte, Nat.reduceEqDiff, List.map_cons, List.map_nil], by simp only [f63,
                  put_at, put_no, ev_t, ev_c, reduceIte, Nat.reduceEqDiff, List.map_cons, List.map_nil], by simp only [f64, put_at, put_no, ev_t, ev_c, reduceIte,
                  Nat.reduceEqDiff, List.map_cons, List.map_nil], by simp only [f65, put_at, put_no, ev_t, ev_c, reduceIte, Nat.reduceEqDiff, List.map_cons, List.map_nil],
                  by simp only [put_at, put_no, ev_t, ev_c, reduceIte, Nat.reduceEqDiff, List.map_cons, List.map_nil], by simp only [f66, put_at, put_no, ev_t, ev_c, reduceIte,
                  Nat.reduceEqDiff, List.map_cons, List.map_nil], by simp only [f67, put_at, put_no, ev_t, ev_c, reduceIte, Nat.reduceEqDiff, List.map_cons, List.map_nil],
                  by simp only [f68, put_at, put_no, ev_t, ev_c, reduceIte, Nat.reduceEqDiff, List.map_cons, List.map_nil], by simp only [f69, put_at, put_no, ev_t, ev_c,
                  reduceIte, Nat.reduceEqDiff, List.map_cons, List.map_nil], by simp only [f72, put_at, put_no, ev_t, ev_c, reduceIte, Nat.reduceEqDiff, List.map_cons,
                  List.map_nil], by simp only [f71, put_at, put_no, ev_t, ev_c, reduceIte, Nat.reduceEqDiff, List.map_cons, List.map_nil]⟩
          · rintro fr92 h107 ⟨hS108, f93, f94, f95, f96, f97, f98, f99, f100, f101, f102, f103, f104, f105, f106⟩
            simp only [List.drop_succ_cons, List.drop_zero]
            simp only [f93, run_mv, put_at, put_no, ev_t, ev_c, reduceIte, Nat.reduceEqDiff, List.map_cons, List.map_nil]
            obtain ⟨v112, hx113, hF114⟩ := bind_some' hF86
            refine ops_j 5 (fun fr' h' => Sep h' lo (pc1 ++ (S0)) ∧ fr' 55 = .bool v112 ∧ fr' 0 = lst Call.cells v_0 ∧ fr' 1 = pv1 ∧ fr' 2 = .bool v_2 ∧ fr' 7 = .int .i64
                (i6 : Int) ∧ fr' 8 = .ref [.int .i64 x7.Client, .int .i64 x7.Object, .bool x7.Write, .int .i64 x7.Value, .int .i64 x7.Begin,
                .int .i64 x7.End] 0 ∧ fr' 9 = .bool s42 ∧ fr' 23 = lst Call.cells v_0 ∧ fr' 24 = .int .i64 (List.length v_0 : Int) ∧ fr' 25 = .int .i64
                (i6 : Int) ∧ fr' 34 = lst Call.cells v_0 ∧ fr' 35 = .int .i64 (List.length v_0 : Int) ∧ fr' 36 = .int .i64 (i43 : Int)) (fun Q109 hN110 => ?_) ?_
            · simp only [List.take_succ_cons, List.take_zero]
              simp only [run_guard (g := 50), put_at, put_no, ev_t, ev_c, reduceIte, Nat.reduceEqDiff, List.map_cons, List.map_nil]
              refine guard_split (t := v84) (fun hg111 => ?_) (fun hg111 => ?_)
              · rw [iteT hg111] at hx113
                simp only [hg111, run_guard (g := 50), guard_true, f100, run_ld, put_at, put_no, ev_t, ev_c, reduceIte, Nat.reduceEqDiff, List.map_cons, List.map_nil]
                refine put1_eq (v := .agg [.int .i64 x44.Client, .int .i64 x44.Object, .bool x44.Write, .int .i64 x44.Value, .int .i64 x44.Begin, .int .i64 x44.End]) rfl ?_
                simp only [hg111, run_guard (g := 50), guard_true, f98, run_ld, put_at, put_no, ev_t, ev_c, reduceIte, Nat.reduceEqDiff, List.map_cons, List.map_nil]
                refine put1_eq (v := .agg [.int .i64 x7.Client, .int .i64 x7.Object, .bool x7.Write, .int .i64 x7.Value, .int .i64 x7.Begin, .int .i64 x7.End]) rfl ?_
                obtain ⟨v115, hx116, hF117⟩ := bind_some' hx113
                simp only [hg111, run_guard (g := 50), guard_true, f96, run_mv, run_call, put_at, put_no, ev_t, ev_c, reduceIte, Nat.reduceEqDiff, List.map_cons, List.map_nil]
                refine call1 rfl (mapM1 (snap_agg (mapM1 snap_int (mapM1 snap_int (mapM1 snap_bool (mapM1 snap_int (mapM1 snap_int (mapM1 snap_int mapM0))))))) (mapM1 (snap_agg
                    (mapM1 snap_int (mapM1 snap_int (mapM1 snap_bool (mapM1 snap_int (mapM1 snap_int (mapM1 snap_int mapM0))))))) (mapM1 snap_bool mapM0))) (spec_l15Before_x
                    (fun b hb => decide_eq_true hb) x44 x7 v_2 v115 hx116) ?_
                simp only [hg111, run_pick, put1_some, xpick_t, run_ops_nil, run_nil, put_at, put_no, ev_t, ev_c, reduceIte, Nat.reduceEqDiff, List.map_cons, List.map_nil]
                have e118 := some_inj hF117
                exact hN110 _ _ ⟨hS108, by rw [← e118]; simp only [put_at, put_no, ev_t, ev_c, reduceIte, Nat.reduceEqDiff, List.map_cons, List.map_nil], by simp only [f94,
                    put_at, put_no, ev_t, ev_c, reduceIte, Nat.reduceEqDiff, List.map_cons, List.map_nil], by simp only [f95, put_at, put_no, ev_t, ev_c, reduceIte,
                    Nat.reduceEqDiff, List.map_cons, List.map_nil], by simp only [f96, put_at, put_no, ev_t, ev_c, reduceIte, Nat.reduceEqDiff, List.map_cons, List.map_nil],
                    by simp only [f97, put_at, put_no, ev_t, ev_c, reduceIte, Nat.reduceEqDiff, List.map_cons, List.map_nil], by simp only [f98, put_at, put_no, ev_t, ev_c,
                    reduceIte, Nat.reduceEqDiff, List.map_cons, List.map_nil], by simp only [f99, put_at, put_no, ev_t, ev_c, reduceIte, Nat.reduceEqDiff, List.map_cons,
                    List.map_nil], by simp only [f101, put_at, put_no, ev_t, ev_c, reduceIte, Nat.reduceEqDiff, List.map_cons, List.map_nil], by simp only [f102, put_at, put_no,
                    ev_t, ev_c, reduceIte, Nat.reduceEqDiff, List.map_cons, List.map_nil], by simp only [f103, put_at, put_no, ev_t, ev_c, reduceIte, Nat.reduceEqDiff,
                    List.map_cons, List.map_nil], by simp only [f104, put_at, put_no, ev_t, ev_c, reduceIte, Nat.reduceEqDiff, List.map_cons, List.map_nil], by simp only [f105,
                    put_at, put_no, ev_t, ev_c, reduceIte, Nat.reduceEqDiff, List.map_cons, List.map_nil], by simp only [f106, put_at, put_no, ev_t, ev_c, reduceIte,
                    Nat.reduceEqDiff, List.map_cons, List.map_nil]⟩
              · rw [iteF hg111] at hx113
                simp only [hg111, run_guard (g := 50), guard_off, run_pick, put1_some, xpick_f, run_ops_nil, run_nil, put_at, put_no, ev_t, ev_c, reduceIte, Nat.reduceEqDiff,
                    List.map_cons, List.map_nil]
                have e119 := some_inj hx113
                exact hN110 _ _ ⟨hS108, by rw [← e119]; simp only [put_at, put_no, ev_t, ev_c, reduceIte, Nat.reduceEqDiff, List.map_cons, List.map_nil], by simp only [f94,
                    put_at, put_no, ev_t, ev_c, reduceIte, Nat.reduceEqDiff, List.map_cons, List.map_nil], by simp only [f95, put_at, put_no, ev_t, ev_c, reduceIte,
                    Nat.reduceEqDiff, List.map_cons, List.map_nil], by simp only [f96, put_at, put_no, ev_t, ev_c, reduceIte, Nat.reduceEqDiff, List.map_cons, List.map_nil],
                    by simp only [f97, put_at, put_no, ev_t, ev_c, reduceIte, Nat.reduceEqDiff, List.map_cons, List.map_nil], by simp only [f98, put_at, put_no, ev_t, ev_c,
                    reduceIte, Nat.reduceEqDiff, List.map_cons, List.map_nil], by simp only [f99, put_at, put_no, ev_t, ev_c, reduceIte, Nat.reduceEqDiff, List.map_cons,
                    List.map_nil], by simp only [f101, put_at, put_no, ev_t, ev_c, reduceIte, Nat.reduceEqDiff, List.map_cons, List.map_nil], by simp only [f102, put_at, put_no,
                    ev_t, ev_c, reduceIte, Nat.reduceEqDiff, List.map_cons, List.map_nil], by simp only [f103, put_at, put_no, ev_t, ev_c, reduceIte, Nat.reduceEqDiff,
                    List.map_cons, List.map_nil], by simp only [f104, put_at, put_no, ev_t, ev_c, reduceIte, Nat.reduceEqDiff, List.map_cons, List.map_nil], by simp only [f105,
                    put_at, put_no, ev_t, ev_c, reduceIte, Nat.reduceEqDiff, List.map_cons, List.map_nil], by simp only [f106, put_at, put_no, ev_t, ev_c, reduceIte,
                    Nat.reduceEqDiff, List.map_cons, List.map_nil]⟩
            · rintro fr120 h134 ⟨hS135, f121, f122, f123, f124, f125, f126, f127, f128, f129, f130, f131, f132, f133⟩
              simp only [List.drop_succ_cons, List.drop_zero]
              simp only [run_ops_nil, f121, run_cond, put_at, put_no, ev_t, ev_c, reduceIte, Nat.reduceEqDiff, List.map_cons, List.map_nil]
              refine cond_split (t := v112) (fun hc136 => ?_) (fun hc136 => ?_)
              · rw [iteT hc136] at hF114
                simp only [run_reg, run_mv, run_ops_nil, run_nil, put_at, put_no, ev_t, ev_c, reduceIte, Nat.reduceEqDiff, List.map_cons, List.map_nil]
                have e137 := some_inj hF114
                exact hN52 _ _ _ e137.symm ⟨by simp only [f122, put_at, put_no, ev_t, ev_c, reduceIte, Nat.reduceEqDiff, List.map_cons, List.map_nil], by simp only [f123, put_at,
                    put_no, ev_t, ev_c, reduceIte, Nat.reduceEqDiff, List.map_cons, List.map_nil], by simp only [f124, put_at, put_no, ev_t, ev_c, reduceIte, Nat.reduceEqDiff,
                    List.map_cons, List.map_nil], by simp only [f125, put_at, put_no, ev_t, ev_c, reduceIte, Nat.reduceEqDiff, List.map_cons, List.map_nil], by simp only [f126,
                    put_at, put_no, ev_t, ev_c, reduceIte, Nat.reduceEqDiff, List.map_cons, List.map_nil], by simp only [put_at, put_no, ev_t, ev_c, reduceIte, Nat.reduceEqDiff,
                    List.map_cons, List.map_nil], by simp only [f128, put_at, put_no, ev_t, ev_c, reduceIte, Nat.reduceEqDiff, List.map_cons, List.map_nil], by simp only [f129,
                    put_at, put_no, ev_t, ev_c, reduceIte, Nat.reduceEqDiff, List.map_cons, List.map_nil], by simp only [f130, put_at, put_no, ev_t, ev_c, reduceIte,
                    Nat.reduceEqDiff, List.map_cons, List.map_nil], by simp only [f131, put_at, put_no, ev_t, ev_c, reduceIte, Nat.reduceEqDiff, List.map_cons, List.map_nil],
                    hS135⟩ (by simp only [f133, put_at, put_no, ev_t, ev_c, reduceIte, Nat.reduceEqDiff, List.map_cons, List.map_nil]) (by simp only [f132, put_at, put_no, ev_t,
                    ev_c, reduceIte, Nat.reduceEqDiff, List.map_cons, List.map_nil])
              · rw [iteF hc136] at hF114
                simp only [run_skip, run_nil, put_at, put_no, ev_t, ev_c, reduceIte, Nat.reduceEqDiff, List.map_cons, List.map_nil]
                have e138 := some_inj hF114
                exact hN52 _ _ _ e138.symm ⟨by simp only [f122, put_at, put_no, ev_t, ev_c, reduceIte, Nat.reduceEqDiff, List.map_cons, List.map_nil], by simp only [f123, put_at,
                    put_no, ev_t, ev_c, reduceIte, Nat.reduceEqDiff, List.map_cons, List.map_nil], by simp only [f124, put_at, put_no, ev_t, ev_c, reduceIte, Nat.reduceEqDiff,
                    List.map_cons, List.map_nil], by simp only [f125, put_at, put_no, ev_t, ev_c, reduceIte, Nat.reduceEqDiff, List.map_cons, List.map_nil], by simp only [f126,
                    put_at, put_no, ev_t, ev_c, reduceIte, Nat.reduceEqDiff, List.map_cons, List.map_nil], by simp only [f127, put_at, put_no, ev_t, ev_c, reduceIte,
                    Nat.reduceEqDiff, List.map_cons, List.map_nil], by simp only [f128, put_at, put_no, ev_t, ev_c, reduceIte, Nat.reduceEqDiff, List.map_cons, List.map_nil],
                    by simp only [f129, put_at, put_no, ev_t, ev_c, reduceIte, Nat.reduceEqDiff, List.map_cons, List.map_nil], by simp only [f130, put_at, put_no, ev_t, ev_c,
                    reduceIte, Nat.reduceEqDiff, List.map_cons, List.map_nil], by simp only [f131, put_at, put_no, ev_t, ev_c, reduceIte, Nat.reduceEqDiff, List.map_cons,
                    List.map_nil], hS135⟩ (by simp only [f133, put_at, put_no, ev_t, ev_c, reduceIte, Nat.reduceEqDiff, List.map_cons, List.map_nil]) (by simp only [f132, put_at,
                    put_no, ev_t, ev_c, reduceIte, Nat.reduceEqDiff, List.map_cons, List.map_nil])
        · rintro s140 fr141 h142 rfl ⟨f144, f145, f146, f147, f148, f149, f150, f151, f152, f153, hS143⟩
          dsimp only [jnO] at hk48
          unfold spec_l15Find_j1 at hk48
          simp only [x48_9, run_seq, run_reg, f149, run_mv, run_un, put1_some, xnot, run_ops_nil, run_cond, put_at, put_no, ev_t, ev_c, reduceIte, Nat.reduceEqDiff, List.map_cons,
              List.map_nil]
          refine cond_split (t := (!s140)) (fun hc154 => ?_) (fun hc154 => ?_)
          · rw [iteT hc154] at hk48
            simp only [run_exit, out_code, out_nil, put_at, put_no, ev_t, ev_c, reduceIte, Nat.reduceEqDiff, List.map_cons, List.map_nil]
            have e155 := some_inj hk48
            exact hB19 _ _ _ e155.symm ⟨by simp only [f144, put_at, put_no, ev_t, ev_c, reduceIte, Nat.reduceEqDiff, List.map_cons, List.map_nil], by simp only [f145, put_at,
                put_no, ev_t, ev_c, reduceIte, Nat.reduceEqDiff, List.map_cons, List.map_nil], by simp only [f146, put_at, put_no, ev_t, ev_c, reduceIte, Nat.reduceEqDiff,
                List.map_cons, List.map_nil], by simp only [f150, put_at, put_no, ev_t, ev_c, reduceIte, Nat.reduceEqDiff, List.map_cons, List.map_nil],
                hS143⟩ (by simp only [f152, put_at, put_no, ev_t, ev_c, reduceIte, Nat.reduceEqDiff, List.map_cons, List.map_nil]) (by simp only [f151, put_at, put_no, ev_t, ev_c,
                reduceIte, Nat.reduceEqDiff, List.map_cons, List.map_nil])
          · rw [iteF hc154] at hk48
            simp only [run_skip, x48_8, run_seq, run_reg, f144, run_mv, run_buildS, evp, put_at, put_no, ev_t, ev_c, reduceIte, Nat.reduceEqDiff, List.map_cons, List.map_nil]
            refine put2_buildSF (n := 1) (f := cI) ([] : List Int) hS143 rfl rfl (fun v156 c157 h158 hv159 hS160 => ?_)
            simp only [f145, run_mv, run_app, put_at, put_no, ev_t, ev_c, reduceIte, Nat.reduceEqDiff, List.map_cons, List.map_nil]
            obtain ⟨l162, hx163, hF164⟩ := bind_some' hk48
            refine put2_appF (f := cI) hv159 hS160 hW (fun _ => rfl) (fun _ => rfl) (SlF.first ph1 (Sep.m1 hS160) (fun _ => rfl)) hx163 (fun v165 c166 h167 hv168 hS169 => ?_)
            simp only [f147, run_mv, run_buildS, evp, put_at, put_no, ev_t, ev_c, reduceIte, Nat.reduceEqDiff, List.map_cons, List.map_nil]
            refine put2_buildSF (n := 1) (f := cI) [(i6 : Int)] hS169 rfl rfl (fun v171 c172 h173 hv174 hS175 => ?_)
            simp only [run_app, put_at, put_no, ev_t, ev_c, reduceIte, Nat.reduceEqDiff, List.map_cons, List.map_nil]
            obtain ⟨l177, hx178, hF179⟩ := bind_some' hF164
            refine put2_appF (f := cI) hv168 (Sep.m1 hS175) hW (fun _ => rfl) (fun _ => rfl) (SlF.first hv174 hS175 (fun _ => rfl)) hx178 (fun v180 c181 h182 hv183 hS184 => ?_)
            obtain ⟨v186, hx187, hF188⟩ := bind_some' hF179
            simp only [f146, run_mv, run_call, put_at, put_no, ev_t, ev_c, reduceIte, Nat.reduceEqDiff, List.map_cons, List.map_nil]
            refine call0 rfl (hrec hW v_0 v180 c181 l177 hv183 v_2 v186 hx187 hS184) ?_
            rintro v189 h193 ⟨_, c190, rfl, hv191, hS194⟩
            simp only [run_mv, run_ops_nil, x48_7, run_seq, run_reg, run_len, put1_some, SlF.plen hv191, run_bin, xgtr, x48_6, run_cond, put_at, put_no, ev_t, ev_c, reduceIte,
                Nat.reduceEqDiff, List.map_cons, List.map_nil]
            refine cond_split (t := (decide ((0 : Int) < (List.length v186 : Int)))) (fun hc195 => ?_) (fun hc195 => ?_)
            · rw [iteT hc195] at hF188
              simp only [run_seq, run_reg, run_mv, run_ops_nil, run_ret, put_at, put_no, ev_t, ev_c, reduceIte, Nat.reduceEqDiff, List.map_cons, List.map_nil]
              have e196 := some_inj hF188
              subst e196
              have ho197 := hr13 _ rfl
              have hk198 := hk11
              rw [ho197] at hk198
              dsimp only [jnO] at hk198
              apply hR17
              have he := some_inj hk198
              subst he
              simp only [end_ret1, put_at, put_no, ev_t, ev_c, reduceIte, Nat.reduceEqDiff, List.map_cons, List.map_nil]
              exact ⟨v189, c190, by first | trivial | rfl, hv191, (Sep.dc (Sep.m1 (Sep.dc (Sep.m1 hS194))))⟩
            · rw [iteF hc195] at hF188
              simp only [run_skip, run_nil, put_at, put_no, ev_t, ev_c, reduceIte, Nat.reduceEqDiff, List.map_cons, List.map_nil]
              have e199 := some_inj hF188
              exact hN15 _ _ _ e199.symm ⟨by simp only [f144, put_at, put_no, ev_t, ev_c, reduceIte, Nat.reduceEqDiff, List.map_cons, List.map_nil], by simp only [f145, put_at,
                  put_no, ev_t, ev_c, reduceIte, Nat.reduceEqDiff, List.map_cons, List.map_nil], by simp only [f146, put_at, put_no, ev_t, ev_c, reduceIte, Nat.reduceEqDiff,
                  List.map_cons, List.map_nil], by simp only [f150, put_at, put_no, ev_t, ev_c, reduceIte, Nat.reduceEqDiff, List.map_cons, List.map_nil],
                  (Sep.dc ((Sep.dc (hS194))))⟩ (by simp only [f152, put_at, put_no, ev_t, ev_c, reduceIte, Nat.reduceEqDiff, List.map_cons, List.map_nil]) (by simp only [f151,
                  put_at, put_no, ev_t, ev_c, reduceIte, Nat.reduceEqDiff, List.map_cons, List.map_nil])
      · rintro _ fr202 h203 rfl ⟨f205, f206, f207, f208, hS204⟩
        dsimp only [jnO] at hk11
        unfold spec_l15Find_j2 at hk11
        simp only [run_seq, run_reg, run_mv, run_ops_nil, run_ret, put_at, put_no, ev_t, ev_c, reduceIte, Nat.reduceEqDiff, List.map_cons, List.map_nil]
        have he := some_inj hk11
        subst he
        simp only [end_ret1, put_at, put_no, ev_t, ev_c, reduceIte, Nat.reduceEqDiff, List.map_cons, List.map_nil]
        exact ⟨.nil, [], by first | trivial | rfl, SlF.nil, (Sep.dc (hS204))⟩
theorem spec_l15Find_all : ∀ k : Nat, ∀ {W : Nat → Bool} {h : Heap} {lo : Nat} {S0 : List Obj} (hW : ∀ b,
    lo ≤ b → W b = true) (v_0 : List Call) (pv1 : XV) (pc1 : List Obj) (v_1 : List Int) (ph1 : SlF cI 1 3 pv1 v_1 pc1) (v_2 : Bool) (r : List Int)
    (hF : spec_l15Find k v_0 v_1 v_2 = some r) (hS : Sep h lo (pc1 ++ (S0))), Ret E W 48 [lst Call.cells v_0, pv1, .bool v_2] h (fun v h' => ∃ rv0 rc0,
    v = rv0 ∧ SlF cI 1 3 rv0 r rc0 ∧ Sep h' lo (rc0 ++ (S0))) := by
  intro k
  induction k with
  | zero => intros; rename_i hF _; cases hF
  | succ k ih => exact @spec_l15Find_rec_x (spec_l15Find k) ih
theorem spec_l15Find_x {W : Nat → Bool} {h : Heap} {lo : Nat} {S0 : List Obj} (hW : ∀ b,
    lo ≤ b → W b = true) (k : Nat) (v_0 : List Call) (pv1 : XV) (pc1 : List Obj) (v_1 : List Int) (ph1 : SlF cI 1 3 pv1 v_1 pc1) (v_2 : Bool) (r : List Int)
    (hF : spec_l15Find k v_0 v_1 v_2 = some r) (hS : Sep h lo (pc1 ++ (S0))) : Ret E W 48 [lst Call.cells v_0, pv1, .bool v_2] h (fun v h' => ∃ rv0 rc0,
    v = rv0 ∧ SlF cI 1 3 rv0 r rc0 ∧ Sep h' lo (rc0 ++ (S0))) := spec_l15Find_all k hW v_0 pv1 pc1 v_1 ph1 v_2 r hF hS
theorem spec_OrderFor_x {W : Nat → Bool} {h : Heap} (hW : ∀ b,
    h.length ≤ b → W b = true) (k : Nat) (l_0 : List Call) (r : (List Int) × Bool) (hF : spec_OrderFor k l_0 = some r) : Ret E W 22 [lst Call.cells l_0] h
    (fun v h' => cut h.length h' E.sz false 9 v = some (.tup [lst cI r.1, .bool r.2])) := by
  refine Ret.of (fn := x22) rfl (Run.of ?_)
  unfold spec_OrderFor at hF
  have zf0 : argFr [lst Call.cells l_0] 0 = lst Call.cells l_0 := rfl
  generalize argFr [lst Call.cells l_0] = fr0 at zf0 ⊢
  have hS : Sep h h.length [] := Sep.nil h
  obtain ⟨v1, hx2, hF3⟩ := bind_some' hF
  simp only [x22, run_seq, run_reg, run_mv, run_ops_nil, x22_5, zf0, run_call, put_at, put_no, ev_t, ev_c, reduceIte, Nat.reduceEqDiff, List.map_cons, List.map_nil]
  refine call1 rfl (mapM1 snap_lst mapM0) (spec_GoodCalls_x (fun b hb => decide_eq_true hb) l_0 v1 hx2) ?_
  simp only [run_un, put1_some, xnot, run_ops_nil, x22_1, run_cond, put_at, put_no, ev_t, ev_c, reduceIte, Nat.reduceEqDiff, List.map_cons, List.map_nil]
  refine cond_split (t := (!v1)) (fun hc4 => ?_) (fun hc4 => ?_)
  · rw [iteT hc4] at hF3
    simp only [run_seq, run_reg, run_mv, run_ops_nil, run_ret, put_at, put_no, ev_t, ev_c, reduceIte, Nat.reduceEqDiff, List.map_cons, List.map_nil]
    have he := some_inj hF3
    subst he
    simp only [end_ret2, put_at, put_no, ev_t, ev_c, reduceIte, Nat.reduceEqDiff, List.map_cons, List.map_nil]
    exact cut_tup (mapM1 rfl (mapM1 rfl mapM0))
  · rw [iteF hc4] at hF3
    obtain ⟨v5, hx6, hF7⟩ := bind_some' hF3
    simp only [run_skip, x22_4, run_seq, run_reg, zf0, run_mv, run_call, put_at, put_no, ev_t, ev_c, reduceIte, Nat.reduceEqDiff, List.map_cons, List.map_nil]
    refine call0 rfl (spec_l15Find_x hW k l_0 .nil [] [] SlF.nil false v5 hx6 hS) ?_
    rintro v8 h12 ⟨_, c9, rfl, hv10, hS13⟩
    simp only [run_mv, run_ops_nil, x22_3, run_seq, run_reg, run_len, put1_some, SlF.plen hv10, zf0, xlen_lst, run_bin, xneq, x22_2, run_cond, put_at, put_no, ev_t, ev_c,
        reduceIte, Nat.reduceEqDiff, List.map_cons, List.map_nil]
    refine cond_split (t := (decide ((List.length v5 : Int) ≠ (List.length l_0 : Int)))) (fun hc14 => ?_) (fun hc14 => ?_)
    · rw [iteT hc14] at hF7
      simp only [run_seq, run_reg, run_mv, run_ops_nil, run_ret, put_at, put_no, ev_t, ev_c, reduceIte, Nat.reduceEqDiff, List.map_cons, List.map_nil]
      have he := some_inj hF7
      subst he
      simp only [end_ret2, put_at, put_no, ev_t, ev_c, reduceIte, Nat.reduceEqDiff, List.map_cons, List.map_nil]
      exact cut_tup (mapM1 rfl (mapM1 rfl mapM0))
    · rw [iteF hc14] at hF7
      simp only [run_skip, run_seq, run_reg, run_mv, run_ops_nil, run_ret, put_at, put_no, ev_t, ev_c, reduceIte, Nat.reduceEqDiff, List.map_cons, List.map_nil]
      have he := some_inj hF7
      subst he
      simp only [end_ret2, put_at, put_no, ev_t, ev_c, reduceIte, Nat.reduceEqDiff, List.map_cons, List.map_nil]
      exact cut_tup (mapM1 (SlF.cut hv10 hS13 (Nat.le_refl _) rfl (fun _ => rfl) (fun _ => rfl)) (mapM1 rfl mapM0))
theorem impl_in_x {W : Nat → Bool} {h : Heap} (hW : ∀ b,
    h.length ≤ b → W b = true) (n_0 : Int) (low_1 : Int) (high_2 : Int) (r : Bool) (hF : some (impl_in n_0 low_1 high_2) = some r) : Ret E W 44 [.int .i64 n_0, .int .i64 low_1,
    .int .i64 high_2] h (fun v h' => cut h.length h' E.sz false 9 v = some (.bool r)) := by
  refine Ret.of (fn := x44) rfl (Run.of ?_)
  unfold impl_in at hF
  have zf0 : argFr [.int .i64 n_0, .int .i64 low_1, .int .i64 high_2] 0 = .int .i64 n_0 := rfl
  have zf1 : argFr [.int .i64 n_0, .int .i64 low_1, .int .i64 high_2] 1 = .int .i64 low_1 := rfl
  have zf2 : argFr [.int .i64 n_0, .int .i64 low_1, .int .i64 high_2] 2 = .int .i64 high_2 := rfl
  generalize argFr [.int .i64 n_0, .int .i64 low_1, .int .i64 high_2] = fr0 at zf0 zf1 zf2 ⊢
  have hS : Sep h h.length [] := Sep.nil h
  simp only [x44, run_seq, run_reg, run_mv, run_ops_nil, x44_1, zf0, zf1, run_bin, put1_some, xgeq, put_at, put_no, ev_t, ev_c, reduceIte, Nat.reduceEqDiff, List.map_cons,
      List.map_nil]
  refine ops_j 4 (fun fr' h' => Sep h' h.length ([]) ∧ fr' 14 = .bool ((decide (low_1 ≤ n_0)) && (decide (n_0 ≤ high_2)))) (fun Q1 hN2 => ?_) ?_
  · simp only [List.take_succ_cons, List.take_zero]
    simp only [run_guard (g := 10), put_at, put_no, ev_t, ev_c, reduceIte, Nat.reduceEqDiff, List.map_cons, List.map_nil]
    refine guard_split (t := (decide (low_1 ≤ n_0))) (fun hg3 => ?_) (fun hg3 => ?_)
    · simp only [hg3, run_guard (g := 10), guard_true, zf0, run_mv, zf2, run_bin, put1_some, xleq, run_pick, xpick_t, run_ops_nil, run_nil, put_at, put_no, ev_t, ev_c, reduceIte,
        Nat.reduceEqDiff, List.map_cons, List.map_nil]
      exact hN2 _ _ ⟨hS, by rw [andT hg3]; simp only [put_at, put_no, ev_t, ev_c, reduceIte, Nat.reduceEqDiff, List.map_cons, List.map_nil]⟩
    · simp only [hg3, run_guard (g := 10), guard_off, run_pick, put1_some, xpick_f, run_ops_nil, run_nil, put_at, put_no, ev_t, ev_c, reduceIte, Nat.reduceEqDiff, List.map_cons,
        List.map_nil]
      exact hN2 _ _ ⟨hS, by rw [andF hg3]; simp only [put_at, put_no, ev_t, ev_c, reduceIte, Nat.reduceEqDiff, List.map_cons, List.map_nil]⟩
  · rintro fr4 h6 ⟨hS7, f5⟩
    simp only [List.drop_succ_cons, List.drop_zero]
    simp only [f5, run_mv, run_ops_nil, run_ret, put_at, put_no, ev_t, ev_c, reduceIte, Nat.reduceEqDiff, List.map_cons, List.map_nil]
    have he := some_inj hF
    subst he
    simp only [end_ret1, put_at, put_no, ev_t, ev_c, reduceIte, Nat.reduceEqDiff, List.map_cons, List.map_nil]
    exact rfl
end Go.Proofs.Ytddkoiapboeemaa.X
namespace Go.Proofs.Ytddkoiapboeemaa.X
open Go
theorem impl_areCalls_x {W : Nat → Bool} {h : Heap} (hW : ∀ b,
    h.length ≤ b → W b = true) (v_0 : List Call) (r : Bool) (hF : impl_areCalls v_0 = some r) : Ret E W 43 [lst Call.cells v_0] h
    (fun v h' => cut h.length h' E.sz false 9 v = some (.bool r)) := by
  refine Ret.of (fn := x43) rfl (Run.of ?_)
  unfold impl_areCalls at hF
  have zf0 : argFr [lst Call.cells v_0] 0 = lst Call.cells v_0 := rfl
  generalize argFr [lst Call.cells v_0] = fr0 at zf0 ⊢
  have hS : Sep h h.length [] := Sep.nil h
  simp only [x43, run_seq, run_reg, run_mv, run_ops_nil, x43_13, zf0, run_len, put1_some, xlen_lst, put_at, put_no, ev_t, ev_c, reduceIte, Nat.reduceEqDiff, List.map_cons,
      List.map_nil]
  obtain ⟨oc3, hX5, hk6⟩ := jn_some hF
  simp only [x43_11]
  refine rangeL_j (σ := Unit) v_0 (fun i1 x2 _ => impl_areCalls_b2 v_0 i1 x2 ) (fun s fr' h' => fr' 0 = lst Call.cells v_0 ∧ fr' 8 = lst Call.cells v_0 ∧ Sep h' h.length
      ([])) hX5 ⟨by simp only [zf0, put_at, put_no, ev_t, ev_c, reduceIte, Nat.reduceEqDiff, List.map_cons, List.map_nil], by simp only [put_at, put_no, ev_t, ev_c, reduceIte,
      Nat.reduceEqDiff, List.map_cons, List.map_nil], hS⟩ (by simp only [put_at, put_no, ev_t, ev_c, reduceIte, Nat.reduceEqDiff, List.map_cons,
      List.map_nil]) (by simp only [put_at, put_no, ev_t, ev_c, reduceIte, Nat.reduceEqDiff, List.map_cons,
      List.map_nil]) (fun _ _ _ h => h) rfl rfl (fun _ _ _ _ h => h) (fun _ _ _ _ h => h) (fun _ _ _ _ h => h) (by decide) ?_ ?_
  · rintro i1 x2 _ fr15 h16 hx20 ⟨f18, f19, hS17⟩ f21 f22 oc4 hF7 hr8 Q9 hN10 hB14 hK11 hR12 hE13
    unfold impl_areCalls_b2 at hF7
    simp only [x43_9, run_seq, run_reg, f21, run_mv, f19, run_ia, put_at, put_no, ev_t, ev_c, reduceIte, Nat.reduceEqDiff, List.map_cons, List.map_nil]
    refine put1_eq (v := .ref (Call.cells x2) 0) (xia_lstN hx20 rfl) ?_
    simp only [run_ld, put_at, put_no, ev_t, ev_c, reduceIte, Nat.reduceEqDiff, List.map_cons, List.map_nil]
    refine put1_eq (v := .agg [.int .i64 x2.Client, .int .i64 x2.Object, .bool x2.Write, .int .i64 x2.Value, .int .i64 x2.Begin, .int .i64 x2.End]) rfl ?_
    simp only [run_new, put_at, put_no, ev_t, ev_c, reduceIte, Nat.reduceEqDiff, List.map_cons, List.map_nil]
    refine put2_newC hS17 (fun b23 h24 hS25 => ?_)
    simp only [run_mv, run_st, put_at, put_no, ev_t, ev_c, reduceIte, Nat.reduceEqDiff, List.map_cons, List.map_nil]
    refine put2_stC (cs' := [.int .i64 x2.Client, .int .i64 x2.Object, .bool x2.Write, .int .i64 x2.Value, .int .i64 x2.Begin,
        .int .i64 x2.End]) hS25 hW rfl rfl (Nat.le_of_ble_eq_true rfl) rfl (fun h27 hS28 => ?_)
    simp only [put_no, run_ops_nil, put_at, ev_t, ev_c, reduceIte, Nat.reduceEqDiff, List.map_cons, List.map_nil]
    refine frz_stepC hS28 hW (by simp only [put_at, put_no, ev_t, ev_c, reduceIte, Nat.reduceEqDiff, List.map_cons, List.map_nil]) (fun h29 hS30 => ?_)
    simp only [run_frz_nil, x43_8, run_seq, run_reg, run_mv, run_ops_nil, x43_7, run_fa, put1_some, Nat.reduceAdd, Nat.zero_add, Nat.add_zero, xfa_ref, run_ld, put_at, put_no,
        ev_t, ev_c, reduceIte, Nat.reduceEqDiff, List.map_cons, List.map_nil]
    refine put1_eq (v := .bool x2.Write) rfl ?_
    simp only [run_ops_nil, run_cond, put_at, put_no, ev_t, ev_c, reduceIte, Nat.reduceEqDiff, List.map_cons, List.map_nil]
    obtain ⟨s31, hX33, hk34⟩ := bind_some' hF7
    refine cond_j (t := x2.Write) (fun fr' h' => fr' 0 = lst Call.cells v_0 ∧ fr' 3 = .int .i64 (i1 : Int) ∧ fr' 4 = .ref [.int .i64 x2.Client, .int .i64 x2.Object,
        .bool x2.Write, .int .i64 x2.Value, .int .i64 x2.Begin,
        .int .i64 x2.End] 0 ∧ fr' 5 = .int .i64 s31 ∧ fr' 8 = lst Call.cells v_0 ∧ fr' 9 = .int .i64 (List.length v_0 : Int) ∧ fr' 10 = .int .i64 (i1 : Int) ∧ Sep h' h.length
        ([])) (fun Q35 hN36 hR37 hE38 => ⟨fun hc39 => ?_, fun hc39 => ?_⟩) ?_
    · rw [iteT hc39] at hX33
      simp only [run_reg, run_mv, run_ops_nil, run_nil, put_at, put_no, ev_t, ev_c, reduceIte, Nat.reduceEqDiff, List.map_cons, List.map_nil]
      have e40 := some_inj hX33
      subst e40
      exact hN36 _ _ ⟨by simp only [f18, put_at, put_no, ev_t, ev_c, reduceIte, Nat.reduceEqDiff, List.map_cons, List.map_nil], by simp only [put_at, put_no, ev_t, ev_c,
          reduceIte, Nat.reduceEqDiff, List.map_cons, List.map_nil], by simp only [put_at, put_no, ev_t, ev_c, reduceIte, Nat.reduceEqDiff, List.map_cons, List.map_nil],
          by simp only [put_at, put_no, ev_t, ev_c, reduceIte, Nat.reduceEqDiff, List.map_cons, List.map_nil], by simp only [f19, put_at, put_no, ev_t, ev_c, reduceIte,
          Nat.reduceEqDiff, List.map_cons, List.map_nil], by simp only [f22, put_at, put_no, ev_t, ev_c, reduceIte, Nat.reduceEqDiff, List.map_cons, List.map_nil],
          by simp only [f21, put_at, put_no, ev_t, ev_c, reduceIte, Nat.reduceEqDiff, List.map_cons, List.map_nil], hS30⟩
    · rw [iteF hc39] at hX33
      simp only [run_skip, run_nil, put_at, put_no, ev_t, ev_c, reduceIte, Nat.reduceEqDiff, List.map_cons, List.map_nil]
      have e41 := some_inj hX33
      subst e41
      exact hN36 _ _ ⟨by simp only [f18, put_at, put_no, ev_t, ev_c, reduceIte, Nat.reduceEqDiff, List.map_cons, List.map_nil], by simp only [put_at, put_no, ev_t, ev_c,
          reduceIte, Nat.reduceEqDiff, List.map_cons, List.map_nil], by simp only [put_at, put_no, ev_t, ev_c, reduceIte, Nat.reduceEqDiff, List.map_cons, List.map_nil],
          by simp only [put_at, put_no, ev_t, ev_c, reduceIte, Nat.reduceEqDiff, List.map_cons, List.map_nil], by simp only [f19, put_at, put_no, ev_t, ev_c, reduceIte,
          Nat.reduceEqDiff, List.map_cons, List.map_nil], by simp only [f22, put_at, put_no, ev_t, ev_c, reduceIte, Nat.reduceEqDiff, List.map_cons, List.map_nil],
          by simp only [f21, put_at, put_no, ev_t, ev_c, reduceIte, Nat.reduceEqDiff, List.map_cons, List.map_nil], hS30⟩
    · rintro fr42 h43 ⟨f45, f46, f47, f48, f49, f50, f51, hS44⟩
      unfold impl_areCalls_j1 at hk34
      simp only [x43_6, run_seq, run_reg, f47, run_fa, put1_some, Nat.reduceAdd, Nat.zero_add, Nat.add_zero, xfa_ref, run_ld, put_at, put_no, ev_t, ev_c, reduceIte,
          Nat.reduceEqDiff, List.map_cons, List.map_nil]
      refine put1_eq (v := .int .i64 x2.Client) rfl ?_
      simp only [run_call, put_at, put_no, ev_t, ev_c, reduceIte, Nat.reduceEqDiff, List.map_cons, List.map_nil]
      refine call1 rfl (mapM1 snap_int (mapM1 snap_int (mapM1 snap_int mapM0))) (impl_in_x (fun b hb => decide_eq_true hb) x2.Client 0 3 _ rfl) ?_
      simp only [run_un, put1_some, xnot, run_mv, put_at, put_no, ev_t, ev_c, reduceIte, Nat.reduceEqDiff, List.map_cons, List.map_nil]
      refine ops_j 5 (fun fr' h' => Sep h' h.length ([]) ∧ fr' 26 = .bool ((!(impl_in x2.Client 0 3)) ||
          (!(impl_in x2.Object 0 2))) ∧ fr' 0 = lst Call.cells v_0 ∧ fr' 3 = .int .i64 (i1 : Int) ∧ fr' 4 = .ref [.int .i64 x2.Client, .int .i64 x2.Object, .bool x2.Write,
          .int .i64 x2.Value, .int .i64 x2.Begin,
          .int .i64 x2.End] 0 ∧ fr' 5 = .int .i64 s31 ∧ fr' 8 = lst Call.cells v_0 ∧ fr' 9 = .int .i64 (List.length v_0 : Int) ∧ fr' 10 = .int .i64 (i1 : Int))
          (fun Q52 hN53 => ?_) ?_
      · simp only [List.take_succ_cons, List.take_zero]
        simp only [run_guard (g := 21), put_at, put_no, ev_t, ev_c, reduceIte, Nat.reduceEqDiff, List.map_cons, List.map_nil]
        refine guard_split (t := (!(impl_in x2.Client 0 3))) (fun hg54 => ?_) (fun hg54 => ?_)
        · simp only [hg54, run_guard (g := 21), guard_off', run_pick, put1_some, xpick_t, run_ops_nil, run_nil, put_at, put_no, ev_t, ev_c, reduceIte, Nat.reduceEqDiff,
            List.map_cons, List.map_nil]
          exact hN53 _ _ ⟨hS44, by rw [orT hg54]; simp only [put_at, put_no, ev_t, ev_c, reduceIte, Nat.reduceEqDiff, List.map_cons, List.map_nil], by simp only [f45, put_at,
              put_no, ev_t, ev_c, reduceIte, Nat.reduceEqDiff, List.map_cons, List.map_nil], by simp only [f46, put_at, put_no, ev_t, ev_c, reduceIte, Nat.reduceEqDiff,
              List.map_cons, List.map_nil], by simp only [f47, put_at, put_no, ev_t, ev_c, reduceIte, Nat.reduceEqDiff, List.map_cons, List.map_nil], by simp only [f48, put_at,
              put_no, ev_t, ev_c, reduceIte, Nat.reduceEqDiff, List.map_cons, List.map_nil], by simp only [f49, put_at, put_no, ev_t, ev_c, reduceIte, Nat.reduceEqDiff,
              List.map_cons, List.map_nil], by simp only [f50, put_at, put_no, ev_t, ev_c, reduceIte, Nat.reduceEqDiff, List.map_cons, List.map_nil], by simp only [f51, put_at,
              put_no, ev_t, ev_c, reduceIte, Nat.reduceEqDiff, List.map_cons, List.map_nil]⟩
        · simp only [hg54, run_guard (g := 21), guard_false, f47, run_fa, put1_some, Nat.reduceAdd, Nat.zero_add, Nat.add_zero, xfa_ref, run_ld, put_at, put_no, ev_t, ev_c,
            reduceIte, Nat.reduceEqDiff, List.map_cons, List.map_nil]
          refine put1_eq (v := .int .i64 x2.Object) rfl ?_
          simp only [hg54, run_guard (g := 21), guard_false, run_call, put_at, put_no, ev_t, ev_c, reduceIte, Nat.reduceEqDiff, List.map_cons, List.map_nil]
          refine call1 rfl (mapM1 snap_int (mapM1 snap_int (mapM1 snap_int mapM0))) (impl_in_x (fun b hb => decide_eq_true hb) x2.Object 0 2 _ rfl) ?_
          simp only [hg54, run_guard (g := 21), guard_false, run_un, put1_some, xnot, run_pick, xpick_f, run_ops_nil, run_nil, put_at, put_no, ev_t, ev_c, reduceIte,
              Nat.reduceEqDiff, List.map_cons, List.map_nil]
          exact hN53 _ _ ⟨hS44, by rw [orF hg54]; simp only [put_at, put_no, ev_t, ev_c, reduceIte, Nat.reduceEqDiff, List.map_cons, List.map_nil], by simp only [f45, put_at,
              put_no, ev_t, ev_c, reduceIte, Nat.reduceEqDiff, List.map_cons, List.map_nil], by simp only [f46, put_at, put_no, ev_t, ev_c, reduceIte, Nat.reduceEqDiff,
              List.map_cons, List.map_nil], by simp only [f47, put_at, put_no, ev_t, ev_c, reduceIte, Nat.reduceEqDiff, List.map_cons, List.map_nil], by simp only [f48, put_at,
              put_no, ev_t, ev_c, reduceIte, Nat.reduceEqDiff, List.map_cons, List.map_nil], by simp only [f49, put_at, put_no, ev_t, ev_c, reduceIte, Nat.reduceEqDiff,
              List.map_cons, List.map_nil], by simp only [f50, put_at, put_no, ev_t, ev_c, reduceIte, Nat.reduceEqDiff, List.map_cons, List.map_nil], by simp only [f51, put_at,
              put_no, ev_t, ev_c, reduceIte, Nat.reduceEqDiff, List.map_cons, List.map_nil]⟩
      · rintro fr55 h64 ⟨hS65, f56, f57, f58, f59, f60, f61, f62, f63⟩
        simp only [List.drop_succ_cons, List.drop_zero]
        simp only [f56, run_mv, put_at, put_no, ev_t, ev_c, reduceIte, Nat.reduceEqDiff, List.map_cons, List.map_nil]
        refine ops_j 6 (fun fr' h' => Sep h' h.length ([]) ∧ fr' 33 = .bool (((!(impl_in x2.Client 0 3)) || (!(impl_in x2.Object 0 2))) ||
            (!(impl_in x2.Value s31 9))) ∧ fr' 0 = lst Call.cells v_0 ∧ fr' 3 = .int .i64 (i1 : Int) ∧ fr' 4 = .ref [.int .i64 x2.Client, .int .i64 x2.Object, .bool x2.Write,
            .int .i64 x2.Value, .int .i64 x2.Begin,
            .int .i64 x2.End] 0 ∧ fr' 8 = lst Call.cells v_0 ∧ fr' 9 = .int .i64 (List.length v_0 : Int) ∧ fr' 10 = .int .i64 (i1 : Int)) (fun Q66 hN67 => ?_) ?_
        · simp only [List.take_succ_cons, List.take_zero]
          simp only [run_guard (g := 27), put_at, put_no, ev_t, ev_c, reduceIte, Nat.reduceEqDiff, List.map_cons, List.map_nil]
          refine guard_split (t := ((!(impl_in x2.Client 0 3)) || (!(impl_in x2.Object 0 2)))) (fun hg68 => ?_) (fun hg68 => ?_)
          · simp only [hg68, run_guard (g := 27), guard_off', run_pick, put1_some, xpick_t, run_ops_nil, run_nil, put_at, put_no, ev_t, ev_c, reduceIte, Nat.reduceEqDiff,
              List.map_cons, List.map_nil]
            exact hN67 _ _ ⟨hS65, by rw [orT hg68]; simp only [put_at, put_no, ev_t, ev_c, reduceIte, Nat.reduceEqDiff, List.map_cons, List.map_nil], by simp only [f57, put_at,
                put_no, ev_t, ev_c, reduceIte, Nat.reduceEqDiff, List.map_cons, List.map_nil], by simp only [f58, put_at, put_no, ev_t, ev_c, reduceIte, Nat.reduceEqDiff,
                List.map_cons, List.map_nil], by simp only [f59, put_at, put_no, ev_t, ev_c, reduceIte, Nat.reduceEqDiff, List.map_cons, List.map_nil], by simp only [f61, put_at,
                put_no, ev_t, ev_c, reduceIte, Nat.reduceEqDiff, List.map_cons, List.map_nil], by simp only [f62, put_at, put_no, ev_t, ev_c, reduceIte, Nat.reduceEqDiff,
                List.map_cons, List.map_nil], by simp only [f63, put_at, put_no, ev_t, ev_c, reduceIte, Nat.reduceEqDiff, List.map_cons, List.map_nil]⟩
          · simp only [hg68, run_guard (g := 27), guard_false, f59, run_fa, put1_some, Nat.reduceAdd, Nat.zero_add, Nat.add_zero, xfa_ref, run_ld, put_at, put_no, ev_t, ev_c,
              reduceIte, Nat.reduceEqDiff, List.map_cons, List.map_nil]
            refine put1_eq (v := .int .i64 x2.Value) rfl ?_
            simp only [hg68, run_guard (g := 27), guard_false, f60, run_mv, run_call, put_at, put_no, ev_t, ev_c, reduceIte, Nat.reduceEqDiff, List.map_cons, List.map_nil]
            refine call1 rfl (mapM1 snap_int (mapM1 snap_int (mapM1 snap_int mapM0))) (impl_in_x (fun b hb => decide_eq_true hb) x2.Value s31 9 _ rfl) ?_
            simp only [hg68, run_guard (g := 27), guard_false, run_un, put1_some, xnot, run_pick, xpick_f, run_ops_nil, run_nil, put_at, put_no, ev_t, ev_c, reduceIte,
                Nat.reduceEqDiff, List.map_cons, List.map_nil]
            exact hN67 _ _ ⟨hS65, by rw [orF hg68]; simp only [put_at, put_no, ev_t, ev_c, reduceIte, Nat.reduceEqDiff, List.map_cons, List.map_nil], by simp only [f57, put_at,
                put_no, ev_t, ev_c, reduceIte, Nat.reduceEqDiff, List.map_cons, List.map_nil], by simp only [f58, put_at, put_no, ev_t, ev_c, reduceIte, Nat.reduceEqDiff,
                List.map_cons, List.map_nil], by simp only [f59, put_at, put_no, ev_t, ev_c, reduceIte, Nat.reduceEqDiff, List.map_cons, List.map_nil], by simp only [f61, put_at,
                put_no, ev_t, ev_c, reduceIte, Nat.reduceEqDiff, List.map_cons, List.map_nil], by simp only [f62, put_at, put_no, ev_t, ev_c, reduceIte, Nat.reduceEqDiff,
                List.map_cons, List.map_nil], by simp only [f63, put_at, put_no, ev_t, ev_c, reduceIte, Nat.reduceEqDiff, List.map_cons, List.map_nil]⟩
        · rintro fr69 h77 ⟨hS78, f70, f71, f72, f73, f74, f75, f76⟩
          simp only [List.drop_succ_cons, List.drop_zero]
          simp only [f70, run_mv, put_at, put_no, ev_t, ev_c, reduceIte, Nat.reduceEqDiff, List.map_cons, List.map_nil]
          refine ops_j 5 (fun fr' h' => Sep h' h.length ([]) ∧ fr' 39 = .bool ((((!(impl_in x2.Client 0 3)) || (!(impl_in x2.Object 0 2))) || (!(impl_in x2.Value s31 9))) ||
              (!(impl_in x2.Begin 0 100))) ∧ fr' 0 = lst Call.cells v_0 ∧ fr' 3 = .int .i64 (i1 : Int) ∧ fr' 4 = .ref [.int .i64 x2.Client, .int .i64 x2.Object, .bool x2.Write,
              .int .i64 x2.Value, .int .i64 x2.Begin,
              .int .i64 x2.End] 0 ∧ fr' 8 = lst Call.cells v_0 ∧ fr' 9 = .int .i64 (List.length v_0 : Int) ∧ fr' 10 = .int .i64 (i1 : Int)) (fun Q79 hN80 => ?_) ?_
          · simp only [List.take_succ_cons, List.take_zero]
            simp only [run_guard (g := 34), put_at, put_no, ev_t, ev_c, reduceIte, Nat.reduceEqDiff, List.map_cons, List.map_nil]
            refine guard_split (t := (((!(impl_in x2.Client 0 3)) || (!(impl_in x2.Object 0 2))) || (!(impl_in x2.Value s31 9)))) (fun hg81 => ?_) (fun hg81 => ?_)
            · simp only [hg81, run_guard (g := 34), guard_off', run_pick, put1_some, xpick_t, run_ops_nil, run_nil, put_at, put_no, ev_t, ev_c, reduceIte, Nat.reduceEqDiff,
                List.map_cons, List.map_nil]
              exact hN80 _ _ ⟨hS78, by rw [orT hg81]; simp only [put_at, put_no, ev_t, ev_c, reduceIte, Nat.reduceEqDiff, List.map_cons, List.map_nil], by simp only [f71, put_at,
                  put_no, ev_t, ev_c, reduceIte, Nat.reduceEqDiff, List.map_cons, List.map_nil], by simp only [f72, put_at, put_no, ev_t, ev_c, reduceIte, Nat.reduceEqDiff,
                  List.map_cons, List.map_nil], by simp only [f73, put_at, put_no, ev_t, ev_c, reduceIte, Nat.reduceEqDiff, List.map_cons, List.map_nil], by simp only [f74,
                  put_at, put_no, ev_t, ev_c, reduceIte, Nat.reduceEqDiff, List.map_cons, List.map_nil], by simp only [f75, put_at, put_no, ev_t, ev_c, reduceIte,
                  Nat.reduceEqDiff, List.map_cons, List.map_nil], by simp only [f76, put_at, put_no, ev_t, ev_c, reduceIte, Nat.reduceEqDiff, List.map_cons, List.map_nil]⟩
            · simp only [hg81, run_guard (g := 34), guard_false, f73, run_fa, put1_some, Nat.reduceAdd, Nat.zero_add, Nat.add_zero, xfa_ref, run_ld, put_at, put_no, ev_t, ev_c,
                reduceIte, Nat.reduceEqDiff, List.map_cons, List.map_nil]
              refine put1_eq (v := .int .i64 x2.Begin) rfl ?_
              simp only [hg81, run_guard (g := 34), guard_false, run_call, put_at, put_no, ev_t, ev_c, reduceIte, Nat.reduceEqDiff, List.map_cons, List.map_nil]
              refine call1 rfl (mapM1 snap_int (mapM1 snap_int (mapM1 snap_int mapM0))) (impl_in_x (fun b hb => decide_eq_true hb) x2.Begin 0 100 _ rfl) ?_
              simp only [hg81, run_guard (g := 34), guard_false, run_un, put1_some, xnot, run_pick, xpick_f, run_ops_nil, run_nil, put_at, put_no, ev_t, ev_c, reduceIte,
                  Nat.reduceEqDiff, List.map_cons, List.map_nil]
              exact hN80 _ _ ⟨hS78, by rw [orF hg81]; simp only [put_at, put_no, ev_t, ev_c, reduceIte, Nat.reduceEqDiff, List.map_cons, List.map_nil], by simp only [f71, put_at,
                  put_no, ev_t, ev_c, reduceIte, Nat.reduceEqDiff, List.map_cons, List.map_nil], by simp only [f72, put_at, put_no, ev_t, ev_c, reduceIte, Nat.reduceEqDiff,
                  List.map_cons, List.map_nil], by simp only [f73, put_at, put_no, ev_t, ev_c, reduceIte, Nat.reduceEqDiff, List.map_cons, List.map_nil], by simp only [f74,
                  put_at, put_no, ev_t, ev_c, reduceIte, Nat.reduceEqDiff, List.map_cons, List.map_nil], by simp only [f75, put_at, put_no, ev_t, ev_c, reduceIte,
                  Nat.reduceEqDiff, List.map_cons, List.map_nil], by simp only [f76, put_at, put_no, ev_t, ev_c, reduceIte, Nat.reduceEqDiff, List.map_cons, List.map_nil]⟩
          · rintro fr82 h90 ⟨hS91, f83, f84, f85, f86, f87, f88, f89⟩
            simp only [List.drop_succ_cons, List.drop_zero]
            simp only [f83, run_mv, put_at, put_no, ev_t, ev_c, reduceIte, Nat.reduceEqDiff, List.map_cons, List.map_nil]
            refine ops_j 5 (fun fr' h' => Sep h' h.length ([]) ∧ fr' 45 = .bool (((((!(impl_in x2.Client 0 3)) || (!(impl_in x2.Object 0 2))) || (!(impl_in x2.Value s31 9))) ||
                (!(impl_in x2.Begin 0 100))) || (!(impl_in x2.End 0 100))) ∧ fr' 0 = lst Call.cells v_0 ∧ fr' 3 = .int .i64 (i1 : Int) ∧ fr' 4 = .ref [.int .i64 x2.Client,
                .int .i64 x2.Object, .bool x2.Write, .int .i64 x2.Value, .int .i64 x2.Begin,
                .int .i64 x2.End] 0 ∧ fr' 8 = lst Call.cells v_0 ∧ fr' 9 = .int .i64 (List.length v_0 : Int) ∧ fr' 10 = .int .i64 (i1 : Int)) (fun Q92 hN93 => ?_) ?_
            · simp only [List.take_succ_cons, List.take_zero]
              simp only [run_guard (g := 40), put_at, put_no, ev_t, ev_c, reduceIte, Nat.reduceEqDiff, List.map_cons, List.map_nil]
              refine guard_split (t := ((((!(impl_in x2.Client 0 3)) || (!(impl_in x2.Object 0 2))) || (!(impl_in x2.Value s31 9))) || (!(impl_in x2.Begin 0 100))))
                  (fun hg94 => ?_) (fun hg94 => ?_)
              · simp only [hg94, run_guard (g := 40), guard_off', run_pick, put1_some, xpick_t, run_ops_nil, run_nil, put_at, put_no, ev_t, ev_c, reduceIte, Nat.reduceEqDiff,
                  List.map_cons, List.map_nil]
                exact hN93 _ _ ⟨hS91, by rw [orT hg94]; simp only [put_at, put_no, ev_t, ev_c, reduceIte, Nat.reduceEqDiff, List.map_cons, List.map_nil], by simp only [f84,
                    put_at, put_no, ev_t, ev_c, reduceIte, Nat.reduceEqDiff, List.map_cons, List.map_nil], by simp only [f85, put_at, put_no, ev_t, ev_c, reduceIte,
                    Nat.reduceEqDiff, List.map_cons, List.map_nil], by simp only [f86, put_at, put_no, ev_t, ev_c, reduceIte, Nat.reduceEqDiff, List.map_cons, List.map_nil],
                    by simp only [f87, put_at, put_no, ev_t, ev_c, reduceIte, Nat.reduceEqDiff, List.map_cons, List.map_nil], by simp only [f88, put_at, put_no, ev_t, ev_c,
                    reduceIte, Nat.reduceEqDiff, List.map_cons, List.map_nil], by simp only [f89, put_at, put_no, ev_t, ev_c, reduceIte, Nat.reduceEqDiff, List.map_cons,
                    List.map_nil]⟩
              · simp only [hg94, run_guard (g := 40), guard_false, f86, run_fa, put1_some, Nat.reduceAdd, Nat.zero_add, Nat.add_zero, xfa_ref, run_ld, put_at, put_no, ev_t, ev_c,
                  reduceIte, Nat.reduceEqDiff, List.map_cons, List.map_nil]
                refine put1_eq (v := .int .i64 x2.End) rfl ?_
                simp only [hg94, run_guard (g := 40), guard_false, run_call, put_at, put_no, ev_t, ev_c, reduceIte, Nat.reduceEqDiff, List.map_cons, List.map_nil]
                refine call1 rfl (mapM1 snap_int (mapM1 snap_int (mapM1 snap_int mapM0))) (impl_in_x (fun b hb => decide_eq_true hb) x2.End 0 100 _ rfl) ?_
                simp only [hg94, run_guard (g := 40), guard_false, run_un, put1_some, xnot, run_pick, xpick_f, run_ops_nil, run_nil, put_at, put_no, ev_t, ev_c, reduceIte,
                    Nat.reduceEqDiff, List.map_cons, List.map_nil]
                exact hN93 _ _ ⟨hS91, by rw [orF hg94]; simp only [put_at, put_no, ev_t, ev_c, reduceIte, Nat.reduceEqDiff, List.map_cons, List.map_nil], by simp only [f84,
                    put_at, put_no, ev_t, ev_c, reduceIte, Nat.reduceEqDiff, List.map_cons, List.map_nil], by simp only [f85, put_at, put_no, ev_t, ev_c, reduceIte,
                    Nat.reduceEqDiff, List.map_cons, List.map_nil], by simp only [f86, put_at, put_no, ev_t, ev_c, reduceIte, Nat.reduceEqDiff, List.map_cons, List.map_nil],
                    by simp only [f87, put_at, put_no, ev_t, ev_c, reduceIte, Nat.reduceEqDiff, List.map_cons, List.map_nil], by simp only [f88, put_at, put_no, ev_t, ev_c,
                    reduceIte, Nat.reduceEqDiff, List.map_cons, List.map_nil], by simp only [f89, put_at, put_no, ev_t, ev_c, reduceIte, Nat.reduceEqDiff, List.map_cons,
                    List.map_nil]⟩
            · rintro fr95 h103 ⟨hS104, f96, f97, f98, f99, f100, f101, f102⟩
              simp only [List.drop_succ_cons, List.drop_zero]
              simp only [f96, run_mv, put_at, put_no, ev_t, ev_c, reduceIte, Nat.reduceEqDiff, List.map_cons, List.map_nil]
              refine ops_j 6 (fun fr' h' => Sep h' h.length ([]) ∧ fr' 52 = .bool ((((((!(impl_in x2.Client 0 3)) || (!(impl_in x2.Object 0 2))) ||
                  (!(impl_in x2.Value s31 9))) || (!(impl_in x2.Begin 0 100))) || (!(impl_in x2.End 0 100))) || (decide
                  (x2.End ≤ x2.Begin))) ∧ fr' 0 = lst Call.cells v_0 ∧ fr' 3 = .int .i64 (i1 : Int) ∧ fr' 4 = .ref [.int .i64 x2.Client, .int .i64 x2.Object, .bool x2.Write,
                  .int .i64 x2.Value, .int .i64 x2.Begin,
                  .int .i64 x2.End] 0 ∧ fr' 8 = lst Call.cells v_0 ∧ fr' 9 = .int .i64 (List.length v_0 : Int) ∧ fr' 10 = .int .i64 (i1 : Int)) (fun Q105 hN106 => ?_) ?_
              · simp only [List.take_succ_cons, List.take_zero]
                simp only [run_guard (g := 46), put_at, put_no, ev_t, ev_c, reduceIte, Nat.reduceEqDiff, List.map_cons, List.map_nil]
                refine guard_split (t := (((((!(impl_in x2.Client 0 3)) || (!(impl_in x2.Object 0 2))) || (!(impl_in x2.Value s31 9))) || (!(impl_in x2.Begin 0 100))) ||
                    (!(impl_in x2.End 0 100)))) (fun hg107 => ?_) (fun hg107 => ?_)
                · simp only [hg107, run_guard (g := 46), guard_off', run_pick, put1_some, xpick_t, run_ops_nil, run_nil, put_at, put_no, ev_t, ev_c, reduceIte, Nat.reduceEqDiff,
                    List.map_cons, List.map_nil]
                  exact hN106 _ _ ⟨hS104, by rw [orT hg107]; simp only [put_at, put_no, ev_t, ev_c, reduceIte, Nat.reduceEqDiff, List.map_cons, List.map_nil], by simp only [f97,
                      put_at, put_no, ev_t, ev_c, reduceIte, Nat.reduceEqDiff, List.map_cons, List.map_nil], by simp only [f98, put_at, put_no, ev_t, ev_c, reduceIte,
                      Nat.reduceEqDiff, List.map_cons, List.map_nil], by simp only [f99, put_at, put_no, ev_t, ev_c, reduceIte, Nat.reduceEqDiff, List.map_cons, List.map_nil],
                      by simp only [f100, put_at, put_no, ev_t, ev_c, reduceIte, Nat.reduceEqDiff, List.map_cons, List.map_nil], by simp only [f101, put_at, put_no, ev_t, ev_c,
                      reduceIte, Nat.reduceEqDiff, List.map_cons, List.map_nil], by simp only [f102, put_at, put_no, ev_t, ev_c, reduceIte, Nat.reduceEqDiff, List.map_cons,
                      List.map_nil]⟩
                · simp only [hg107, run_guard (g := 46), guard_false, f99, run_fa, put1_some, Nat.reduceAdd, Nat.zero_add, Nat.add_zero, xfa_ref, run_ld, put_at, put_no, ev_t,
                    ev_c, reduceIte, Nat.reduceEqDiff, List.map_cons, List.map_nil]
                  refine put1_eq (v := .int .i64 x2.Begin) rfl ?_
                  simp only [hg107, run_guard (g := 46), guard_false, f99, run_fa, put1_some, Nat.reduceAdd, Nat.zero_add, Nat.add_zero, xfa_ref, run_ld, put_at, put_no, ev_t,
                      ev_c, reduceIte, Nat.reduceEqDiff, List.map_cons, List.map_nil]
                  refine put1_eq (v := .int .i64 x2.End) rfl ?_
                  simp only [hg107, run_guard (g := 46), guard_false, run_bin, put1_some, xgeq, run_pick, xpick_f, run_ops_nil, run_nil, put_at, put_no, ev_t, ev_c, reduceIte,
                      Nat.reduceEqDiff, List.map_cons, List.map_nil]
                  exact hN106 _ _ ⟨hS104, by rw [orF hg107]; simp only [put_at, put_no, ev_t, ev_c, reduceIte, Nat.reduceEqDiff, List.map_cons, List.map_nil], by simp only [f97,
                      put_at, put_no, ev_t, ev_c, reduceIte, Nat.reduceEqDiff, List.map_cons, List.map_nil], by simp only [f98, put_at, put_no, ev_t, ev_c, reduceIte,
                      Nat.reduceEqDiff, List.map_cons, List.map_nil], by simp only [f99, put_at, put_no, ev_t, ev_c, reduceIte, Nat.reduceEqDiff, List.map_cons, List.map_nil],
                      by simp only [f100, put_at, put_no, ev_t, ev_c, reduceIte, Nat.reduceEqDiff, List.map_cons, List.map_nil], by simp only [f101, put_at, put_no, ev_t, ev_c,
                      reduceIte, Nat.reduceEqDiff, List.map_cons, List.map_nil], by simp only [f102, put_at, put_no, ev_t, ev_c, reduceIte, Nat.reduceEqDiff, List.map_cons,
                      List.map_nil]⟩
              · rintro fr108 h116 ⟨hS117, f109, f110, f111, f112, f113, f114, f115⟩
                simp only [List.drop_succ_cons, List.drop_zero]
                simp only [run_ops_nil, f109, run_cond, put_at, put_no, ev_t, ev_c, reduceIte, Nat.reduceEqDiff, List.map_cons, List.map_nil]
                refine cond_split (t := ((((((!(impl_in x2.Client 0 3)) || (!(impl_in x2.Object 0 2))) || (!(impl_in x2.Value s31 9))) || (!(impl_in x2.Begin 0 100))) ||
                    (!(impl_in x2.End 0 100))) || (decide (x2.End ≤ x2.Begin)))) (fun hc118 => ?_) (fun hc118 => ?_)
                · rw [iteT hc118] at hk34
                  simp only [run_seq, run_reg, run_mv, run_ops_nil, run_ret, put_at, put_no, ev_t, ev_c, reduceIte, Nat.reduceEqDiff, List.map_cons, List.map_nil]
                  have e119 := some_inj hk34
                  subst e119
                  have ho120 := hr8 _ rfl
                  have hk121 := hk6
                  rw [ho120] at hk121
                  dsimp only [jnO] at hk121
                  apply hR12
                  have he := some_inj hk121
                  subst he
                  simp only [end_ret1, put_at, put_no, ev_t, ev_c, reduceIte, Nat.reduceEqDiff, List.map_cons, List.map_nil]
                  exact rfl
                · rw [iteF hc118] at hk34
                  obtain ⟨l122, hx123, hF124⟩ := bind_some' hk34
                  simp only [run_skip, x43_5, run_seq, run_reg, f110, run_mv, f111, run_slc, Option.map_some, Option.map_none, put_at, put_no, ev_t, ev_c, reduceIte,
                      Nat.reduceEqDiff, List.map_cons, List.map_nil]
                  refine put1_eq (pslc_lst_hi hx123 (fun _ => rfl)) ?_
                  simp only [run_len, put1_some, xlen_lst, run_mv, run_ops_nil, put_at, put_no, ev_t, ev_c, reduceIte, Nat.reduceEqDiff, List.map_cons, List.map_nil]
                  obtain ⟨oc127, hX129, hk130⟩ := jn_some hF124
                  simp only [x43_4]
                  refine rangeL_j (σ := Unit) l122 (fun i125 x126 _ => impl_areCalls_b1 x2 i125 x126 )
                      (fun s fr' h' => fr' 0 = lst Call.cells v_0 ∧ fr' 4 = .ref [.int .i64 x2.Client, .int .i64 x2.Object, .bool x2.Write, .int .i64 x2.Value, .int .i64 x2.Begin,
                      .int .i64 x2.End] 0 ∧ fr' 8 = lst Call.cells v_0 ∧ fr' 9 = .int .i64 (List.length v_0 : Int) ∧ fr' 10 = .int .i64
                      (i1 : Int) ∧ fr' 55 = lst Call.cells l122 ∧ Sep h' h.length ([])) hX129 ⟨by simp only [f110, put_at, put_no, ev_t, ev_c, reduceIte, Nat.reduceEqDiff,
                      List.map_cons, List.map_nil], by simp only [f112, put_at, put_no, ev_t, ev_c, reduceIte, Nat.reduceEqDiff, List.map_cons, List.map_nil], by simp only [f113,
                      put_at, put_no, ev_t, ev_c, reduceIte, Nat.reduceEqDiff, List.map_cons, List.map_nil], by simp only [f114, put_at, put_no, ev_t, ev_c, reduceIte,
                      Nat.reduceEqDiff, List.map_cons, List.map_nil], by simp only [f115, put_at, put_no, ev_t, ev_c, reduceIte, Nat.reduceEqDiff, List.map_cons, List.map_nil],
                      by simp only [put_at, put_no, ev_t, ev_c, reduceIte, Nat.reduceEqDiff, List.map_cons, List.map_nil], hS117⟩ (by simp only [put_at, put_no, ev_t, ev_c,
                      reduceIte, Nat.reduceEqDiff, List.map_cons, List.map_nil]) (by simp only [put_at, put_no, ev_t, ev_c, reduceIte, Nat.reduceEqDiff, List.map_cons,
                      List.map_nil]) (fun _ _ _ h => h) rfl rfl (fun _ _ _ _ h => h) (fun _ _ _ _ h => h) (fun _ _ _ _ h => h) (by decide) ?_ ?_
                  · rintro i125 x126 _ fr139 h140 hx148 ⟨f142, f143, f144, f145, f146, f147, hS141⟩ f149 f150 oc128 hF131 hr132 Q133 hN134 hB138 hK135 hR136 hE137
                    unfold impl_areCalls_b1 at hF131
                    simp only [x43_2, run_seq, run_reg, f147, f149, run_ia, put_at, put_no, ev_t, ev_c, reduceIte, Nat.reduceEqDiff, List.map_cons, List.map_nil]
                    refine put1_eq (v := .ref (Call.cells x126) 0) (xia_lstN hx148 rfl) ?_
                    simp only [run_ld, put_at, put_no, ev_t, ev_c, reduceIte, Nat.reduceEqDiff, List.map_cons, List.map_nil]
                    refine put1_eq (v := .agg [.int .i64 x126.Client, .int .i64 x126.Object, .bool x126.Write, .int .i64 x126.Value, .int .i64 x126.Begin,
                        .int .i64 x126.End]) rfl ?_
                    simp only [run_new, put_at, put_no, ev_t, ev_c, reduceIte, Nat.reduceEqDiff, List.map_cons, List.map_nil]
                    refine put2_newC hS141 (fun b151 h152 hS153 => ?_)
                    simp only [run_st, put_at, put_no, ev_t, ev_c, reduceIte, Nat.reduceEqDiff, List.map_cons, List.map_nil]
                    refine put2_stC (cs' := [.int .i64 x126.Client, .int .i64 x126.Object, .bool x126.Write, .int .i64 x126.Value, .int .i64 x126.Begin,
                        .int .i64 x126.End]) hS153 hW rfl rfl (Nat.le_of_ble_eq_true rfl) rfl (fun h155 hS156 => ?_)
                    simp only [put_no, run_ops_nil, put_at, ev_t, ev_c, reduceIte, Nat.reduceEqDiff, List.map_cons, List.map_nil]
                    refine frz_stepC hS156 hW (by simp only [put_at, put_no, ev_t, ev_c, reduceIte, Nat.reduceEqDiff, List.map_cons, List.map_nil]) (fun h157 hS158 => ?_)
                    simp only [run_frz_nil, x43_1, run_seq, run_reg, f143, run_fa, put1_some, Nat.reduceAdd, Nat.zero_add, Nat.add_zero, xfa_ref, run_ld, put_at, put_no, ev_t,
                        ev_c, reduceIte, Nat.reduceEqDiff, List.map_cons, List.map_nil]
                    refine put1_eq (v := .int .i64 x2.Client) rfl ?_
                    simp only [run_fa, put1_some, Nat.reduceAdd, Nat.zero_add, Nat.add_zero, xfa_ref, run_ld, put_at, put_no, ev_t, ev_c, reduceIte, Nat.reduceEqDiff,
                        List.map_cons, List.map_nil]
                    refine put1_eq (v := .int .i64 x126.Client) rfl ?_
                    simp only [run_bin, put1_some, xeql, run_mv, put_at, put_no, ev_t, ev_c, reduceIte, Nat.reduceEqDiff, List.map_cons, List.map_nil]
                    refine ops_j 6 (fun fr' h' => Sep h' h.length ([]) ∧ fr' 72 = .bool ((decide (x2.Client = x126.Client)) && (decide
                        (x126.Begin < x2.End))) ∧ fr' 0 = lst Call.cells v_0 ∧ fr' 4 = .ref [.int .i64 x2.Client, .int .i64 x2.Object, .bool x2.Write, .int .i64 x2.Value,
                        .int .i64 x2.Begin, .int .i64 x2.End] 0 ∧ fr' 7 = .ref [.int .i64 x126.Client, .int .i64 x126.Object, .bool x126.Write, .int .i64 x126.Value,
                        .int .i64 x126.Begin, .int .i64 x126.End] 0 ∧ fr' 8 = lst Call.cells v_0 ∧ fr' 9 = .int .i64 (List.length v_0 : Int) ∧ fr' 10 = .int .i64
                        (i1 : Int) ∧ fr' 55 = lst Call.cells l122 ∧ fr' 56 = .int .i64 (List.length l122 : Int) ∧ fr' 57 = .int .i64 (i125 : Int)) (fun Q159 hN160 => ?_) ?_
                    · simp only [List.take_succ_cons, List.take_zero]
                      simp only [run_guard (g := 66), put_at, put_no, ev_t, ev_c, reduceIte, Nat.reduceEqDiff, List.map_cons, List.map_nil]
                      refine guard_split (t := (decide (x2.Client = x126.Client))) (fun hg161 => ?_) (fun hg161 => ?_)
                      · simp only [hg161, run_guard (g := 66), guard_true, f143, run_fa, put1_some, Nat.reduceAdd, Nat.zero_add, Nat.add_zero, xfa_ref, run_ld, put_at, put_no,
                          ev_t, ev_c, reduceIte, Nat.reduceEqDiff, List.map_cons, List.map_nil]
                        refine put1_eq (v := .int .i64 x2.End) rfl ?_
                        simp only [hg161, run_guard (g := 66), guard_true, run_fa, put1_some, Nat.reduceAdd, Nat.zero_add, Nat.add_zero, xfa_ref, run_ld, put_at, put_no, ev_t,
                            ev_c, reduceIte, Nat.reduceEqDiff, List.map_cons, List.map_nil]
                        refine put1_eq (v := .int .i64 x126.Begin) rfl ?_
                        simp only [hg161, run_guard (g := 66), guard_true, run_bin, put1_some, xgtr, run_pick, xpick_t, run_ops_nil, run_nil, put_at, put_no, ev_t, ev_c,
                            reduceIte, Nat.reduceEqDiff, List.map_cons, List.map_nil]
                        exact hN160 _ _ ⟨hS158, by rw [andT hg161]; simp only [put_at, put_no, ev_t, ev_c, reduceIte, Nat.reduceEqDiff, List.map_cons, List.map_nil],
                            by simp only [f142, put_at, put_no, ev_t, ev_c, reduceIte, Nat.reduceEqDiff, List.map_cons, List.map_nil], by simp only [f143, put_at, put_no, ev_t,
                            ev_c, reduceIte, Nat.reduceEqDiff, List.map_cons, List.map_nil], by simp only [put_at, put_no, ev_t, ev_c, reduceIte, Nat.reduceEqDiff, List.map_cons,
                            List.map_nil], by simp only [f144, put_at, put_no, ev_t, ev_c, reduceIte, Nat.reduceEqDiff, List.map_cons, List.map_nil], by simp only [f145, put_at,
                            put_no, ev_t, ev_c, reduceIte, Nat.reduceEqDiff, List.map_cons, List.map_nil], by simp only [f146, put_at, put_no, ev_t, ev_c, reduceIte,
                            Nat.reduceEqDiff, List.map_cons, List.map_nil], by simp only [f147, put_at, put_no, ev_t, ev_c, reduceIte, Nat.reduceEqDiff, List.map_cons,
                            List.map_nil], by simp only [f150, put_at, put_no, ev_t, ev_c, reduceIte, Nat.reduceEqDiff, List.map_cons, List.map_nil], by simp only [f149, put_at,
                            put_no, ev_t, ev_c, reduceIte, Nat.reduceEqDiff, List.map_cons, List.map_nil]⟩
                      · simp only [hg161, run_guard (g := 66), guard_off, run_pick, put1_some, xpick_f, run_ops_nil, run_nil, put_at, put_no, ev_t, ev_c, reduceIte,
                          Nat.reduceEqDiff, List.map_cons, List.map_nil]
                        exact hN160 _ _ ⟨hS158, by rw [andF hg161]; simp only [put_at, put_no, ev_t, ev_c, reduceIte, Nat.reduceEqDiff, List.map_cons, List.map_nil],
                            by simp only [f142, put_at, put_no, ev_t, ev_c, reduceIte, Nat.reduceEqDiff, List.map_cons, List.map_nil], by simp only [f143, put_at, put_no, ev_t,
                            ev_c, reduceIte, Nat.reduceEqDiff, List.map_cons, List.map_nil], by simp only [put_at, put_no, ev_t, ev_c, reduceIte, Nat.reduceEqDiff, List.map_cons,
                            List.map_nil], by simp only [f144, put_at, put_no, ev_t, ev_c, reduceIte, Nat.reduceEqDiff, List.map_cons, List.map_nil], by simp only [f145, put_at,
                            put_no, ev_t, ev_c, reduceIte, Nat.reduceEqDiff, List.map_cons, List.map_nil], by simp only [f146, put_at, put_no, ev_t, ev_c, reduceIte,
                            Nat.reduceEqDiff, List.map_cons, List.map_nil], by simp only [f147, put_at, put_no, ev_t, ev_c, reduceIte, Nat.reduceEqDiff, List.map_cons,
                            List.map_nil], by simp only [f150, put_at, put_no, ev_t, ev_c, reduceIte, Nat.reduceEqDiff, List.map_cons, List.map_nil], by simp only [f149, put_at,
                            put_no, ev_t, ev_c, reduceIte, Nat.reduceEqDiff, List.map_cons, List.map_nil]⟩
                    · rintro fr162 h173 ⟨hS174, f163, f164, f165, f166, f167, f168, f169, f170, f171, f172⟩
                      simp only [List.drop_succ_cons, List.drop_zero]
                      simp only [f163, run_mv, put_at, put_no, ev_t, ev_c, reduceIte, Nat.reduceEqDiff, List.map_cons, List.map_nil]
                      refine ops_j 6 (fun fr' h' => Sep h' h.length ([]) ∧ fr' 79 = .bool (((decide (x2.Client = x126.Client)) && (decide (x126.Begin < x2.End))) && (decide
                          (x2.Begin < x126.End))) ∧ fr' 0 = lst Call.cells v_0 ∧ fr' 4 = .ref [.int .i64 x2.Client, .int .i64 x2.Object, .bool x2.Write, .int .i64 x2.Value,
                          .int .i64 x2.Begin, .int .i64 x2.End] 0 ∧ fr' 8 = lst Call.cells v_0 ∧ fr' 9 = .int .i64 (List.length v_0 : Int) ∧ fr' 10 = .int .i64
                          (i1 : Int) ∧ fr' 55 = lst Call.cells l122 ∧ fr' 56 = .int .i64 (List.length l122 : Int) ∧ fr' 57 = .int .i64 (i125 : Int)) (fun Q175 hN176 => ?_) ?_
                      · simp only [List.take_succ_cons, List.take_zero]
                        simp only [run_guard (g := 73), put_at, put_no, ev_t, ev_c, reduceIte, Nat.reduceEqDiff, List.map_cons, List.map_nil]
                        refine guard_split (t := ((decide (x2.Client = x126.Client)) && (decide (x126.Begin < x2.End)))) (fun hg177 => ?_) (fun hg177 => ?_)
                        · simp only [hg177, run_guard (g := 73), guard_true, f166, run_fa, put1_some, Nat.reduceAdd, Nat.zero_add, Nat.add_zero, xfa_ref, run_ld, put_at, put_no,
                            ev_t, ev_c, reduceIte, Nat.reduceEqDiff, List.map_cons, List.map_nil]
                          refine put1_eq (v := .int .i64 x126.End) rfl ?_
                          simp only [hg177, run_guard (g := 73), guard_true, f165, run_fa, put1_some, Nat.reduceAdd, Nat.zero_add, Nat.add_zero, xfa_ref, run_ld, put_at, put_no,
                              ev_t, ev_c, reduceIte, Nat.reduceEqDiff, List.map_cons, List.map_nil]
                          refine put1_eq (v := .int .i64 x2.Begin) rfl ?_
                          simp only [hg177, run_guard (g := 73), guard_true, run_bin, put1_some, xgtr, run_pick, xpick_t, run_ops_nil, run_nil, put_at, put_no, ev_t, ev_c,
                              reduceIte, Nat.reduceEqDiff, List.map_cons, List.map_nil]
                          exact hN176 _ _ ⟨hS174, by rw [andT hg177]; simp only [put_at, put_no, ev_t, ev_c, reduceIte, Nat.reduceEqDiff, List.map_cons, List.map_nil],
                              by simp only [f164, put_at, put_no, ev_t, ev_c, reduceIte, Nat.reduceEqDiff, List.map_cons, List.map_nil], by simp only [f165, put_at, put_no, ev_t,
                              ev_c, reduceIte, Nat.reduceEqDiff, List.map_cons, List.map_nil], by simp only [f167, put_at, put_no, ev_t, ev_c, reduceIte, Nat.reduceEqDiff,
                              List.map_cons, List.map_nil], by simp only [f168, put_at, put_no, ev_t, ev_c, reduceIte, Nat.reduceEqDiff, List.map_cons, List.map_nil],
                              by simp only [f169, put_at, put_no, ev_t, ev_c, reduceIte, Nat.reduceEqDiff, List.map_cons, List.map_nil], by simp only [f170, put_at, put_no, ev_t,
                              ev_c, reduceIte, Nat.reduceEqDiff, List.map_cons, List.map_nil], by simp only [f171, put_at, put_no, ev_t, ev_c, reduceIte, Nat.reduceEqDiff,
                              List.map_cons, List.map_nil], by simp only [f172, put_at, put_no, ev_t, ev_c, reduceIte, Nat.reduceEqDiff, List.map_cons, List.map_nil]⟩
                        · simp only [hg177, run_guard (g := 73), guard_off, run_pick, put1_some, xpick_f, run_ops_nil, run_nil, put_at, put_no, ev_t, ev_c, reduceIte,
                            Nat.reduceEqDiff, List.map_cons, List.map_nil]
                          exact hN176 _ _ ⟨hS174, by rw [andF hg177]; simp only [put_at, put_no, ev_t, ev_c, reduceIte, Nat.reduceEqDiff, List.map_cons, List.map_nil],
                              by simp only [f164, put_at, put_no, ev_t, ev_c, reduceIte, Nat.reduceEqDiff, List.map_cons, List.map_nil], by simp only [f165, put_at, put_no, ev_t,
                              ev_c, reduceIte, Nat.reduceEqDiff, List.map_cons, List.map_nil], by simp only [f167, put_at, put_no, ev_t, ev_c, reduceIte, Nat.reduceEqDiff,
                              List.map_cons, List.map_nil], by simp only [f168, put_at, put_no, ev_t, ev_c, reduceIte, Nat.reduceEqDiff, List.map_cons, List.map_nil],
                              by simp only [f169, put_at, put_no, ev_t, ev_c, reduceIte, Nat.reduceEqDiff, List.map_cons, List.map_nil], by simp only [f170, put_at, put_no, ev_t,
                              ev_c, reduceIte, Nat.reduceEqDiff, List.map_cons, List.map_nil], by simp only [f171, put_at, put_no, ev_t, ev_c, reduceIte, Nat.reduceEqDiff,
                              List.map_cons, List.map_nil], by simp only [f172, put_at, put_no, ev_t, ev_c, reduceIte, Nat.reduceEqDiff, List.map_cons, List.map_nil]⟩
                      · rintro fr178 h188 ⟨hS189, f179, f180, f181, f182, f183, f184, f185, f186, f187⟩
                        simp only [List.drop_succ_cons, List.drop_zero]
                        simp only [run_ops_nil, f179, run_cond, put_at, put_no, ev_t, ev_c, reduceIte, Nat.reduceEqDiff, List.map_cons, List.map_nil]
                        refine cond_split (t := (((decide (x2.Client = x126.Client)) && (decide (x126.Begin < x2.End))) && (decide (x2.Begin < x126.End)))) (fun hc190 => ?_)
                            (fun hc190 => ?_)
                        · rw [iteT hc190] at hF131
                          simp only [run_seq, run_reg, run_mv, run_ops_nil, run_ret, put_at, put_no, ev_t, ev_c, reduceIte, Nat.reduceEqDiff, List.map_cons, List.map_nil]
                          have e191 := some_inj hF131
                          subst e191
                          have ho192 := hr132 _ rfl
                          have hk193 := hk130
                          rw [ho192] at hk193
                          dsimp only [jnO] at hk193
                          apply hR136
                          have e194 := some_inj hk193
                          subst e194
                          have ho195 := hr8 _ rfl
                          have hk196 := hk6
                          rw [ho195] at hk196
                          dsimp only [jnO] at hk196
                          apply hR12
                          have he := some_inj hk196
                          subst he
                          simp only [end_ret1, put_at, put_no, ev_t, ev_c, reduceIte, Nat.reduceEqDiff, List.map_cons, List.map_nil]
                          exact rfl
                        · rw [iteF hc190] at hF131
                          simp only [run_skip, run_nil, put_at, put_no, ev_t, ev_c, reduceIte, Nat.reduceEqDiff, List.map_cons, List.map_nil]
                          have e197 := some_inj hF131
                          exact hN134 _ _ _ e197.symm ⟨by simp only [f180, put_at, put_no, ev_t, ev_c, reduceIte, Nat.reduceEqDiff, List.map_cons, List.map_nil],
                              by simp only [f181, put_at, put_no, ev_t, ev_c, reduceIte, Nat.reduceEqDiff, List.map_cons, List.map_nil], by simp only [f182, put_at, put_no, ev_t,
                              ev_c, reduceIte, Nat.reduceEqDiff, List.map_cons, List.map_nil], by simp only [f183, put_at, put_no, ev_t, ev_c, reduceIte, Nat.reduceEqDiff,
                              List.map_cons, List.map_nil], by simp only [f184, put_at, put_no, ev_t, ev_c, reduceIte, Nat.reduceEqDiff, List.map_cons, List.map_nil],
                              by simp only [f185, put_at, put_no, ev_t, ev_c, reduceIte, Nat.reduceEqDiff, List.map_cons, List.map_nil], hS189⟩ (by simp only [f187, put_at,
                              put_no, ev_t, ev_c, reduceIte, Nat.reduceEqDiff, List.map_cons, List.map_nil]) (by simp only [f186, put_at, put_no, ev_t, ev_c, reduceIte,
                              Nat.reduceEqDiff, List.map_cons, List.map_nil])
                  · rintro _ fr199 h200 rfl ⟨f202, f203, f204, f205, f206, f207, hS201⟩
                    dsimp only [jnO] at hk130
                    unfold impl_areCalls_j2 at hk130
                    simp only [run_nil, put_at, put_no, ev_t, ev_c, reduceIte, Nat.reduceEqDiff, List.map_cons, List.map_nil]
                    have e208 := some_inj hk130
                    exact hN10 _ _ _ e208.symm ⟨by simp only [f202, put_at, put_no, ev_t, ev_c, reduceIte, Nat.reduceEqDiff, List.map_cons, List.map_nil], by simp only [f204,
                        put_at, put_no, ev_t, ev_c, reduceIte, Nat.reduceEqDiff, List.map_cons, List.map_nil], hS201⟩ (by simp only [f206, put_at, put_no, ev_t, ev_c, reduceIte,
                        Nat.reduceEqDiff, List.map_cons, List.map_nil]) (by simp only [f205, put_at, put_no, ev_t, ev_c, reduceIte, Nat.reduceEqDiff, List.map_cons, List.map_nil])
  · rintro _ fr212 h213 rfl ⟨f215, f216, hS214⟩
    dsimp only [jnO] at hk6
    unfold impl_areCalls_j3 at hk6
    simp only [x43_12, run_seq, run_reg, f215, run_mv, run_len, put1_some, xlen_lst, run_bin, xleq, run_ops_nil, run_ret, put_at, put_no, ev_t, ev_c, reduceIte, Nat.reduceEqDiff,
        List.map_cons, List.map_nil]
    have he := some_inj hk6
    subst he
    simp only [end_ret1, put_at, put_no, ev_t, ev_c, reduceIte, Nat.reduceEqDiff, List.map_cons, List.map_nil]
    exact rfl
theorem impl_inOrder_x {W : Nat → Bool} {h : Heap} (hW : ∀ b,
    h.length ≤ b → W b = true) (order_0 : List Int) {g1 : Nat} {caps1 : List XV} (hm1 : E.mode g1 = 1) (may_1 : Int → Int → Option Bool) (hf1 : ∀ (W : Nat → Bool) (h : Heap),
    (∀ b, h.length ≤ b → W b = true) → ∀ a0 a1 r, may_1 a0 a1 = some r → Ret E W g1 ([.int .i64 a0,
    .int .i64 a1] ++ caps1) h (fun v h' => cut h.length h' E.sz false 9 v = some (.bool r))) (r : Bool) (hF : impl_inOrder order_0 may_1 = some r) : Ret E W 55 [lst cI order_0,
    .fn g1 caps1] h (fun v h' => cut h.length h' E.sz false 9 v = some (.bool r)) := by
  refine Ret.of (fn := x55) rfl (Run.of ?_)
  unfold impl_inOrder at hF
  have zf0 : argFr [lst cI order_0, .fn g1 caps1] 0 = lst cI order_0 := rfl
  have zf1 : argFr [lst cI order_0, .fn g1 caps1] 1 = .fn g1 caps1 := rfl
  generalize argFr [lst cI order_0, .fn g1 caps1] = fr0 at zf0 zf1 ⊢
  have hS : Sep h h.length [] := Sep.nil h
  simp only [x55, run_seq, run_reg, run_mv, run_ops_nil, x55_9, zf0, run_len, put1_some, xlen_lst, put_at, put_no, ev_t, ev_c, reduceIte, Nat.reduceEqDiff, List.map_cons,
      List.map_nil]
  obtain ⟨oc3, hX5, hk6⟩ := jn_some hF
  simp only [x55_8]
  refine rangeL_j (σ := Unit) order_0 (fun i1 x2 _ => impl_inOrder_b2 order_0 may_1 i1 x2 )
      (fun s fr' h' => fr' 0 = lst cI order_0 ∧ fr' 1 = .fn g1 caps1 ∧ fr' 9 = lst cI order_0 ∧ Sep h' h.length ([])) hX5 ⟨by simp only [zf0, put_at, put_no, ev_t, ev_c,
      reduceIte, Nat.reduceEqDiff, List.map_cons, List.map_nil], by simp only [zf1, put_at, put_no, ev_t, ev_c, reduceIte, Nat.reduceEqDiff, List.map_cons, List.map_nil],
      by simp only [put_at, put_no, ev_t, ev_c, reduceIte, Nat.reduceEqDiff, List.map_cons, List.map_nil], hS⟩ (by simp only [put_at, put_no, ev_t, ev_c, reduceIte,
      Nat.reduceEqDiff, List.map_cons, List.map_nil]) (by simp only [put_at, put_no, ev_t, ev_c, reduceIte, Nat.reduceEqDiff, List.map_cons,
      List.map_nil]) (fun _ _ _ h => h) rfl rfl (fun _ _ _ _ h => h) (fun _ _ _ _ h => h) (fun _ _ _ _ h => h) (by decide) ?_ ?_
  · rintro i1 x2 _ fr15 h16 hx21 ⟨f18, f19, f20, hS17⟩ f22 f23 oc4 hF7 hr8 Q9 hN10 hB14 hK11 hR12 hE13
    unfold impl_inOrder_b2 at hF7
    simp only [x55_6, run_seq, run_reg, f22, run_mv, f20, run_ia, put_at, put_no, ev_t, ev_c, reduceIte, Nat.reduceEqDiff, List.map_cons, List.map_nil]
    refine put1_eq (v := .ref (cI x2) 0) (xia_lstN hx21 rfl) ?_
    simp only [run_ld, put_at, put_no, ev_t, ev_c, reduceIte, Nat.reduceEqDiff, List.map_cons, List.map_nil]
    refine put1_eq (v := .int .i64 x2) rfl ?_
    obtain ⟨l24, hx25, hF26⟩ := bind_some' hF7
    simp only [run_mv, run_ops_nil, x55_5, run_seq, run_reg, f18, run_slc, Option.map_some, Option.map_none, put_at, put_no, ev_t, ev_c, reduceIte, Nat.reduceEqDiff,
        List.map_cons, List.map_nil]
    refine put1_eq (pslc_lst_hi hx25 (fun _ => rfl)) ?_
    simp only [run_len, put1_some, xlen_lst, run_mv, run_ops_nil, put_at, put_no, ev_t, ev_c, reduceIte, Nat.reduceEqDiff, List.map_cons, List.map_nil]
    obtain ⟨oc29, hX31, hk32⟩ := jn_some hF26
    simp only [x55_4]
    refine rangeL_j (σ := Unit) l24 (fun i27 x28 _ => impl_inOrder_b1 may_1 x2 i27 x28 )
        (fun s fr' h' => fr' 0 = lst cI order_0 ∧ fr' 1 = .fn g1 caps1 ∧ fr' 6 = .int .i64 x2 ∧ fr' 9 = lst cI order_0 ∧ fr' 10 = .int .i64
        (List.length order_0 : Int) ∧ fr' 11 = .int .i64 (i1 : Int) ∧ fr' 18 = lst cI l24 ∧ Sep h' h.length ([])) hX31 ⟨by simp only [f18, put_at, put_no, ev_t, ev_c, reduceIte,
        Nat.reduceEqDiff, List.map_cons, List.map_nil], by simp only [f19, put_at, put_no, ev_t, ev_c, reduceIte, Nat.reduceEqDiff, List.map_cons, List.map_nil],
        by simp only [put_at, put_no, ev_t, ev_c, reduceIte, Nat.reduceEqDiff, List.map_cons, List.map_nil], by simp only [f20, put_at, put_no, ev_t, ev_c, reduceIte,
        Nat.reduceEqDiff, List.map_cons, List.map_nil], by simp only [f23, put_at, put_no, ev_t, ev_c, reduceIte, Nat.reduceEqDiff, List.map_cons, List.map_nil],
        by simp only [f22, put_at, put_no, ev_t, ev_c, reduceIte, Nat.reduceEqDiff, List.map_cons, List.map_nil], by simp only [put_at, put_no, ev_t, ev_c, reduceIte,
        Nat.reduceEqDiff, List.map_cons, List.map_nil], hS17⟩ (by simp only [put_at, put_no, ev_t, ev_c, reduceIte, Nat.reduceEqDiff, List.map_cons,
        List.map_nil]) (by simp only [put_at, put_no, ev_t, ev_c, reduceIte, Nat.reduceEqDiff, List.map_cons,
        List.map_nil]) (fun _ _ _ h => h) rfl rfl (fun _ _ _ _ h => h) (fun _ _ _ _ h => h) (fun _ _ _ _ h => h) (by decide) ?_ ?_
    · rintro i27 x28 _ fr41 h42 hx51 ⟨f44, f45, f46, f47, f48, f49, f50, hS43⟩ f52 f53 oc30 hF33 hr34 Q35 hN36 hB40 hK37 hR38 hE39
      unfold impl_inOrder_b1 at hF33
      simp only [x55_2, run_seq, run_reg, f50, f52, run_ia, put_at, put_no, ev_t, ev_c, reduceIte, Nat.reduceEqDiff, List.map_cons, List.map_nil]
      refine put1_eq (v := .ref (cI x28) 0) (xia_lstN hx51 rfl) ?_
      simp only [run_ld, put_at, put_no, ev_t, ev_c, reduceIte, Nat.reduceEqDiff, List.map_cons, List.map_nil]
      refine put1_eq (v := .int .i64 x28) rfl ?_
      obtain ⟨v54, hx55, hF56⟩ := bind_some' hF33
      simp only [run_mv, run_ops_nil, x55_1, run_seq, run_reg, f45, f46, run_call, put_at, put_no, ev_t, ev_c, reduceIte, Nat.reduceEqDiff, List.map_cons, List.map_nil]
      refine call1 hm1 (mapM1 snap_int (mapM1 snap_int mapM0)) (hf1 _ _ (fun b hb => decide_eq_true hb) x28 x2 v54 hx55) ?_
      simp only [run_un, put1_some, xnot, run_ops_nil, run_cond, put_at, put_no, ev_t, ev_c, reduceIte, Nat.reduceEqDiff, List.map_cons, List.map_nil]
      refine cond_split (t := (!v54)) (fun hc57 => ?_) (fun hc57 => ?_)
      · rw [iteT hc57] at hF56
        simp only [run_seq, run_reg, run_mv, run_ops_nil, run_ret, put_at, put_no, ev_t, ev_c, reduceIte, Nat.reduceEqDiff, List.map_cons, List.map_nil]
        have e58 := some_inj hF56
        subst e58
        have ho59 := hr34 _ rfl
        have hk60 := hk32
        rw [ho59] at hk60
        dsimp only [jnO] at hk60
        apply hR38
        have e61 := some_inj hk60
        subst e61
        have ho62 := hr8 _ rfl
        have hk63 := hk6
        rw [ho62] at hk63
        dsimp only [jnO] at hk63
        apply hR12
        have he := some_inj hk63
        subst he
        simp only [end_ret1, put_at, put_no, ev_t, ev_c, reduceIte, Nat.reduceEqDiff, List.map_cons, List.map_nil]
        exact rfl
      · rw [iteF hc57] at hF56
        simp only [run_skip, run_nil, put_at, put_no, ev_t, ev_c, reduceIte, Nat.reduceEqDiff, List.map_cons, List.map_nil]
        have e64 := some_inj hF56
        exact hN36 _ _ _ e64.symm ⟨by simp only [f44, put_at, put_no, ev_t, ev_c, reduceIte, Nat.reduceEqDiff, List.map_cons, List.map_nil], by simp only [f45, put_at, put_no,
            ev_t, ev_c, reduceIte, Nat.reduceEqDiff, List.map_cons, List.map_nil], by simp only [f46, put_at, put_no, ev_t, ev_c, reduceIte, Nat.reduceEqDiff, List.map_cons,
            List.map_nil], by simp only [f47, put_at, put_no, ev_t, ev_c, reduceIte, Nat.reduceEqDiff, List.map_cons, List.map_nil], by simp only [f48, put_at, put_no, ev_t, ev_c,
            reduceIte, Nat.reduceEqDiff, List.map_cons, List.map_nil], by simp only [f49, put_at, put_no, ev_t, ev_c, reduceIte, Nat.reduceEqDiff, List.map_cons, List.map_nil],
            by simp only [f50, put_at, put_no, ev_t, ev_c, reduceIte, Nat.reduceEqDiff, List.map_cons, List.map_nil], hS43⟩ (by simp only [f52, put_at, put_no, ev_t, ev_c,
            reduceIte, Nat.reduceEqDiff, List.map_cons, List.map_nil]) (by simp only [f53, put_at, put_no, ev_t, ev_c, reduceIte, Nat.reduceEqDiff, List.map_cons, List.map_nil])
    · rintro _ fr66 h67 rfl ⟨f69, f70, f71, f72, f73, f74, f75, hS68⟩
      dsimp only [jnO] at hk32
      unfold impl_inOrder_j1 at hk32
      simp only [run_nil, put_at, put_no, ev_t, ev_c, reduceIte, Nat.reduceEqDiff, List.map_cons, List.map_nil]
      have e76 := some_inj hk32
      exact hN10 _ _ _ e76.symm ⟨by simp only [f69, put_at, put_no, ev_t, ev_c, reduceIte, Nat.reduceEqDiff, List.map_cons, List.map_nil], by simp only [f70, put_at, put_no, ev_t,
          ev_c, reduceIte, Nat.reduceEqDiff, List.map_cons, List.map_nil], by simp only [f72, put_at, put_no, ev_t, ev_c, reduceIte, Nat.reduceEqDiff, List.map_cons,
          List.map_nil], hS68⟩ (by simp only [f74, put_at, put_no, ev_t, ev_c, reduceIte, Nat.reduceEqDiff, List.map_cons, List.map_nil]) (by simp only [f73, put_at, put_no, ev_t,
          ev_c, reduceIte, Nat.reduceEqDiff, List.map_cons, List.map_nil])
  · rintro _ fr79 h80 rfl ⟨f82, f83, f84, hS81⟩
    dsimp only [jnO] at hk6
    unfold impl_inOrder_j2 at hk6
    simp only [run_seq, run_reg, run_mv, run_ops_nil, run_ret, put_at, put_no, ev_t, ev_c, reduceIte, Nat.reduceEqDiff, List.map_cons, List.map_nil]
    have he := some_inj hk6
    subst he
    simp only [end_ret1, put_at, put_no, ev_t, ev_c, reduceIte, Nat.reduceEqDiff, List.map_cons, List.map_nil]
    exact rfl
end Go.Proofs.Ytddkoiapboeemaa.X
