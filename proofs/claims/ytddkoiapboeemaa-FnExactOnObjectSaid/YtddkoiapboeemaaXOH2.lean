/- The functions' code comes to what the plain functions say (2). -/
import Derived.Test.YtddkoiapboeemaaXOH1
set_option linter.unusedVariables false
set_option linter.unusedSimpArgs false
set_option maxRecDepth 100000
namespace Go.Proofs.Ytddkoiapboeemaa.X
open Go
theorem slices_IndexFunc_Call_x {W : Nat → Bool} {h : Heap} (hW : ∀ b,
    h.length ≤ b → W b = true) (s_0 : List Call) {g1 : Nat} {caps1 : List XV} (hm1 : E.mode g1 = 1) (f_1 : Call → Option Bool) (hf1 : ∀ (W : Nat → Bool) (h : Heap), (∀ b,
    h.length ≤ b → W b = true) → ∀ a0 r, f_1 a0 = some r → Ret E W g1 ([.agg [.int .i64 a0.Client, .int .i64 a0.Object, .bool a0.Write, .int .i64 a0.Value, .int .i64 a0.Begin,
    .int .i64 a0.End]] ++ caps1) h (fun v h' => cut h.length h' E.sz false 9 v = some (.bool r))) (r : Int)
    (hF : slices_IndexFunc_Call s_0 f_1 = some r) : Ret E W 65 [lst Call.cells s_0, .fn g1 caps1] h (fun v h' => cut h.length h' E.sz false 9 v = some (.int .i64 r)) := by
  refine Ret.of (fn := x65) rfl (Run.of ?_)
  unfold slices_IndexFunc_Call at hF
  have zf0 : argFr [lst Call.cells s_0, .fn g1 caps1] 0 = lst Call.cells s_0 := rfl
  have zf1 : argFr [lst Call.cells s_0, .fn g1 caps1] 1 = .fn g1 caps1 := rfl
  generalize argFr [lst Call.cells s_0, .fn g1 caps1] = fr0 at zf0 zf1 ⊢
  have hS : Sep h h.length [] := Sep.nil h
  simp only [x65, run_seq, run_reg, run_mv, run_ops_nil, x65_6, zf0, run_len, put1_some, xlen_lst, put_at, put_no, ev_t, ev_c, reduceIte, Nat.reduceEqDiff, List.map_cons,
      List.map_nil]
  obtain ⟨oc3, hX5, hk6⟩ := jn_some hF
  simp only [x65_5]
  refine rangeL_j (σ := Unit) s_0 (fun i1 x2 _ => slices_IndexFunc_Call_b1 f_1 i1 x2 ) (fun s fr' h' => fr' 0 = lst Call.cells s_0 ∧ fr' 1 = .fn g1 caps1 ∧ Sep h' h.length
      ([])) hX5 ⟨by simp only [zf0, put_at, put_no, ev_t, ev_c, reduceIte, Nat.reduceEqDiff, List.map_cons, List.map_nil], by simp only [zf1, put_at, put_no, ev_t, ev_c,
      reduceIte, Nat.reduceEqDiff, List.map_cons, List.map_nil], hS⟩ (by simp only [put_at, put_no, ev_t, ev_c, reduceIte, Nat.reduceEqDiff, List.map_cons,
      List.map_nil]) (by simp only [put_at, put_no, ev_t, ev_c, reduceIte, Nat.reduceEqDiff, List.map_cons,
      List.map_nil]) (fun _ _ _ h => h) rfl rfl (fun _ _ _ _ h => h) (fun _ _ _ _ h => h) (fun _ _ _ _ h => h) (by decide) ?_ ?_
  · rintro i1 x2 _ fr15 h16 hx20 ⟨f18, f19, hS17⟩ f21 f22 oc4 hF7 hr8 Q9 hN10 hB14 hK11 hR12 hE13
    unfold slices_IndexFunc_Call_b1 at hF7
    simp only [x65_3, run_seq, run_reg, f21, run_mv, run_ops_nil, x65_2, f19, f18, run_ia, put_at, put_no, ev_t, ev_c, reduceIte, Nat.reduceEqDiff, List.map_cons, List.map_nil]
    refine put1_eq (v := .ref (Call.cells x2) 0) (xia_lstN hx20 rfl) ?_
    simp only [run_ld, put_at, put_no, ev_t, ev_c, reduceIte, Nat.reduceEqDiff, List.map_cons, List.map_nil]
    refine put1_eq (v := .agg [.int .i64 x2.Client, .int .i64 x2.Object, .bool x2.Write, .int .i64 x2.Value, .int .i64 x2.Begin, .int .i64 x2.End]) rfl ?_
    obtain ⟨v23, hx24, hF25⟩ := bind_some' hF7
    simp only [run_call, put_at, put_no, ev_t, ev_c, reduceIte, Nat.reduceEqDiff, List.map_cons, List.map_nil]
    refine call1 hm1 (mapM1 (snap_agg (mapM1 snap_int (mapM1 snap_int (mapM1 snap_bool (mapM1 snap_int (mapM1 snap_int (mapM1 snap_int mapM0))))))) mapM0) (hf1 _ _
        (fun b hb => decide_eq_true hb) x2 v23 hx24) ?_
    simp only [run_ops_nil, x65_1, run_cond, put_at, put_no, ev_t, ev_c, reduceIte, Nat.reduceEqDiff, List.map_cons, List.map_nil]
    refine cond_split (t := v23) (fun hc26 => ?_) (fun hc26 => ?_)
    · rw [iteT hc26] at hF25
      simp only [run_seq, run_reg, run_mv, run_ops_nil, run_ret, put_at, put_no, ev_t, ev_c, reduceIte, Nat.reduceEqDiff, List.map_cons, List.map_nil]
      have e27 := some_inj hF25
      subst e27
      have ho28 := hr8 _ rfl
      have hk29 := hk6
      rw [ho28] at hk29
      dsimp only [jnO] at hk29
      apply hR12
      have he := some_inj hk29
      subst he
      simp only [end_ret1, put_at, put_no, ev_t, ev_c, reduceIte, Nat.reduceEqDiff, List.map_cons, List.map_nil]
      exact rfl
    · rw [iteF hc26] at hF25
      simp only [run_skip, run_nil, put_at, put_no, ev_t, ev_c, reduceIte, Nat.reduceEqDiff, List.map_cons, List.map_nil]
      have e30 := some_inj hF25
      exact hN10 _ _ _ e30.symm ⟨by simp only [f18, put_at, put_no, ev_t, ev_c, reduceIte, Nat.reduceEqDiff, List.map_cons, List.map_nil], by simp only [f19, put_at, put_no, ev_t,
          ev_c, reduceIte, Nat.reduceEqDiff, List.map_cons, List.map_nil], hS17⟩ (by simp only [f21, put_at, put_no, ev_t, ev_c, reduceIte, Nat.reduceEqDiff, List.map_cons,
          List.map_nil]) (by simp only [f22, put_at, put_no, ev_t, ev_c, reduceIte, Nat.reduceEqDiff, List.map_cons, List.map_nil])
  · rintro _ fr32 h33 rfl ⟨f35, f36, hS34⟩
    dsimp only [jnO] at hk6
    unfold slices_IndexFunc_Call_j1 at hk6
    simp only [run_seq, run_reg, run_mv, run_ops_nil, run_ret, put_at, put_no, ev_t, ev_c, reduceIte, Nat.reduceEqDiff, List.map_cons, List.map_nil]
    have he := some_inj hk6
    subst he
    simp only [end_ret1, put_at, put_no, ev_t, ev_c, reduceIte, Nat.reduceEqDiff, List.map_cons, List.map_nil]
    exact rfl
theorem slices_DeleteFunc_Call_x {W : Nat → Bool} {h : Heap} {lo : Nat} {S0 : List Obj} (hW : ∀ b,
    lo ≤ b → W b = true) (k : Nat) (pv0 : XV) (pc0 : List Obj) (s_0 : List Call) (ph0 : SlF Call.cells 6 55 pv0 s_0 pc0) {g1 : Nat} {caps1 : List XV} (hm1 : E.mode g1 = 1)
    (del_1 : Call → Option Bool) (hf1 : ∀ (W : Nat → Bool) (h : Heap), (∀ b, h.length ≤ b → W b = true) → ∀ a0 r, del_1 a0 = some r → Ret E W g1 ([.agg [.int .i64 a0.Client,
    .int .i64 a0.Object, .bool a0.Write, .int .i64 a0.Value, .int .i64 a0.Begin,
    .int .i64 a0.End]] ++ caps1) h (fun v h' => cut h.length h' E.sz false 9 v = some (.bool r))) (r : List Call) (hF : slices_DeleteFunc_Call k s_0 del_1 = some r)
    (hS : Sep h lo (pc0 ++ (S0))) : Ret E W 45 [pv0, .fn g1 caps1] h (fun v h' => ∃ rv0 rc0, v = rv0 ∧ SlF Call.cells 6 55 rv0 r rc0 ∧ Sep h' lo (rc0 ++ (S0))) := by
  refine Ret.of (fn := x45) rfl (Run.of ?_)
  unfold slices_DeleteFunc_Call at hF
  have zf0 : argFr [pv0, .fn g1 caps1] 0 = pv0 := rfl
  have zf1 : argFr [pv0, .fn g1 caps1] 1 = .fn g1 caps1 := rfl
  generalize argFr [pv0, .fn g1 caps1] = fr0 at zf0 zf1 ⊢
  obtain ⟨v1, hx2, hF3⟩ := bind_some' hF
  simp only [x45, run_seq, run_reg, run_mv, run_ops_nil, x45_14, zf0, zf1, run_call, put_at, put_no, ev_t, ev_c, reduceIte, Nat.reduceEqDiff, List.map_cons, List.map_nil]
  refine call1 rfl (mapM1 (SlF.snap ph0 hS rfl (fun _ => rfl) (fun _ => rfl)) (mapM1 snap_fn mapM0)) (slices_IndexFunc_Call_x (fun b hb => decide_eq_true hb) s_0 (g1 := g1)
      (caps1 := caps1) hm1 del_1 hf1 v1 hx2) ?_
  simp only [run_mv, run_ops_nil, x45_13, run_seq, run_reg, run_bin, put1_some, xeql, x45_1, run_cond, put_at, put_no, ev_t, ev_c, reduceIte, Nat.reduceEqDiff, List.map_cons,
      List.map_nil]
  refine cond_split (t := (decide (v1 = (-1)))) (fun hc4 => ?_) (fun hc4 => ?_)
  · rw [iteT hc4] at hF3
    simp only [run_seq, run_reg, zf0, run_mv, run_ops_nil, run_ret, put_at, put_no, ev_t, ev_c, reduceIte, Nat.reduceEqDiff, List.map_cons, List.map_nil]
    have he := some_inj hF3
    subst he
    simp only [end_ret1, put_at, put_no, ev_t, ev_c, reduceIte, Nat.reduceEqDiff, List.map_cons, List.map_nil]
    exact ⟨pv0, pc0, by first | trivial | rfl, ph0, hS⟩
  · rw [iteF hc4] at hF3
    simp only [run_skip, x45_12, run_seq, run_reg, run_mv, run_bin, put1_some, xadd, run_ops_nil, put_at, put_no, ev_t, ev_c, reduceIte, Nat.reduceEqDiff, List.map_cons,
        List.map_nil]
    obtain ⟨oc17, hX19, hk20⟩ := jn_some hF3
    simp only [x45_9]
    refine loopF_j (σ := Int × Int × (List Call)) (fun s66 => slices_DeleteFunc_Call_b1 del_1 s66.1 s66.2.1 s66.2.2) (fun s fr' h' => ∃ c13,
        fr' 0 = pv0 ∧ fr' 1 = .fn g1 caps1 ∧ fr' 5 = .int .i64 s.1 ∧ fr' 6 = .int .i64 s.2.1 ∧ SlF Call.cells 6 55 pv0 s.2.2 c13 ∧ Sep h' lo (c13 ++ (S0))) hX19 ⟨pc0,
        by simp only [zf0, put_at, put_no, ev_t, ev_c, reduceIte, Nat.reduceEqDiff, List.map_cons, List.map_nil], by simp only [zf1, put_at, put_no, ev_t, ev_c, reduceIte,
        Nat.reduceEqDiff, List.map_cons, List.map_nil], by simp only [put_at, put_no, ev_t, ev_c, reduceIte, Nat.reduceEqDiff, List.map_cons, List.map_nil], by simp only [put_at,
        put_no, ev_t, ev_c, reduceIte, Nat.reduceEqDiff, List.map_cons, List.map_nil], ph0, hS⟩ (fun _ _ _ h => h) ?_ ?_
    · rintro ⟨s10, s11, s12⟩ fr29 h30 ⟨c13, f32, f33, f34, f35, hv14, hS31⟩ oc18 hF21 hr22 Q23 hN24 hK25 hR26 hE27
      dsimp only at *
      unfold slices_DeleteFunc_Call_b1 at hF21
      simp only [x45_7, run_seq, run_reg, f35, run_mv, f32, run_len, put1_some, SlF.plen hv14, run_bin, xlss, run_ops_nil, run_cond, put_at, put_no, ev_t, ev_c, reduceIte,
          Nat.reduceEqDiff, List.map_cons, List.map_nil]
      refine cond_split (t := (decide (s11 < (List.length s12 : Int)))) (fun hc37 => ?_) (fun hc37 => ?_)
      · rw [iteT hc37] at hF21
        obtain ⟨x38, hx39, hF40⟩ := bind_some' hF21
        simp only [run_skip, x45_6, run_seq, run_block, x45_5, run_reg, f32, run_mv, f35, run_ia, put_at, put_no, ev_t, ev_c, reduceIte, Nat.reduceEqDiff, List.map_cons,
            List.map_nil]
        obtain ⟨b41, hb42⟩ := SlF.isrow hv14 (geti_ne hx39)
        refine put1_eq (SlF.ia hv14 hb42 hx39) ?_
        simp only [run_ld, put_at, put_no, ev_t, ev_c, reduceIte, Nat.reduceEqDiff, List.map_cons, List.map_nil]
        refine put1_eq (v := .agg [.int .i64 x38.Client, .int .i64 x38.Object, .bool x38.Write, .int .i64 x38.Value, .int .i64 x38.Begin,
            .int .i64 x38.End]) ((SlF.lds (o := 0) hv14 hS31 hb42 hx39 (fun _ => rfl) (Nat.le_of_ble_eq_true rfl)).trans rfl) ?_
        simp only [run_new, put_at, put_no, ev_t, ev_c, reduceIte, Nat.reduceEqDiff, List.map_cons, List.map_nil]
        refine put2_newC hS31 (fun b43 h44 hS45 => ?_)
        simp only [run_st, put_at, put_no, ev_t, ev_c, reduceIte, Nat.reduceEqDiff, List.map_cons, List.map_nil]
        refine put2_stC (cs' := [.int .i64 x38.Client, .int .i64 x38.Object, .bool x38.Write, .int .i64 x38.Value, .int .i64 x38.Begin,
            .int .i64 x38.End]) hS45 hW rfl rfl (Nat.le_of_ble_eq_true rfl) rfl (fun h47 hS48 => ?_)
        simp only [put_no, run_ops_nil, put_at, ev_t, ev_c, reduceIte, Nat.reduceEqDiff, List.map_cons, List.map_nil]
        refine frz_stepC hS48 hW (by simp only [put_at, put_no, ev_t, ev_c, reduceIte, Nat.reduceEqDiff, List.map_cons, List.map_nil]) (fun h49 hS50 => ?_)
        simp only [run_frz_nil, x45_4, run_seq, run_reg, f33, run_mv, run_ld, put_at, put_no, ev_t, ev_c, reduceIte, Nat.reduceEqDiff, List.map_cons, List.map_nil]
        refine put1_eq (v := .agg [.int .i64 x38.Client, .int .i64 x38.Object, .bool x38.Write, .int .i64 x38.Value, .int .i64 x38.Begin, .int .i64 x38.End]) rfl ?_
        obtain ⟨v51, hx52, hF53⟩ := bind_some' hF40
        simp only [run_call, put_at, put_no, ev_t, ev_c, reduceIte, Nat.reduceEqDiff, List.map_cons, List.map_nil]
        refine call1 hm1 (mapM1 (snap_agg (mapM1 snap_int (mapM1 snap_int (mapM1 snap_bool (mapM1 snap_int (mapM1 snap_int (mapM1 snap_int mapM0))))))) mapM0) (hf1 _ _
            (fun b hb => decide_eq_true hb) x38 v51 hx52) ?_
        simp only [run_un, put1_some, xnot, run_ops_nil, x45_3, run_cond, put_at, put_no, ev_t, ev_c, reduceIte, Nat.reduceEqDiff, List.map_cons, List.map_nil]
        refine cond_split (t := (!v51)) (fun hc54 => ?_) (fun hc54 => ?_)
        · rw [iteT hc54] at hF53
          simp only [x45_2, run_seq, run_reg, f32, run_mv, f34, run_ld, put_at, put_no, ev_t, ev_c, reduceIte, Nat.reduceEqDiff, List.map_cons, List.map_nil]
          refine put1_eq (v := .agg [.int .i64 x38.Client, .int .i64 x38.Object, .bool x38.Write, .int .i64 x38.Value, .int .i64 x38.Begin, .int .i64 x38.End]) rfl ?_
          obtain ⟨x55, hx56, hF57⟩ := bind_some' hF53
          simp only [run_ia, put_at, put_no, ev_t, ev_c, reduceIte, Nat.reduceEqDiff, List.map_cons, List.map_nil]
          refine put1_eq (SlF.ia hv14 hb42 hx56) ?_
          simp only [run_st, put_at, put_no, ev_t, ev_c, reduceIte, Nat.reduceEqDiff, List.map_cons, List.map_nil]
          refine put2_stF (f := Call.cells) (x' := x38) (o := 0) hv14 hS50 hW hb42 hx56 (fun _ => rfl) rfl rfl (Nat.le_of_ble_eq_true rfl) rfl (fun c60 h58 hv61 hS59 => ?_)
          have hx62 := geti_set (x' := x38) hx56
          simp only [put_no, run_ops_nil, run_reg, f34, run_mv, run_bin, put1_some, xadd, run_blk, f35, run_nil, put_at, ev_t, ev_c, reduceIte, Nat.reduceEqDiff, List.map_cons,
              List.map_nil]
          have e63 := some_inj hF57
          exact hN24 _ _ _ e63.symm ⟨c60, by simp only [f32, put_at, put_no, ev_t, ev_c, reduceIte, Nat.reduceEqDiff, List.map_cons, List.map_nil], by simp only [f33, put_at,
              put_no, ev_t, ev_c, reduceIte, Nat.reduceEqDiff, List.map_cons, List.map_nil], by simp only [put_at, put_no, ev_t, ev_c, reduceIte, Nat.reduceEqDiff, List.map_cons,
              List.map_nil], by simp only [put_at, put_no, ev_t, ev_c, reduceIte, Nat.reduceEqDiff, List.map_cons, List.map_nil], hv61, hS59⟩
        · rw [iteF hc54] at hF53
          simp only [run_skip, run_blk, run_reg, f35, run_mv, run_bin, put1_some, xadd, run_ops_nil, run_nil, put_at, put_no, ev_t, ev_c, reduceIte, Nat.reduceEqDiff,
              List.map_cons, List.map_nil]
          have e64 := some_inj hF53
          exact hN24 _ _ _ e64.symm ⟨c13, by simp only [f32, put_at, put_no, ev_t, ev_c, reduceIte, Nat.reduceEqDiff, List.map_cons, List.map_nil], by simp only [f33, put_at,
              put_no, ev_t, ev_c, reduceIte, Nat.reduceEqDiff, List.map_cons, List.map_nil], by simp only [f34, put_at, put_no, ev_t, ev_c, reduceIte, Nat.reduceEqDiff,
              List.map_cons, List.map_nil], by simp only [put_at, put_no, ev_t, ev_c, reduceIte, Nat.reduceEqDiff, List.map_cons, List.map_nil], hv14, hS50⟩
      · rw [iteF hc37] at hF21
        simp only [run_exit, out_code, out_nil, put_at, put_no, ev_t, ev_c, reduceIte, Nat.reduceEqDiff, List.map_cons, List.map_nil]
        have e65 := some_inj hF21
        exact hK25 _ _ _ e65.symm ⟨c13, by simp only [f32, put_at, put_no, ev_t, ev_c, reduceIte, Nat.reduceEqDiff, List.map_cons, List.map_nil], by simp only [f33, put_at,
            put_no, ev_t, ev_c, reduceIte, Nat.reduceEqDiff, List.map_cons, List.map_nil], by simp only [f34, put_at, put_no, ev_t, ev_c, reduceIte, Nat.reduceEqDiff,
            List.map_cons, List.map_nil], by simp only [f35, put_at, put_no, ev_t, ev_c, reduceIte, Nat.reduceEqDiff, List.map_cons, List.map_nil], hv14, hS31⟩
    · rintro ⟨s67, s68, s69⟩ fr72 h73 rfl ⟨c70, f75, f76, f77, f78, hv71, hS74⟩
      dsimp only [jnO] at hk20
      dsimp only at *
      unfold slices_DeleteFunc_Call_j1 at hk20
      obtain ⟨l79, hx80, hF81⟩ := bind_some' hk20
      simp only [x45_11, run_seq, run_reg, f75, run_mv, f77, run_slc, Option.map_some, Option.map_none, put_at, put_no, ev_t, ev_c, reduceIte, Nat.reduceEqDiff, List.map_cons,
          List.map_nil]
      obtain ⟨w82, hu83⟩ := SlF.slc (ty := 55) (n1 := 6) (f1 := Call.cells) hv71 (clrF_some hx80) hS74
      refine put1_eq hu83 ?_
      simp only [run_clr, put_at, put_no, ev_t, ev_c, reduceIte, Nat.reduceEqDiff, List.map_cons, List.map_nil]
      refine put2_clrF (f1 := Call.cells) (z := (Call.mk (0 : Int) (0 : Int) false (0 : Int) (0 : Int) (0 : Int))) hv71 hu83 hx80 (fun _ => rfl) rfl hS74 hW
          (fun c84 h85 hv86 hS87 => ?_)
      obtain ⟨l88, hx89, hF90⟩ := bind_some' hF81
      simp only [put_no, run_ops_nil, x45_10, run_seq, run_reg, f75, run_mv, f77, run_slc, Option.map_some, Option.map_none, put_at, ev_t, ev_c, reduceIte, Nat.reduceEqDiff,
          List.map_cons, List.map_nil]
      obtain ⟨v91, he92, hv93⟩ := SlF.trunc (f1 := Call.cells) hv86 hx89 (fun _ => rfl) hS87
      refine put1_eq he92 ?_
      simp only [run_mv, run_ops_nil, run_ret, put_at, put_no, ev_t, ev_c, reduceIte, Nat.reduceEqDiff, List.map_cons, List.map_nil]
      have he := some_inj hF90
      subst he
      simp only [end_ret1, put_at, put_no, ev_t, ev_c, reduceIte, Nat.reduceEqDiff, List.map_cons, List.map_nil]
      exact ⟨v91, c84, by first | trivial | rfl, hv93, hS87⟩
theorem impl_OnObject_1_x {W : Nat → Bool} {h : Heap} (hW : ∀ b,
    h.length ≤ b → W b = true) (c_0 : Call) (cap_0 : Int) (r : Bool) (hF : some (impl_OnObject_1 c_0 cap_0) = some r) : Ret E W 46 [.agg [.int .i64 c_0.Client,
    .int .i64 c_0.Object, .bool c_0.Write, .int .i64 c_0.Value, .int .i64 c_0.Begin, .int .i64 c_0.End],
    .ref (cI cap_0) 0] h (fun v h' => cut h.length h' E.sz false 9 v = some (.bool r)) := by
  refine Ret.of (fn := x46) rfl (Run.of ?_)
  unfold impl_OnObject_1 at hF
  have zf0 : argFr [.agg [.int .i64 c_0.Client, .int .i64 c_0.Object, .bool c_0.Write, .int .i64 c_0.Value, .int .i64 c_0.Begin, .int .i64 c_0.End],
      .ref (cI cap_0) 0] 0 = .agg [.int .i64 c_0.Client, .int .i64 c_0.Object, .bool c_0.Write, .int .i64 c_0.Value, .int .i64 c_0.Begin, .int .i64 c_0.End] := rfl
  have zf1 : argFr [.agg [.int .i64 c_0.Client, .int .i64 c_0.Object, .bool c_0.Write, .int .i64 c_0.Value, .int .i64 c_0.Begin, .int .i64 c_0.End],
      .ref (cI cap_0) 0] 1 = .ref (cI cap_0) 0 := rfl
  generalize argFr [.agg [.int .i64 c_0.Client, .int .i64 c_0.Object, .bool c_0.Write, .int .i64 c_0.Value, .int .i64 c_0.Begin, .int .i64 c_0.End],
      .ref (cI cap_0) 0] = fr0 at zf0 zf1 ⊢
  have hS : Sep h h.length [] := Sep.nil h
  simp only [x46, run_seq, run_reg, run_box, zf0, put_at, put_no, ev_t, ev_c, reduceIte, Nat.reduceEqDiff, List.map_cons, List.map_nil]
  refine put2_boxC (cs := [.int .i64 c_0.Client, .int .i64 c_0.Object, .bool c_0.Write, .int .i64 c_0.Value, .int .i64 c_0.Begin,
      .int .i64 c_0.End]) hS rfl rfl rfl (fun b1 h2 hS3 => ?_)
  simp only [run_mv, run_ops_nil, put_at, put_no, ev_t, ev_c, reduceIte, Nat.reduceEqDiff, List.map_cons, List.map_nil]
  refine frz_stepC hS3 hW (by simp only [put_at, put_no, ev_t, ev_c, reduceIte, Nat.reduceEqDiff, List.map_cons, List.map_nil]) (fun h5 hS6 => ?_)
  simp only [run_frz_nil, x46_1, run_seq, run_reg, run_fa, put1_some, Nat.reduceAdd, Nat.zero_add, Nat.add_zero, xfa_ref, run_ld, put_at, put_no, ev_t, ev_c, reduceIte,
      Nat.reduceEqDiff, List.map_cons, List.map_nil]
  refine put1_eq (v := .int .i64 c_0.Object) rfl ?_
  simp only [zf1, run_ld, put_at, put_no, ev_t, ev_c, reduceIte, Nat.reduceEqDiff, List.map_cons, List.map_nil]
  refine put1_eq (v := .int .i64 cap_0) rfl ?_
  simp only [run_bin, put1_some, xneq, run_mv, run_ops_nil, run_ret, put_at, put_no, ev_t, ev_c, reduceIte, Nat.reduceEqDiff, List.map_cons, List.map_nil]
  have he := some_inj hF
  subst he
  simp only [end_ret1, put_at, put_no, ev_t, ev_c, reduceIte, Nat.reduceEqDiff, List.map_cons, List.map_nil]
  exact rfl
theorem impl_OnObject_x {W : Nat → Bool} {h : Heap} (hW : ∀ b,
    h.length ≤ b → W b = true) (k : Nat) (l_0 : List Call) (object_1 : Int) (r : (List Call) × Bool) (hF : impl_OnObject k l_0 object_1 = some r) : Ret E W 14 [lst Call.cells l_0,
    .int .i64 object_1] h (fun v h' => ∃ rv0 rc0, v = .tup [rv0, .bool r.2] ∧ SlF Call.cells 6 55 rv0 r.1 rc0 ∧ Sep h' h.length (rc0 ++ ([]))) := by
  refine Ret.of (fn := x14) rfl (Run.of ?_)
  unfold impl_OnObject at hF
  have zf0 : argFr [lst Call.cells l_0, .int .i64 object_1] 0 = lst Call.cells l_0 := rfl
  have zf1 : argFr [lst Call.cells l_0, .int .i64 object_1] 1 = .int .i64 object_1 := rfl
  generalize argFr [lst Call.cells l_0, .int .i64 object_1] = fr0 at zf0 zf1 ⊢
  have hS : Sep h h.length [] := Sep.nil h
  simp only [x14, run_seq, run_reg, run_box, zf1, put_at, put_no, ev_t, ev_c, reduceIte, Nat.reduceEqDiff, List.map_cons, List.map_nil]
  refine put2_boxC (cs := [.int .i64 object_1]) hS rfl rfl rfl (fun b1 h2 hS3 => ?_)
  simp only [run_mv, run_ops_nil, put_at, put_no, ev_t, ev_c, reduceIte, Nat.reduceEqDiff, List.map_cons, List.map_nil]
  refine frz_stepC hS3 hW (by simp only [put_at, put_no, ev_t, ev_c, reduceIte, Nat.reduceEqDiff, List.map_cons, List.map_nil]) (fun h5 hS6 => ?_)
  obtain ⟨v7, hx8, hF9⟩ := bind_some' hF
  simp only [run_frz_nil, x14_3, run_seq, run_reg, zf0, run_mv, run_call, put_at, put_no, ev_t, ev_c, reduceIte, Nat.reduceEqDiff, List.map_cons, List.map_nil]
  refine call1 rfl (mapM1 snap_lst mapM0) (impl_areCalls_x (fun b hb => decide_eq_true hb) l_0 v7 hx8) ?_
  simp only [run_un, put1_some, xnot, run_mv, put_at, put_no, ev_t, ev_c, reduceIte, Nat.reduceEqDiff, List.map_cons, List.map_nil]
  refine ops_j 4 (fun fr' h' => Sep h' h.length ([]) ∧ fr' 13 = .bool ((!v7) || (!(impl_in object_1 0 2))) ∧ fr' 0 = lst Call.cells l_0 ∧ fr' 3 = .ref [.int .i64 object_1] 0)
      (fun Q10 hN11 => ?_) ?_
  · simp only [List.take_succ_cons, List.take_zero]
    simp only [run_guard (g := 9), put_at, put_no, ev_t, ev_c, reduceIte, Nat.reduceEqDiff, List.map_cons, List.map_nil]
    refine guard_split (t := (!v7)) (fun hg12 => ?_) (fun hg12 => ?_)
    · simp only [hg12, run_guard (g := 9), guard_off', run_pick, put1_some, xpick_t, run_ops_nil, run_nil, put_at, put_no, ev_t, ev_c, reduceIte, Nat.reduceEqDiff, List.map_cons,
        List.map_nil]
      exact hN11 _ _ ⟨hS6, by rw [orT hg12]; simp only [put_at, put_no, ev_t, ev_c, reduceIte, Nat.reduceEqDiff, List.map_cons, List.map_nil], by simp only [zf0, put_at, put_no,
          ev_t, ev_c, reduceIte, Nat.reduceEqDiff, List.map_cons, List.map_nil], by simp only [put_at, put_no, ev_t, ev_c, reduceIte, Nat.reduceEqDiff, List.map_cons,
          List.map_nil]⟩
    · simp only [hg12, run_guard (g := 9), guard_false, run_ld, put_at, put_no, ev_t, ev_c, reduceIte, Nat.reduceEqDiff, List.map_cons, List.map_nil]
      refine put1_eq (v := .int .i64 object_1) rfl ?_
      simp only [hg12, run_guard (g := 9), guard_false, run_call, put_at, put_no, ev_t, ev_c, reduceIte, Nat.reduceEqDiff, List.map_cons, List.map_nil]
      refine call1 rfl (mapM1 snap_int (mapM1 snap_int (mapM1 snap_int mapM0))) (impl_in_x (fun b hb => decide_eq_true hb) object_1 0 2 _ rfl) ?_
      simp only [hg12, run_guard (g := 9), guard_false, run_un, put1_some, xnot, run_pick, xpick_f, run_ops_nil, run_nil, put_at, put_no, ev_t, ev_c, reduceIte, Nat.reduceEqDiff,
          List.map_cons, List.map_nil]
      exact hN11 _ _ ⟨hS6, by rw [orF hg12]; simp only [put_at, put_no, ev_t, ev_c, reduceIte, Nat.reduceEqDiff, List.map_cons, List.map_nil], by simp only [zf0, put_at, put_no,
          ev_t, ev_c, reduceIte, Nat.reduceEqDiff, List.map_cons, List.map_nil], by simp only [put_at, put_no, ev_t, ev_c, reduceIte, Nat.reduceEqDiff, List.map_cons,
          List.map_nil]⟩
  · rintro fr13 h17 ⟨hS18, f14, f15, f16⟩
    simp only [List.drop_succ_cons, List.drop_zero]
    simp only [run_ops_nil, x14_1, f14, run_cond, put_at, put_no, ev_t, ev_c, reduceIte, Nat.reduceEqDiff, List.map_cons, List.map_nil]
    refine cond_split (t := ((!v7) || (!(impl_in object_1 0 2)))) (fun hc19 => ?_) (fun hc19 => ?_)
    · rw [iteT hc19] at hF9
      simp only [run_seq, run_reg, run_mv, run_ops_nil, run_ret, put_at, put_no, ev_t, ev_c, reduceIte, Nat.reduceEqDiff, List.map_cons, List.map_nil]
      have he := some_inj hF9
      subst he
      simp only [end_ret2, put_at, put_no, ev_t, ev_c, reduceIte, Nat.reduceEqDiff, List.map_cons, List.map_nil]
      exact ⟨.nil, [], by first | trivial | rfl, SlF.nil, hS18⟩
    · rw [iteF hc19] at hF9
      simp only [run_skip, x14_2, run_seq, run_reg, run_buildS, evp, put_at, put_no, ev_t, ev_c, reduceIte, Nat.reduceEqDiff, List.map_cons, List.map_nil]
      refine put2_buildSF (n := 6) (f := Call.cells) ([] : List Call) hS18 rfl rfl (fun v20 c21 h22 hv23 hS24 => ?_)
      simp only [f15, run_mv, run_app, put_at, put_no, ev_t, ev_c, reduceIte, Nat.reduceEqDiff, List.map_cons, List.map_nil]
      obtain ⟨l26, hx27, hF28⟩ := bind_some' hF9
      refine put2_appF (f := Call.cells) hv23 hS24 hW (fun _ => rfl) (fun _ => rfl) (firstOf_lst (fun _ => rfl)) hx27 (fun v29 c30 h31 hv32 hS33 => ?_)
      obtain ⟨v35, hx36, hF37⟩ := bind_some' hF28
      simp only [run_mkF, f16, run_call, put_at, put_no, ev_t, ev_c, reduceIte, Nat.reduceEqDiff, List.map_cons, List.map_nil]
      refine call0 rfl (slices_DeleteFunc_Call_x hW k v29 c30 l26 hv32 (g1 := 46) (caps1 := [.ref [.int .i64 object_1] 0]) rfl (fun a0 => some (impl_OnObject_1 a0 object_1))
          (fun W h hW a0 r hr => impl_OnObject_1_x hW a0 object_1 r hr) v35 hx36 hS33) ?_
      rintro v38 h42 ⟨_, c39, rfl, hv40, hS43⟩
      simp only [run_mv, run_ops_nil, run_ret, put_at, put_no, ev_t, ev_c, reduceIte, Nat.reduceEqDiff, List.map_cons, List.map_nil]
      have he := some_inj hF37
      subst he
      simp only [end_ret2, put_at, put_no, ev_t, ev_c, reduceIte, Nat.reduceEqDiff, List.map_cons, List.map_nil]
      exact ⟨v38, c39, by first | trivial | rfl, hv40, hS43⟩
theorem laws_eqCall_x {W : Nat → Bool} {h : Heap} (hW : ∀ b,
    h.length ≤ b → W b = true) (a_0 : Call) (b_1 : Call) (r : Bool) (hF : laws_eqCall a_0 b_1 = some r) : Ret E W 47 [.agg [.int .i64 a_0.Client, .int .i64 a_0.Object,
    .bool a_0.Write, .int .i64 a_0.Value, .int .i64 a_0.Begin, .int .i64 a_0.End], .agg [.int .i64 b_1.Client, .int .i64 b_1.Object, .bool b_1.Write, .int .i64 b_1.Value,
    .int .i64 b_1.Begin, .int .i64 b_1.End]] h (fun v h' => cut h.length h' E.sz false 9 v = some (.bool r)) := by
  refine Ret.of (fn := x47) rfl (Run.of ?_)
  unfold laws_eqCall at hF
  have zf0 : argFr [.agg [.int .i64 a_0.Client, .int .i64 a_0.Object, .bool a_0.Write, .int .i64 a_0.Value, .int .i64 a_0.Begin, .int .i64 a_0.End], .agg [.int .i64 b_1.Client,
      .int .i64 b_1.Object, .bool b_1.Write, .int .i64 b_1.Value, .int .i64 b_1.Begin, .int .i64 b_1.End]] 0 = .agg [.int .i64 a_0.Client, .int .i64 a_0.Object, .bool a_0.Write,
      .int .i64 a_0.Value, .int .i64 a_0.Begin, .int .i64 a_0.End] := rfl
  have zf1 : argFr [.agg [.int .i64 a_0.Client, .int .i64 a_0.Object, .bool a_0.Write, .int .i64 a_0.Value, .int .i64 a_0.Begin, .int .i64 a_0.End], .agg [.int .i64 b_1.Client,
      .int .i64 b_1.Object, .bool b_1.Write, .int .i64 b_1.Value, .int .i64 b_1.Begin, .int .i64 b_1.End]] 1 = .agg [.int .i64 b_1.Client, .int .i64 b_1.Object, .bool b_1.Write,
      .int .i64 b_1.Value, .int .i64 b_1.Begin, .int .i64 b_1.End] := rfl
  generalize argFr [.agg [.int .i64 a_0.Client, .int .i64 a_0.Object, .bool a_0.Write, .int .i64 a_0.Value, .int .i64 a_0.Begin, .int .i64 a_0.End], .agg [.int .i64 b_1.Client,
      .int .i64 b_1.Object, .bool b_1.Write, .int .i64 b_1.Value, .int .i64 b_1.Begin, .int .i64 b_1.End]] = fr0 at zf0 zf1 ⊢
  have hS : Sep h h.length [] := Sep.nil h
  simp only [x47, run_seq, run_reg, run_box, zf0, put_at, put_no, ev_t, ev_c, reduceIte, Nat.reduceEqDiff, List.map_cons, List.map_nil]
  refine put2_boxC (cs := [.int .i64 a_0.Client, .int .i64 a_0.Object, .bool a_0.Write, .int .i64 a_0.Value, .int .i64 a_0.Begin,
      .int .i64 a_0.End]) hS rfl rfl rfl (fun b1 h2 hS3 => ?_)
  simp only [run_box, zf1, put_at, put_no, ev_t, ev_c, reduceIte, Nat.reduceEqDiff, List.map_cons, List.map_nil]
  refine put2_boxC (cs := [.int .i64 b_1.Client, .int .i64 b_1.Object, .bool b_1.Write, .int .i64 b_1.Value, .int .i64 b_1.Begin,
      .int .i64 b_1.End]) hS3 rfl rfl rfl (fun b5 h6 hS7 => ?_)
  simp only [run_mv, run_ops_nil, put_at, put_no, ev_t, ev_c, reduceIte, Nat.reduceEqDiff, List.map_cons, List.map_nil]
  refine frz_stepC (Sep.m1 hS7) hW (by simp only [put_at, put_no, ev_t, ev_c, reduceIte, Nat.reduceEqDiff, List.map_cons, List.map_nil]) (fun h9 hS10 => ?_)
  refine frz_stepC hS10 hW (by simp only [put_at, put_no, ev_t, ev_c, reduceIte, Nat.reduceEqDiff, List.map_cons, List.map_nil]) (fun h11 hS12 => ?_)
  simp only [run_frz_nil, x47_6, run_seq, run_reg, run_fa, put1_some, Nat.reduceAdd, Nat.zero_add, Nat.add_zero, xfa_ref, run_ld, put_at, put_no, ev_t, ev_c, reduceIte,
      Nat.reduceEqDiff, List.map_cons, List.map_nil]
  refine put1_eq (v := .int .i64 a_0.Client) rfl ?_
  simp only [run_fa, put1_some, Nat.reduceAdd, Nat.zero_add, Nat.add_zero, xfa_ref, run_ld, put_at, put_no, ev_t, ev_c, reduceIte, Nat.reduceEqDiff, List.map_cons, List.map_nil]
  refine put1_eq (v := .int .i64 b_1.Client) rfl ?_
  simp only [run_bin, put1_some, xneq, run_ops_nil, run_cond, put_at, put_no, ev_t, ev_c, reduceIte, Nat.reduceEqDiff, List.map_cons, List.map_nil]
  refine cond_split (t := (decide (a_0.Client ≠ b_1.Client))) (fun hc13 => ?_) (fun hc13 => ?_)
  · rw [iteT hc13] at hF
    simp only [run_seq, run_reg, run_mv, run_ops_nil, run_ret, put_at, put_no, ev_t, ev_c, reduceIte, Nat.reduceEqDiff, List.map_cons, List.map_nil]
    have he := some_inj hF
    subst he
    simp only [end_ret1, put_at, put_no, ev_t, ev_c, reduceIte, Nat.reduceEqDiff, List.map_cons, List.map_nil]
    exact rfl
  · rw [iteF hc13] at hF
    simp only [run_skip, x47_5, run_seq, run_reg, run_fa, put1_some, Nat.reduceAdd, Nat.zero_add, Nat.add_zero, xfa_ref, run_ld, put_at, put_no, ev_t, ev_c, reduceIte,
        Nat.reduceEqDiff, List.map_cons, List.map_nil]
    refine put1_eq (v := .int .i64 a_0.Object) rfl ?_
    simp only [run_fa, put1_some, Nat.reduceAdd, Nat.zero_add, Nat.add_zero, xfa_ref, run_ld, put_at, put_no, ev_t, ev_c, reduceIte, Nat.reduceEqDiff, List.map_cons, List.map_nil]
    refine put1_eq (v := .int .i64 b_1.Object) rfl ?_
    simp only [run_bin, put1_some, xneq, run_ops_nil, run_cond, put_at, put_no, ev_t, ev_c, reduceIte, Nat.reduceEqDiff, List.map_cons, List.map_nil]
    refine cond_split (t := (decide (a_0.Object ≠ b_1.Object))) (fun hc14 => ?_) (fun hc14 => ?_)
    · rw [iteT hc14] at hF
      simp only [run_seq, run_reg, run_mv, run_ops_nil, run_ret, put_at, put_no, ev_t, ev_c, reduceIte, Nat.reduceEqDiff, List.map_cons, List.map_nil]
      have he := some_inj hF
      subst he
      simp only [end_ret1, put_at, put_no, ev_t, ev_c, reduceIte, Nat.reduceEqDiff, List.map_cons, List.map_nil]
      exact rfl
    · rw [iteF hc14] at hF
      simp only [run_skip, x47_4, run_seq, run_reg, run_fa, put1_some, Nat.reduceAdd, Nat.zero_add, Nat.add_zero, xfa_ref, run_ld, put_at, put_no, ev_t, ev_c, reduceIte,
          Nat.reduceEqDiff, List.map_cons, List.map_nil]
      refine put1_eq (v := .bool a_0.Write) rfl ?_
      simp only [run_fa, put1_some, Nat.reduceAdd, Nat.zero_add, Nat.add_zero, xfa_ref, run_ld, put_at, put_no, ev_t, ev_c, reduceIte, Nat.reduceEqDiff, List.map_cons,
          List.map_nil]
      refine put1_eq (v := .bool b_1.Write) rfl ?_
      simp only [run_eqb, put1_some, xeqb_t, run_ops_nil, run_cond, put_at, put_no, ev_t, ev_c, reduceIte, Nat.reduceEqDiff, List.map_cons, List.map_nil]
      refine cond_split (t := (!(a_0.Write == b_1.Write))) (fun hc15 => ?_) (fun hc15 => ?_)
      · rw [iteT hc15] at hF
        simp only [run_seq, run_reg, run_mv, run_ops_nil, run_ret, put_at, put_no, ev_t, ev_c, reduceIte, Nat.reduceEqDiff, List.map_cons, List.map_nil]
        have he := some_inj hF
        subst he
        simp only [end_ret1, put_at, put_no, ev_t, ev_c, reduceIte, Nat.reduceEqDiff, List.map_cons, List.map_nil]
        exact rfl
      · rw [iteF hc15] at hF
        simp only [run_skip, x47_3, run_seq, run_reg, run_fa, put1_some, Nat.reduceAdd, Nat.zero_add, Nat.add_zero, xfa_ref, run_ld, put_at, put_no, ev_t, ev_c, reduceIte,
            Nat.reduceEqDiff, List.map_cons, List.map_nil]
        refine put1_eq (v := .int .i64 a_0.Value) rfl ?_
        simp only [run_fa, put1_some, Nat.reduceAdd, Nat.zero_add, Nat.add_zero, xfa_ref, run_ld, put_at, put_no, ev_t, ev_c, reduceIte, Nat.reduceEqDiff, List.map_cons,
            List.map_nil]
        refine put1_eq (v := .int .i64 b_1.Value) rfl ?_
        simp only [run_bin, put1_some, xneq, run_ops_nil, run_cond, put_at, put_no, ev_t, ev_c, reduceIte, Nat.reduceEqDiff, List.map_cons, List.map_nil]
        refine cond_split (t := (decide (a_0.Value ≠ b_1.Value))) (fun hc16 => ?_) (fun hc16 => ?_)
        · rw [iteT hc16] at hF
          simp only [run_seq, run_reg, run_mv, run_ops_nil, run_ret, put_at, put_no, ev_t, ev_c, reduceIte, Nat.reduceEqDiff, List.map_cons, List.map_nil]
          have he := some_inj hF
          subst he
          simp only [end_ret1, put_at, put_no, ev_t, ev_c, reduceIte, Nat.reduceEqDiff, List.map_cons, List.map_nil]
          exact rfl
        · rw [iteF hc16] at hF
          simp only [run_skip, x47_2, run_seq, run_reg, run_fa, put1_some, Nat.reduceAdd, Nat.zero_add, Nat.add_zero, xfa_ref, run_ld, put_at, put_no, ev_t, ev_c, reduceIte,
              Nat.reduceEqDiff, List.map_cons, List.map_nil]
          refine put1_eq (v := .int .i64 a_0.Begin) rfl ?_
          simp only [run_fa, put1_some, Nat.reduceAdd, Nat.zero_add, Nat.add_zero, xfa_ref, run_ld, put_at, put_no, ev_t, ev_c, reduceIte, Nat.reduceEqDiff, List.map_cons,
              List.map_nil]
          refine put1_eq (v := .int .i64 b_1.Begin) rfl ?_
          simp only [run_bin, put1_some, xneq, run_ops_nil, run_cond, put_at, put_no, ev_t, ev_c, reduceIte, Nat.reduceEqDiff, List.map_cons, List.map_nil]
          refine cond_split (t := (decide (a_0.Begin ≠ b_1.Begin))) (fun hc17 => ?_) (fun hc17 => ?_)
          · rw [iteT hc17] at hF
            simp only [run_seq, run_reg, run_mv, run_ops_nil, run_ret, put_at, put_no, ev_t, ev_c, reduceIte, Nat.reduceEqDiff, List.map_cons, List.map_nil]
            have he := some_inj hF
            subst he
            simp only [end_ret1, put_at, put_no, ev_t, ev_c, reduceIte, Nat.reduceEqDiff, List.map_cons, List.map_nil]
            exact rfl
          · rw [iteF hc17] at hF
            simp only [run_skip, x47_1, run_seq, run_reg, run_fa, put1_some, Nat.reduceAdd, Nat.zero_add, Nat.add_zero, xfa_ref, run_ld, put_at, put_no, ev_t, ev_c, reduceIte,
                Nat.reduceEqDiff, List.map_cons, List.map_nil]
            refine put1_eq (v := .int .i64 a_0.End) rfl ?_
            simp only [run_fa, put1_some, Nat.reduceAdd, Nat.zero_add, Nat.add_zero, xfa_ref, run_ld, put_at, put_no, ev_t, ev_c, reduceIte, Nat.reduceEqDiff, List.map_cons,
                List.map_nil]
            refine put1_eq (v := .int .i64 b_1.End) rfl ?_
            simp only [run_bin, put1_some, xneq, run_ops_nil, run_cond, put_at, put_no, ev_t, ev_c, reduceIte, Nat.reduceEqDiff, List.map_cons, List.map_nil]
            refine cond_split (t := (decide (a_0.End ≠ b_1.End))) (fun hc18 => ?_) (fun hc18 => ?_)
            · rw [iteT hc18] at hF
              simp only [run_seq, run_reg, run_mv, run_ops_nil, run_ret, put_at, put_no, ev_t, ev_c, reduceIte, Nat.reduceEqDiff, List.map_cons, List.map_nil]
              have he := some_inj hF
              subst he
              simp only [end_ret1, put_at, put_no, ev_t, ev_c, reduceIte, Nat.reduceEqDiff, List.map_cons, List.map_nil]
              exact rfl
            · rw [iteF hc18] at hF
              simp only [run_skip, run_seq, run_reg, run_mv, run_ops_nil, run_ret, put_at, put_no, ev_t, ev_c, reduceIte, Nat.reduceEqDiff, List.map_cons, List.map_nil]
              have he := some_inj hF
              subst he
              simp only [end_ret1, put_at, put_no, ev_t, ev_c, reduceIte, Nat.reduceEqDiff, List.map_cons, List.map_nil]
              exact rfl
theorem laws_eqCallS_x {W : Nat → Bool} {h : Heap} (hW : ∀ b,
    h.length ≤ b → W b = true) (k : Nat) (a_0 : List Call) (b_1 : List Call) (r : Bool) (hF : laws_eqCallS k a_0 b_1 = some r) : Ret E W 15 [lst Call.cells a_0,
    lst Call.cells b_1] h (fun v h' => cut h.length h' E.sz false 9 v = some (.bool r)) := by
  refine Ret.of (fn := x15) rfl (Run.of ?_)
  unfold laws_eqCallS at hF
  have zf0 : argFr [lst Call.cells a_0, lst Call.cells b_1] 0 = lst Call.cells a_0 := rfl
  have zf1 : argFr [lst Call.cells a_0, lst Call.cells b_1] 1 = lst Call.cells b_1 := rfl
  generalize argFr [lst Call.cells a_0, lst Call.cells b_1] = fr0 at zf0 zf1 ⊢
  have hS : Sep h h.length [] := Sep.nil h
  simp only [x15, run_seq, run_reg, run_mv, run_ops_nil, x15_7, zf0, run_len, put1_some, xlen_lst, zf1, run_bin, xneq, run_cond, put_at, put_no, ev_t, ev_c, reduceIte,
      Nat.reduceEqDiff, List.map_cons, List.map_nil]
  refine cond_split (t := (decide ((List.length a_0 : Int) ≠ (List.length b_1 : Int)))) (fun hc1 => ?_) (fun hc1 => ?_)
  · rw [iteT hc1] at hF
    simp only [run_seq, run_reg, run_mv, run_ops_nil, run_ret, put_at, put_no, ev_t, ev_c, reduceIte, Nat.reduceEqDiff, List.map_cons, List.map_nil]
    have he := some_inj hF
    subst he
    simp only [end_ret1, put_at, put_no, ev_t, ev_c, reduceIte, Nat.reduceEqDiff, List.map_cons, List.map_nil]
    exact rfl
  · rw [iteF hc1] at hF
    simp only [run_skip, x15_6, run_seq, run_reg, run_mv, run_ops_nil, put_at, put_no, ev_t, ev_c, reduceIte, Nat.reduceEqDiff, List.map_cons, List.map_nil]
    obtain ⟨oc6, hX8, hk9⟩ := jn_some hF
    simp only [x15_5]
    refine loopF_j (σ := Int) (fun s41 => laws_eqCallS_b1 a_0 b_1 s41)
        (fun s fr' h' => fr' 0 = lst Call.cells a_0 ∧ fr' 1 = lst Call.cells b_1 ∧ fr' 5 = .int .i64 s ∧ Sep h' h.length ([])) hX8 ⟨by simp only [zf0, put_at, put_no, ev_t, ev_c,
        reduceIte, Nat.reduceEqDiff, List.map_cons, List.map_nil], by simp only [zf1, put_at, put_no, ev_t, ev_c, reduceIte, Nat.reduceEqDiff, List.map_cons, List.map_nil],
        by simp only [put_at, put_no, ev_t, ev_c, reduceIte, Nat.reduceEqDiff, List.map_cons, List.map_nil], hS⟩ (fun _ _ _ h => h) ?_ ?_
    · rintro s3 fr18 h19 ⟨f21, f22, f23, hS20⟩ oc7 hF10 hr11 Q12 hN13 hK14 hR15 hE16
      unfold laws_eqCallS_b1 at hF10
      simp only [x15_3, run_seq, run_reg, f23, run_mv, f21, run_len, put1_some, xlen_lst, run_bin, xlss, run_ops_nil, run_cond, put_at, put_no, ev_t, ev_c, reduceIte,
          Nat.reduceEqDiff, List.map_cons, List.map_nil]
      refine cond_split (t := (decide (s3 < (List.length a_0 : Int)))) (fun hc25 => ?_) (fun hc25 => ?_)
      · rw [iteT hc25] at hF10
        obtain ⟨x26, hx27, hF28⟩ := bind_some' hF10
        simp only [run_skip, x15_2, run_seq, run_block, x15_1, run_draw, f21, d4_mv, put1d_some, f23, d4_ia, put_at, put_no, ev_t, ev_c, reduceIte, Nat.reduceEqDiff,
            List.map_cons, List.map_nil]
        refine put1d_eq (v := .ref (Call.cells x26) 0) (xia_lst hx27 rfl) ?_
        simp only [d4_ld, put_at, put_no, ev_t, ev_c, reduceIte, Nat.reduceEqDiff, List.map_cons, List.map_nil]
        refine put1d_eq (v := .agg [.int .i64 x26.Client, .int .i64 x26.Object, .bool x26.Write, .int .i64 x26.Value, .int .i64 x26.Begin, .int .i64 x26.End]) rfl ?_
        obtain ⟨x29, hx30, hF31⟩ := bind_some' hF28
        simp only [f22, d4_mv, put1d_some, f23, d4_ia, put_at, put_no, ev_t, ev_c, reduceIte, Nat.reduceEqDiff, List.map_cons, List.map_nil]
        refine put1d_eq (v := .ref (Call.cells x29) 0) (xia_lst hx30 rfl) ?_
        simp only [d4_ld, put_at, put_no, ev_t, ev_c, reduceIte, Nat.reduceEqDiff, List.map_cons, List.map_nil]
        refine put1d_eq (v := .agg [.int .i64 x29.Client, .int .i64 x29.Object, .bool x29.Write, .int .i64 x29.Value, .int .i64 x29.Begin, .int .i64 x29.End]) rfl ?_
        obtain ⟨v32, hx33, hF34⟩ := bind_some' hF31
        simp only [run_d3_call, put_at, put_no, ev_t, ev_c, reduceIte, Nat.reduceEqDiff, List.map_cons, List.map_nil]
        refine call1d rfl (mapM1 (snap_agg (mapM1 snap_int (mapM1 snap_int (mapM1 snap_bool (mapM1 snap_int (mapM1 snap_int (mapM1 snap_int mapM0))))))) (mapM1 (snap_agg
            (mapM1 snap_int (mapM1 snap_int (mapM1 snap_bool (mapM1 snap_int (mapM1 snap_int (mapM1 snap_int mapM0))))))) mapM0)) (laws_eqCall_x
            (fun b hb => decide_eq_true hb) x26 x29 v32 hx33) ?_
        simp only [d4_un, put1d_some, xnot, run_draw_nil, run_cond, put_at, put_no, ev_t, ev_c, reduceIte, Nat.reduceEqDiff, List.map_cons, List.map_nil]
        refine cond_split (t := (!v32)) (fun hc35 => ?_) (fun hc35 => ?_)
        · rw [iteT hc35] at hF34
          simp only [run_seq, run_reg, run_mv, run_ops_nil, run_ret, put_at, put_no, ev_t, ev_c, reduceIte, Nat.reduceEqDiff, List.map_cons, List.map_nil]
          have e36 := some_inj hF34
          subst e36
          have ho37 := hr11 _ rfl
          have hk38 := hk9
          rw [ho37] at hk38
          dsimp only [jnO] at hk38
          apply hR15
          have he := some_inj hk38
          subst he
          simp only [end_ret1, put_at, put_no, ev_t, ev_c, reduceIte, Nat.reduceEqDiff, List.map_cons, List.map_nil]
          exact rfl
        · rw [iteF hc35] at hF34
          simp only [run_skip, run_blk, run_reg, f23, run_mv, run_bin, put1_some, xadd, run_ops_nil, run_nil, put_at, put_no, ev_t, ev_c, reduceIte, Nat.reduceEqDiff,
              List.map_cons, List.map_nil]
          have e39 := some_inj hF34
          exact hN13 _ _ _ e39.symm ⟨by simp only [f21, put_at, put_no, ev_t, ev_c, reduceIte, Nat.reduceEqDiff, List.map_cons, List.map_nil], by simp only [f22, put_at, put_no,
              ev_t, ev_c, reduceIte, Nat.reduceEqDiff, List.map_cons, List.map_nil], by simp only [put_at, put_no, ev_t, ev_c, reduceIte, Nat.reduceEqDiff, List.map_cons,
              List.map_nil], hS20⟩
      · rw [iteF hc25] at hF10
        simp only [run_exit, out_code, out_nil, put_at, put_no, ev_t, ev_c, reduceIte, Nat.reduceEqDiff, List.map_cons, List.map_nil]
        have e40 := some_inj hF10
        exact hK14 _ _ _ e40.symm ⟨by simp only [f21, put_at, put_no, ev_t, ev_c, reduceIte, Nat.reduceEqDiff, List.map_cons, List.map_nil], by simp only [f22, put_at, put_no,
            ev_t, ev_c, reduceIte, Nat.reduceEqDiff, List.map_cons, List.map_nil], by simp only [f23, put_at, put_no, ev_t, ev_c, reduceIte, Nat.reduceEqDiff, List.map_cons,
            List.map_nil], hS20⟩
    · rintro s42 fr43 h44 rfl ⟨f46, f47, f48, hS45⟩
      dsimp only [jnO] at hk9
      unfold laws_eqCallS_j1 at hk9
      simp only [run_seq, run_reg, run_mv, run_ops_nil, run_ret, put_at, put_no, ev_t, ev_c, reduceIte, Nat.reduceEqDiff, List.map_cons, List.map_nil]
      have he := some_inj hk9
      subst he
      simp only [end_ret1, put_at, put_no, ev_t, ev_c, reduceIte, Nat.reduceEqDiff, List.map_cons, List.map_nil]
      exact rfl
theorem laws_markCallS_x {W : Nat → Bool} {h : Heap} {lo : Nat} {S0 : List Obj} (hW : ∀ b,
    lo ≤ b → W b = true) (k : Nat) (pv0 : XV) (pc0 : List Obj) (a_0 : List Call) (ph0 : SlF Call.cells 6 55 pv0 a_0 pc0) (k_1 : Int) (r : Int × (List Call))
    (hF : laws_markCallS k a_0 k_1 = some r) (hS : Sep h lo (pc0 ++ (S0))) : Ret E W 16 [pv0, .int .i64 k_1] h (fun v h' => ∃ ic0,
    v = .int .i64 r.1 ∧ SlF Call.cells 6 55 pv0 r.2 ic0 ∧ Sep h' lo (ic0 ++ (S0))) := by
  refine Ret.of (fn := x16) rfl (Run.of ?_)
  unfold laws_markCallS at hF
  have zf0 : argFr [pv0, .int .i64 k_1] 0 = pv0 := rfl
  have zf1 : argFr [pv0, .int .i64 k_1] 1 = .int .i64 k_1 := rfl
  generalize argFr [pv0, .int .i64 k_1] = fr0 at zf0 zf1 ⊢
  simp only [x16, run_seq, run_reg, run_mv, run_ops_nil, x16_16, put_at, put_no, ev_t, ev_c, reduceIte, Nat.reduceEqDiff, List.map_cons, List.map_nil]
  obtain ⟨oc13, hX15, hk16⟩ := jn_some hF
  simp only [x16_15]
  refine loopF_j (σ := Int × Int × (List Call)) (fun s70 => laws_markCallS_b1 s70.1 s70.2.1 s70.2.2) (fun s fr' h' => ∃ c9,
      fr' 0 = pv0 ∧ fr' 1 = .int .i64 s.1 ∧ fr' 5 = .int .i64 s.2.1 ∧ SlF Call.cells 6 55 pv0 s.2.2 c9 ∧ Sep h' lo (c9 ++ (S0))) hX15 ⟨pc0, by simp only [zf0, put_at, put_no,
      ev_t, ev_c, reduceIte, Nat.reduceEqDiff, List.map_cons, List.map_nil], by simp only [zf1, put_at, put_no, ev_t, ev_c, reduceIte, Nat.reduceEqDiff, List.map_cons,
      List.map_nil], by simp only [put_at, put_no, ev_t, ev_c, reduceIte, Nat.reduceEqDiff, List.map_cons, List.map_nil], ph0, hS⟩ (fun _ _ _ h => h) ?_ ?_
  · rintro ⟨s6, s7, s8⟩ fr25 h26 ⟨c9, f28, f29, f30, hv10, hS27⟩ oc14 hF17 hr18 Q19 hN20 hK21 hR22 hE23
    dsimp only at *
    unfold laws_markCallS_b1 at hF17
    simp only [x16_13, run_seq, run_reg, f30, run_mv, f28, run_len, put1_some, SlF.plen hv10, run_bin, xlss, run_ops_nil, run_cond, put_at, put_no, ev_t, ev_c, reduceIte,
        Nat.reduceEqDiff, List.map_cons, List.map_nil]
    refine cond_split (t := (decide (s7 < (List.length s8 : Int)))) (fun hc32 => ?_) (fun hc32 => ?_)
    · rw [iteT hc32] at hF17
      obtain ⟨x33, hx34, hF35⟩ := bind_some' hF17
      simp only [run_skip, x16_12, run_seq, run_block, x16_11, run_reg, f28, run_mv, f30, f29, run_ia, put_at, put_no, ev_t, ev_c, reduceIte, Nat.reduceEqDiff, List.map_cons,
          List.map_nil]
      obtain ⟨b36, hb37⟩ := SlF.isrow hv10 (geti_ne hx34)
      refine put1_eq (SlF.ia hv10 hb37 hx34) ?_
      simp only [run_fa, put1_some, Nat.reduceAdd, Nat.zero_add, Nat.add_zero, xfa_ptr, run_st, put_at, put_no, ev_t, ev_c, reduceIte, Nat.reduceEqDiff, List.map_cons,
          List.map_nil]
      refine put2_stF (f := Call.cells) (x' := (Call.mk s6 x33.Object x33.Write x33.Value x33.Begin x33.End)) (o := 0) hv10 hS27 hW hb37 hx34 (fun _ => rfl) rfl rfl
          (Nat.le_of_ble_eq_true rfl) rfl (fun c40 h38 hv41 hS39 => ?_)
      have hx42 := geti_set (x' := (Call.mk s6 x33.Object x33.Write x33.Value x33.Begin x33.End)) hx34
      simp only [put_no, run_ops_nil, x16_10, run_seq, run_reg, f29, run_mv, run_bin, put1_some, xadd, x16_9, f28, f30, run_ia, put_at, ev_t, ev_c, reduceIte, Nat.reduceEqDiff,
          List.map_cons, List.map_nil]
      refine put1_eq (SlF.ia hv41 hb37 hx42) ?_
      simp only [run_fa, put1_some, Nat.reduceAdd, Nat.zero_add, Nat.add_zero, xfa_ptr, run_st, put_at, put_no, ev_t, ev_c, reduceIte, Nat.reduceEqDiff, List.map_cons,
          List.map_nil]
      refine put2_stF (f := Call.cells) (x' := (Call.mk s6 (IntKind.wrap .i64 (s6 + 1)) x33.Write x33.Value x33.Begin x33.End)) (o := 1) hv41 hS39 hW hb37 hx42
          (fun _ => rfl) rfl rfl (Nat.le_of_ble_eq_true rfl) rfl (fun c45 h43 hv46 hS44 => ?_)
      rw [List.set_set] at hv46
      have hx47 := geti_set (x' := (Call.mk s6 (IntKind.wrap .i64 (s6 + 1)) x33.Write x33.Value x33.Begin x33.End)) hx34
      simp only [put_no, run_ops_nil, x16_8, run_seq, run_reg, run_mv, run_bin, put1_some, xadd, x16_7, f28, f30, xrem_nz (n := 3) (by decide), xeql, run_ia, put_at, ev_t, ev_c,
          reduceIte, Nat.reduceEqDiff, List.map_cons, List.map_nil]
      refine put1_eq (SlF.ia hv46 hb37 hx47) ?_
      simp only [run_fa, put1_some, Nat.reduceAdd, Nat.zero_add, Nat.add_zero, xfa_ptr, run_st, put_at, put_no, ev_t, ev_c, reduceIte, Nat.reduceEqDiff, List.map_cons,
          List.map_nil]
      refine put2_stF (f := Call.cells) (x' := (Call.mk s6 (IntKind.wrap .i64 (s6 + 1)) (decide ((Int.tmod (IntKind.wrap .i64 ((IntKind.wrap .i64
          (s6 + 1)) + 1)) 3) = 0)) x33.Value x33.Begin x33.End)) (o := 2) hv46 hS44 hW hb37 hx47 (fun _ => rfl) rfl rfl (Nat.le_of_ble_eq_true rfl) rfl
          (fun c50 h48 hv51 hS49 => ?_)
      rw [List.set_set] at hv51
      have hx52 := geti_set (x' := (Call.mk s6 (IntKind.wrap .i64 (s6 + 1)) (decide ((Int.tmod (IntKind.wrap .i64 ((IntKind.wrap .i64
          (s6 + 1)) + 1)) 3) = 0)) x33.Value x33.Begin x33.End)) hx34
      simp only [put_no, run_ops_nil, x16_6, run_seq, run_reg, run_mv, run_bin, put1_some, xadd, x16_5, f28, f30, run_ia, put_at, ev_t, ev_c, reduceIte, Nat.reduceEqDiff,
          List.map_cons, List.map_nil]
      refine put1_eq (SlF.ia hv51 hb37 hx52) ?_
      simp only [run_fa, put1_some, Nat.reduceAdd, Nat.zero_add, Nat.add_zero, xfa_ptr, run_st, put_at, put_no, ev_t, ev_c, reduceIte, Nat.reduceEqDiff, List.map_cons,
          List.map_nil]
      refine put2_stF (f := Call.cells) (x' := (Call.mk s6 (IntKind.wrap .i64 (s6 + 1)) (decide ((Int.tmod (IntKind.wrap .i64 ((IntKind.wrap .i64 (s6 + 1)) + 1)) 3) = 0))
          (IntKind.wrap .i64 ((IntKind.wrap .i64 ((IntKind.wrap .i64 (s6 + 1)) + 1)) + 1)) x33.Begin x33.End)) (o := 3) hv51 hS49 hW hb37 hx52 (fun _ => rfl) rfl rfl
          (Nat.le_of_ble_eq_true rfl) rfl (fun c55 h53 hv56 hS54 => ?_)
      rw [List.set_set] at hv56
      have hx57 := geti_set (x' := (Call.mk s6 (IntKind.wrap .i64 (s6 + 1)) (decide ((Int.tmod (IntKind.wrap .i64 ((IntKind.wrap .i64 (s6 + 1)) + 1)) 3) = 0)) (IntKind.wrap .i64
          ((IntKind.wrap .i64 ((IntKind.wrap .i64 (s6 + 1)) + 1)) + 1)) x33.Begin x33.End)) hx34
      simp only [put_no, run_ops_nil, x16_4, run_seq, run_reg, run_mv, run_bin, put1_some, xadd, x16_3, f28, f30, run_ia, put_at, ev_t, ev_c, reduceIte, Nat.reduceEqDiff,
          List.map_cons, List.map_nil]
      refine put1_eq (SlF.ia hv56 hb37 hx57) ?_
      simp only [run_fa, put1_some, Nat.reduceAdd, Nat.zero_add, Nat.add_zero, xfa_ptr, run_st, put_at, put_no, ev_t, ev_c, reduceIte, Nat.reduceEqDiff, List.map_cons,
          List.map_nil]
      refine put2_stF (f := Call.cells) (x' := (Call.mk s6 (IntKind.wrap .i64 (s6 + 1)) (decide ((Int.tmod (IntKind.wrap .i64 ((IntKind.wrap .i64 (s6 + 1)) + 1)) 3) = 0))
          (IntKind.wrap .i64 ((IntKind.wrap .i64 ((IntKind.wrap .i64 (s6 + 1)) + 1)) + 1)) (IntKind.wrap .i64 ((IntKind.wrap .i64 ((IntKind.wrap .i64 ((IntKind.wrap .i64
          (s6 + 1)) + 1)) + 1)) + 1)) x33.End)) (o := 4) hv56 hS54 hW hb37 hx57 (fun _ => rfl) rfl rfl (Nat.le_of_ble_eq_true rfl) rfl (fun c60 h58 hv61 hS59 => ?_)
      rw [List.set_set] at hv61
      have hx62 := geti_set (x' := (Call.mk s6 (IntKind.wrap .i64 (s6 + 1)) (decide ((Int.tmod (IntKind.wrap .i64 ((IntKind.wrap .i64 (s6 + 1)) + 1)) 3) = 0)) (IntKind.wrap .i64
          ((IntKind.wrap .i64 ((IntKind.wrap .i64 (s6 + 1)) + 1)) + 1)) (IntKind.wrap .i64 ((IntKind.wrap .i64 ((IntKind.wrap .i64 ((IntKind.wrap .i64
          (s6 + 1)) + 1)) + 1)) + 1)) x33.End)) hx34
      simp only [put_no, run_ops_nil, x16_2, run_seq, run_reg, run_mv, run_bin, put1_some, xadd, x16_1, f28, f30, run_ia, put_at, ev_t, ev_c, reduceIte, Nat.reduceEqDiff,
          List.map_cons, List.map_nil]
      refine put1_eq (SlF.ia hv61 hb37 hx62) ?_
      simp only [run_fa, put1_some, Nat.reduceAdd, Nat.zero_add, Nat.add_zero, xfa_ptr, run_st, put_at, put_no, ev_t, ev_c, reduceIte, Nat.reduceEqDiff, List.map_cons,
          List.map_nil]
      refine put2_stF (f := Call.cells) (x' := (Call.mk s6 (IntKind.wrap .i64 (s6 + 1)) (decide ((Int.tmod (IntKind.wrap .i64 ((IntKind.wrap .i64 (s6 + 1)) + 1)) 3) = 0))
          (IntKind.wrap .i64 ((IntKind.wrap .i64 ((IntKind.wrap .i64 (s6 + 1)) + 1)) + 1)) (IntKind.wrap .i64 ((IntKind.wrap .i64 ((IntKind.wrap .i64 ((IntKind.wrap .i64
          (s6 + 1)) + 1)) + 1)) + 1)) (IntKind.wrap .i64 ((IntKind.wrap .i64 ((IntKind.wrap .i64 ((IntKind.wrap .i64 ((IntKind.wrap .i64 (s6 + 1)) + 1)) + 1)) + 1)) + 1))))
          (o := 5) hv61 hS59 hW hb37 hx62 (fun _ => rfl) rfl rfl (Nat.le_of_ble_eq_true rfl) rfl (fun c65 h63 hv66 hS64 => ?_)
      rw [List.set_set] at hv66
      have hx67 := geti_set (x' := (Call.mk s6 (IntKind.wrap .i64 (s6 + 1)) (decide ((Int.tmod (IntKind.wrap .i64 ((IntKind.wrap .i64 (s6 + 1)) + 1)) 3) = 0)) (IntKind.wrap .i64
          ((IntKind.wrap .i64 ((IntKind.wrap .i64 (s6 + 1)) + 1)) + 1)) (IntKind.wrap .i64 ((IntKind.wrap .i64 ((IntKind.wrap .i64 ((IntKind.wrap .i64 (s6 + 1)) + 1)) + 1)) + 1))
          (IntKind.wrap .i64 ((IntKind.wrap .i64 ((IntKind.wrap .i64 ((IntKind.wrap .i64 ((IntKind.wrap .i64 (s6 + 1)) + 1)) + 1)) + 1)) + 1)))) hx34
      simp only [put_no, run_ops_nil, run_reg, run_mv, run_bin, put1_some, xadd, run_blk, f30, run_nil, put_at, ev_t, ev_c, reduceIte, Nat.reduceEqDiff, List.map_cons,
          List.map_nil]
      have e68 := some_inj hF35
      exact hN20 _ _ _ e68.symm ⟨c65, by simp only [f28, put_at, put_no, ev_t, ev_c, reduceIte, Nat.reduceEqDiff, List.map_cons, List.map_nil], by simp only [put_at, put_no, ev_t,
          ev_c, reduceIte, Nat.reduceEqDiff, List.map_cons, List.map_nil], by simp only [put_at, put_no, ev_t, ev_c, reduceIte, Nat.reduceEqDiff, List.map_cons, List.map_nil],
          hv66, hS64⟩
    · rw [iteF hc32] at hF17
      simp only [run_exit, out_code, out_nil, put_at, put_no, ev_t, ev_c, reduceIte, Nat.reduceEqDiff, List.map_cons, List.map_nil]
      have e69 := some_inj hF17
      exact hK21 _ _ _ e69.symm ⟨c9, by simp only [f28, put_at, put_no, ev_t, ev_c, reduceIte, Nat.reduceEqDiff, List.map_cons, List.map_nil], by simp only [f29, put_at, put_no,
          ev_t, ev_c, reduceIte, Nat.reduceEqDiff, List.map_cons, List.map_nil], by simp only [f30, put_at, put_no, ev_t, ev_c, reduceIte, Nat.reduceEqDiff, List.map_cons,
          List.map_nil], hv10, hS27⟩
  · rintro ⟨s71, s72, s73⟩ fr76 h77 rfl ⟨c74, f79, f80, f81, hv75, hS78⟩
    dsimp only [jnO] at hk16
    dsimp only at *
    unfold laws_markCallS_j1 at hk16
    simp only [run_seq, run_reg, f80, run_mv, run_ops_nil, run_ret, put_at, put_no, ev_t, ev_c, reduceIte, Nat.reduceEqDiff, List.map_cons, List.map_nil]
    have he := some_inj hk16
    subst he
    simp only [end_ret1, put_at, put_no, ev_t, ev_c, reduceIte, Nat.reduceEqDiff, List.map_cons, List.map_nil]
    exact ⟨c74, by first | trivial | rfl, hv75, hS78⟩
end Go.Proofs.Ytddkoiapboeemaa.X
namespace Go.Proofs.Ytddkoiapboeemaa.X
open Go
theorem laws_heldCallS_x {W : Nat → Bool} {h : Heap} (hW : ∀ b,
    h.length ≤ b → W b = true) (k : Nat) (v_0 : List Call) (v_1 : Int) (r : Int) (hF : laws_heldCallS k v_0 v_1 = some r) : Ret E W 17 [lst Call.cells v_0,
    .int .i64 v_1] h (fun v h' => cut h.length h' E.sz false 9 v = some (.int .i64 r)) := by
  refine Ret.of (fn := x17) rfl (Run.of ?_)
  unfold laws_heldCallS at hF
  have zf0 : argFr [lst Call.cells v_0, .int .i64 v_1] 0 = lst Call.cells v_0 := rfl
  have zf1 : argFr [lst Call.cells v_0, .int .i64 v_1] 1 = .int .i64 v_1 := rfl
  generalize argFr [lst Call.cells v_0, .int .i64 v_1] = fr0 at zf0 zf1 ⊢
  have hS : Sep h h.length [] := Sep.nil h
  simp only [x17, run_seq, run_reg, run_mv, run_ops_nil, x17_16, put_at, put_no, ev_t, ev_c, reduceIte, Nat.reduceEqDiff, List.map_cons, List.map_nil]
  obtain ⟨oc7, hX9, hk10⟩ := jn_some hF
  simp only [x17_15]
  refine loopF_j (σ := Int × Int) (fun s71 => laws_heldCallS_b1 v_0 s71.1 s71.2)
      (fun s fr' h' => fr' 0 = lst Call.cells v_0 ∧ fr' 1 = .int .i64 s.1 ∧ fr' 5 = .int .i64 s.2 ∧ Sep h' h.length ([])) hX9 ⟨by simp only [zf0, put_at, put_no, ev_t, ev_c,
      reduceIte, Nat.reduceEqDiff, List.map_cons, List.map_nil], by simp only [zf1, put_at, put_no, ev_t, ev_c, reduceIte, Nat.reduceEqDiff, List.map_cons, List.map_nil],
      by simp only [put_at, put_no, ev_t, ev_c, reduceIte, Nat.reduceEqDiff, List.map_cons, List.map_nil], hS⟩ (fun _ _ _ h => h) ?_ ?_
  · rintro ⟨s3, s4⟩ fr19 h20 ⟨f22, f23, f24, hS21⟩ oc8 hF11 hr12 Q13 hN14 hK15 hR16 hE17
    dsimp only at *
    unfold laws_heldCallS_b1 at hF11
    simp only [x17_13, run_seq, run_reg, f24, run_mv, f22, run_len, put1_some, xlen_lst, run_bin, xlss, run_ops_nil, run_cond, put_at, put_no, ev_t, ev_c, reduceIte,
        Nat.reduceEqDiff, List.map_cons, List.map_nil]
    refine cond_split (t := (decide (s4 < (List.length v_0 : Int)))) (fun hc26 => ?_) (fun hc26 => ?_)
    · rw [iteT hc26] at hF11
      obtain ⟨x27, hx28, hF29⟩ := bind_some' hF11
      simp only [run_skip, x17_12, run_seq, run_block, x17_11, run_reg, f22, run_mv, f24, run_ia, put_at, put_no, ev_t, ev_c, reduceIte, Nat.reduceEqDiff, List.map_cons,
          List.map_nil]
      refine put1_eq (v := .ref (Call.cells x27) 0) (xia_lst hx28 rfl) ?_
      simp only [run_fa, put1_some, Nat.reduceAdd, Nat.zero_add, Nat.add_zero, xfa_ref, run_ld, put_at, put_no, ev_t, ev_c, reduceIte, Nat.reduceEqDiff, List.map_cons,
          List.map_nil]
      refine put1_eq (v := .int .i64 x27.Client) rfl ?_
      simp only [f23, run_mv, run_bin, put1_some, xneq, run_ops_nil, run_cond, put_at, put_no, ev_t, ev_c, reduceIte, Nat.reduceEqDiff, List.map_cons, List.map_nil]
      refine cond_split (t := (decide (x27.Client ≠ s3))) (fun hc30 => ?_) (fun hc30 => ?_)
      · rw [iteT hc30] at hF29
        simp only [run_seq, run_reg, run_mv, run_ops_nil, run_ret, put_at, put_no, ev_t, ev_c, reduceIte, Nat.reduceEqDiff, List.map_cons, List.map_nil]
        have e31 := some_inj hF29
        subst e31
        have ho32 := hr12 _ rfl
        have hk33 := hk10
        rw [ho32] at hk33
        dsimp only [jnO] at hk33
        apply hR16
        have he := some_inj hk33
        subst he
        simp only [end_ret1, put_at, put_no, ev_t, ev_c, reduceIte, Nat.reduceEqDiff, List.map_cons, List.map_nil]
        exact rfl
      · rw [iteF hc30] at hF29
        obtain ⟨x34, hx35, hF36⟩ := bind_some' hF29
        simp only [run_skip, x17_10, run_seq, run_reg, f23, run_mv, run_bin, put1_some, xadd, run_ops_nil, x17_9, f22, f24, run_ia, put_at, put_no, ev_t, ev_c, reduceIte,
            Nat.reduceEqDiff, List.map_cons, List.map_nil]
        refine put1_eq (v := .ref (Call.cells x34) 0) (xia_lst hx35 rfl) ?_
        simp only [run_fa, put1_some, Nat.reduceAdd, Nat.zero_add, Nat.add_zero, xfa_ref, run_ld, put_at, put_no, ev_t, ev_c, reduceIte, Nat.reduceEqDiff, List.map_cons,
            List.map_nil]
        refine put1_eq (v := .int .i64 x34.Object) rfl ?_
        simp only [run_mv, run_bin, put1_some, xneq, run_ops_nil, run_cond, put_at, put_no, ev_t, ev_c, reduceIte, Nat.reduceEqDiff, List.map_cons, List.map_nil]
        refine cond_split (t := (decide (x34.Object ≠ (IntKind.wrap .i64 (s3 + 1))))) (fun hc37 => ?_) (fun hc37 => ?_)
        · rw [iteT hc37] at hF36
          simp only [run_seq, run_reg, run_mv, run_ops_nil, run_ret, put_at, put_no, ev_t, ev_c, reduceIte, Nat.reduceEqDiff, List.map_cons, List.map_nil]
          have e38 := some_inj hF36
          subst e38
          have ho39 := hr12 _ rfl
          have hk40 := hk10
          rw [ho39] at hk40
          dsimp only [jnO] at hk40
          apply hR16
          have he := some_inj hk40
          subst he
          simp only [end_ret1, put_at, put_no, ev_t, ev_c, reduceIte, Nat.reduceEqDiff, List.map_cons, List.map_nil]
          exact rfl
        · rw [iteF hc37] at hF36
          obtain ⟨x41, hx42, hF43⟩ := bind_some' hF36
          simp only [run_skip, x17_8, run_seq, run_reg, run_mv, run_bin, put1_some, xadd, run_ops_nil, x17_7, f22, f24, run_ia, put_at, put_no, ev_t, ev_c, reduceIte,
              Nat.reduceEqDiff, List.map_cons, List.map_nil]
          refine put1_eq (v := .ref (Call.cells x41) 0) (xia_lst hx42 rfl) ?_
          simp only [run_fa, put1_some, Nat.reduceAdd, Nat.zero_add, Nat.add_zero, xfa_ref, run_ld, put_at, put_no, ev_t, ev_c, reduceIte, Nat.reduceEqDiff, List.map_cons,
              List.map_nil]
          refine put1_eq (v := .bool x41.Write) rfl ?_
          simp only [run_mv, run_bin, put1_some, xrem_nz (n := 3) (by decide), xeql, run_eqb, xeqb_t, run_ops_nil, run_cond, put_at, put_no, ev_t, ev_c, reduceIte,
              Nat.reduceEqDiff, List.map_cons, List.map_nil]
          refine cond_split (t := (!(x41.Write == (decide ((Int.tmod (IntKind.wrap .i64 ((IntKind.wrap .i64 (s3 + 1)) + 1)) 3) = 0))))) (fun hc44 => ?_) (fun hc44 => ?_)
          · rw [iteT hc44] at hF43
            simp only [run_seq, run_reg, run_mv, run_ops_nil, run_ret, put_at, put_no, ev_t, ev_c, reduceIte, Nat.reduceEqDiff, List.map_cons, List.map_nil]
            have e45 := some_inj hF43
            subst e45
            have ho46 := hr12 _ rfl
            have hk47 := hk10
            rw [ho46] at hk47
            dsimp only [jnO] at hk47
            apply hR16
            have he := some_inj hk47
            subst he
            simp only [end_ret1, put_at, put_no, ev_t, ev_c, reduceIte, Nat.reduceEqDiff, List.map_cons, List.map_nil]
            exact rfl
          · rw [iteF hc44] at hF43
            obtain ⟨x48, hx49, hF50⟩ := bind_some' hF43
            simp only [run_skip, x17_6, run_seq, run_reg, run_mv, run_bin, put1_some, xadd, run_ops_nil, x17_5, f22, f24, run_ia, put_at, put_no, ev_t, ev_c, reduceIte,
                Nat.reduceEqDiff, List.map_cons, List.map_nil]
            refine put1_eq (v := .ref (Call.cells x48) 0) (xia_lst hx49 rfl) ?_
            simp only [run_fa, put1_some, Nat.reduceAdd, Nat.zero_add, Nat.add_zero, xfa_ref, run_ld, put_at, put_no, ev_t, ev_c, reduceIte, Nat.reduceEqDiff, List.map_cons,
                List.map_nil]
            refine put1_eq (v := .int .i64 x48.Value) rfl ?_
            simp only [run_mv, run_bin, put1_some, xneq, run_ops_nil, run_cond, put_at, put_no, ev_t, ev_c, reduceIte, Nat.reduceEqDiff, List.map_cons, List.map_nil]
            refine cond_split (t := (decide (x48.Value ≠ (IntKind.wrap .i64 ((IntKind.wrap .i64 ((IntKind.wrap .i64 (s3 + 1)) + 1)) + 1))))) (fun hc51 => ?_) (fun hc51 => ?_)
            · rw [iteT hc51] at hF50
              simp only [run_seq, run_reg, run_mv, run_ops_nil, run_ret, put_at, put_no, ev_t, ev_c, reduceIte, Nat.reduceEqDiff, List.map_cons, List.map_nil]
              have e52 := some_inj hF50
              subst e52
              have ho53 := hr12 _ rfl
              have hk54 := hk10
              rw [ho53] at hk54
              dsimp only [jnO] at hk54
              apply hR16
              have he := some_inj hk54
              subst he
              simp only [end_ret1, put_at, put_no, ev_t, ev_c, reduceIte, Nat.reduceEqDiff, List.map_cons, List.map_nil]
              exact rfl
            · rw [iteF hc51] at hF50
              obtain ⟨x55, hx56, hF57⟩ := bind_some' hF50
              simp only [run_skip, x17_4, run_seq, run_reg, run_mv, run_bin, put1_some, xadd, run_ops_nil, x17_3, f22, f24, run_ia, put_at, put_no, ev_t, ev_c, reduceIte,
                  Nat.reduceEqDiff, List.map_cons, List.map_nil]
              refine put1_eq (v := .ref (Call.cells x55) 0) (xia_lst hx56 rfl) ?_
              simp only [run_fa, put1_some, Nat.reduceAdd, Nat.zero_add, Nat.add_zero, xfa_ref, run_ld, put_at, put_no, ev_t, ev_c, reduceIte, Nat.reduceEqDiff, List.map_cons,
                  List.map_nil]
              refine put1_eq (v := .int .i64 x55.Begin) rfl ?_
              simp only [run_mv, run_bin, put1_some, xneq, run_ops_nil, run_cond, put_at, put_no, ev_t, ev_c, reduceIte, Nat.reduceEqDiff, List.map_cons, List.map_nil]
              refine cond_split (t := (decide (x55.Begin ≠ (IntKind.wrap .i64 ((IntKind.wrap .i64 ((IntKind.wrap .i64 ((IntKind.wrap .i64 (s3 + 1)) + 1)) + 1)) + 1)))))
                  (fun hc58 => ?_) (fun hc58 => ?_)
              · rw [iteT hc58] at hF57
                simp only [run_seq, run_reg, run_mv, run_ops_nil, run_ret, put_at, put_no, ev_t, ev_c, reduceIte, Nat.reduceEqDiff, List.map_cons, List.map_nil]
                have e59 := some_inj hF57
                subst e59
                have ho60 := hr12 _ rfl
                have hk61 := hk10
                rw [ho60] at hk61
                dsimp only [jnO] at hk61
                apply hR16
                have he := some_inj hk61
                subst he
                simp only [end_ret1, put_at, put_no, ev_t, ev_c, reduceIte, Nat.reduceEqDiff, List.map_cons, List.map_nil]
                exact rfl
              · rw [iteF hc58] at hF57
                obtain ⟨x62, hx63, hF64⟩ := bind_some' hF57
                simp only [run_skip, x17_2, run_seq, run_reg, run_mv, run_bin, put1_some, xadd, run_ops_nil, x17_1, f22, f24, run_ia, put_at, put_no, ev_t, ev_c, reduceIte,
                    Nat.reduceEqDiff, List.map_cons, List.map_nil]
                refine put1_eq (v := .ref (Call.cells x62) 0) (xia_lst hx63 rfl) ?_
                simp only [run_fa, put1_some, Nat.reduceAdd, Nat.zero_add, Nat.add_zero, xfa_ref, run_ld, put_at, put_no, ev_t, ev_c, reduceIte, Nat.reduceEqDiff, List.map_cons,
                    List.map_nil]
                refine put1_eq (v := .int .i64 x62.End) rfl ?_
                simp only [run_mv, run_bin, put1_some, xneq, run_ops_nil, run_cond, put_at, put_no, ev_t, ev_c, reduceIte, Nat.reduceEqDiff, List.map_cons, List.map_nil]
                refine cond_split (t := (decide (x62.End ≠ (IntKind.wrap .i64 ((IntKind.wrap .i64 ((IntKind.wrap .i64 ((IntKind.wrap .i64 ((IntKind.wrap .i64
                    (s3 + 1)) + 1)) + 1)) + 1)) + 1))))) (fun hc65 => ?_) (fun hc65 => ?_)
                · rw [iteT hc65] at hF64
                  simp only [run_seq, run_reg, run_mv, run_ops_nil, run_ret, put_at, put_no, ev_t, ev_c, reduceIte, Nat.reduceEqDiff, List.map_cons, List.map_nil]
                  have e66 := some_inj hF64
                  subst e66
                  have ho67 := hr12 _ rfl
                  have hk68 := hk10
                  rw [ho67] at hk68
                  dsimp only [jnO] at hk68
                  apply hR16
                  have he := some_inj hk68
                  subst he
                  simp only [end_ret1, put_at, put_no, ev_t, ev_c, reduceIte, Nat.reduceEqDiff, List.map_cons, List.map_nil]
                  exact rfl
                · rw [iteF hc65] at hF64
                  simp only [run_skip, run_reg, run_mv, run_bin, put1_some, xadd, run_ops_nil, run_blk, f24, run_nil, put_at, put_no, ev_t, ev_c, reduceIte, Nat.reduceEqDiff,
                      List.map_cons, List.map_nil]
                  have e69 := some_inj hF64
                  exact hN14 _ _ _ e69.symm ⟨by simp only [f22, put_at, put_no, ev_t, ev_c, reduceIte, Nat.reduceEqDiff, List.map_cons, List.map_nil], by simp only [put_at,
                      put_no, ev_t, ev_c, reduceIte, Nat.reduceEqDiff, List.map_cons, List.map_nil], by simp only [put_at, put_no, ev_t, ev_c, reduceIte, Nat.reduceEqDiff,
                      List.map_cons, List.map_nil], hS21⟩
    · rw [iteF hc26] at hF11
      simp only [run_exit, out_code, out_nil, put_at, put_no, ev_t, ev_c, reduceIte, Nat.reduceEqDiff, List.map_cons, List.map_nil]
      have e70 := some_inj hF11
      exact hK15 _ _ _ e70.symm ⟨by simp only [f22, put_at, put_no, ev_t, ev_c, reduceIte, Nat.reduceEqDiff, List.map_cons, List.map_nil], by simp only [f23, put_at, put_no, ev_t,
          ev_c, reduceIte, Nat.reduceEqDiff, List.map_cons, List.map_nil], by simp only [f24, put_at, put_no, ev_t, ev_c, reduceIte, Nat.reduceEqDiff, List.map_cons,
          List.map_nil], hS21⟩
  · rintro ⟨s72, s73⟩ fr74 h75 rfl ⟨f77, f78, f79, hS76⟩
    dsimp only [jnO] at hk10
    dsimp only at *
    unfold laws_heldCallS_j1 at hk10
    simp only [run_seq, run_reg, f78, run_mv, run_ops_nil, run_ret, put_at, put_no, ev_t, ev_c, reduceIte, Nat.reduceEqDiff, List.map_cons, List.map_nil]
    have he := some_inj hk10
    subst he
    simp only [end_ret1, put_at, put_no, ev_t, ev_c, reduceIte, Nat.reduceEqDiff, List.map_cons, List.map_nil]
    exact rfl
theorem laws_FnExactOnObject_x {W : Nat → Bool} {h : Heap} (hW : ∀ b,
    h.length ≤ b → W b = true) (k : Nat) (v_0 : List Call) (v_1 : Int) (r : Bool) (hF : laws_FnExactOnObject k v_0 v_1 = some r) : Ret E W 3 [lst Call.cells v_0,
    .int .i64 v_1] h (fun v h' => cut h.length h' E.sz false 9 v = some (.bool r)) := by
  refine Ret.of (fn := x3) rfl (Run.of ?_)
  unfold laws_FnExactOnObject at hF
  have zf0 : argFr [lst Call.cells v_0, .int .i64 v_1] 0 = lst Call.cells v_0 := rfl
  have zf1 : argFr [lst Call.cells v_0, .int .i64 v_1] 1 = .int .i64 v_1 := rfl
  generalize argFr [lst Call.cells v_0, .int .i64 v_1] = fr0 at zf0 zf1 ⊢
  have hS : Sep h h.length [] := Sep.nil h
  obtain ⟨v1, hx2, hF3⟩ := bind_some' hF
  simp only [x3, run_seq, run_reg, run_mv, run_ops_nil, x3_23, x3_22, zf0, run_call, put_at, put_no, ev_t, ev_c, reduceIte, Nat.reduceEqDiff, List.map_cons, List.map_nil]
  refine call1 rfl (mapM1 snap_lst (mapM1 snap_int mapM0)) (laws_szCallS_x (fun b hb => decide_eq_true hb) v_0 1048576 v1 hx2) ?_
  simp only [run_mv, run_ops_nil, x3_21, run_seq, run_reg, run_bin, put1_some, xlss, run_cond, put_at, put_no, ev_t, ev_c, reduceIte, Nat.reduceEqDiff, List.map_cons, List.map_nil]
  refine cond_split (t := (decide (v1 < 0))) (fun hc4 => ?_) (fun hc4 => ?_)
  · rw [iteT hc4] at hF3
    simp only [run_seq, run_reg, run_mv, run_ops_nil, run_ret, put_at, put_no, ev_t, ev_c, reduceIte, Nat.reduceEqDiff, List.map_cons, List.map_nil]
    have he := some_inj hF3
    subst he
    simp only [end_ret1, put_at, put_no, ev_t, ev_c, reduceIte, Nat.reduceEqDiff, List.map_cons, List.map_nil]
    exact rfl
  · rw [iteF hc4] at hF3
    obtain ⟨v5, hx6, hF7⟩ := bind_some' hF3
    simp only [run_skip, x3_20, run_seq, run_reg, zf0, run_mv, run_call, put_at, put_no, ev_t, ev_c, reduceIte, Nat.reduceEqDiff, List.map_cons, List.map_nil]
    refine call2 rfl hS (mapM1 snap_lst mapM0) (laws_toCallS_x (fun b hb => decide_eq_true hb) k v_0 v5 hx6) ?_
    rintro v8 h12 ⟨_, c9, rfl, hv10, hS13⟩
    refine ⟨_, free_1 (SlF.free1 hv10), hS13, (pf_app (SlF.pf hv10 (fun _ => rfl)) pf_nil), fun h14 hS15 => ?_⟩
    have hS16 : Sep h14 h.length (c9 ++ ([])) := by simpa only [List.append_assoc, List.nil_append] using hS15
    obtain ⟨v17, hx18, hF19⟩ := bind_some' hF7
    simp only [zf1, run_mv, run_call, put_at, put_no, ev_t, ev_c, reduceIte, Nat.reduceEqDiff, List.map_cons, List.map_nil]
    refine call1 rfl (mapM1 (SlF.snap hv10 hS16 rfl (fun _ => rfl) (fun _ => rfl)) (mapM1 snap_int mapM0)) (spec_OnObject_x (fun b hb => decide_eq_true hb) v5 v_1 v17 hx18) ?_
    obtain ⟨v20, hx21, hF22⟩ := bind_some' hF19
    simp only [run_mv, run_ext, put1_some, xext_0, xext_1, run_ops_nil, x3_19, run_seq, run_reg, zf0, run_call, put_at, put_no, ev_t, ev_c, reduceIte, Nat.reduceEqDiff,
        List.map_cons, List.map_nil]
    refine call2 rfl hS16 (mapM1 snap_lst mapM0) (laws_toCallS_x (fun b hb => decide_eq_true hb) k v_0 v20 hx21) ?_
    rintro v23 h27 ⟨_, c24, rfl, hv25, hS28⟩
    refine ⟨_, free_1 (SlF.free1 hv25), hS28, (pf_app (SlF.pf hv25 (fun _ => rfl)) pf_nil), fun h29 hS30 => ?_⟩
    have hS31 : Sep h29 h.length (c24 ++ (c9 ++ ([]))) := by simpa only [List.append_assoc, List.nil_append] using hS30
    obtain ⟨v32, hx33, hF34⟩ := bind_some' hF22
    simp only [run_mv, run_ops_nil, x3_18, run_seq, run_reg, zf1, run_call, put_at, put_no, ev_t, ev_c, reduceIte, Nat.reduceEqDiff, List.map_cons, List.map_nil]
    refine call2 rfl hS31 (mapM1 (SlF.snap hv25 hS31 rfl (fun _ => rfl) (fun _ => rfl)) (mapM1 snap_int mapM0)) (impl_OnObject_x
        (fun b hb => decide_eq_true hb) k v20 v_1 v32 hx33) ?_
    rintro _ h39 ⟨v35, c36, rfl, hv37, hS40⟩
    refine ⟨_, free_t (all_c (free2_1 (SlF.free1 hv37)) (all_c rfl all_n)), hS40, (pf_app (SlF.pf hv37 (fun _ => rfl)) pf_nil), fun h41 hS42 => ?_⟩
    have hS43 : Sep h41 h.length (c36 ++ (c24 ++ (c9 ++ ([])))) := by simpa only [List.append_assoc, List.nil_append] using hS42
    obtain ⟨v44, hx45, hF46⟩ := bind_some' hF34
    simp only [run_mv, run_ext, put1_some, xext_0, xext_1, run_ops_nil, x3_17, run_seq, run_reg, run_call, put_at, put_no, ev_t, ev_c, reduceIte, Nat.reduceEqDiff, List.map_cons,
        List.map_nil]
    refine call1 rfl (mapM1 (SlF.snap hv37 hS43 rfl (fun _ => rfl) (fun _ => rfl)) (mapM1 snap_lst mapM0)) (laws_eqCallS_x
        (fun b hb => decide_eq_true hb) k v32.1 v17.1 v44 hx45) ?_
    simp only [run_un, put1_some, xnot, run_mv, put_at, put_no, ev_t, ev_c, reduceIte, Nat.reduceEqDiff, List.map_cons, List.map_nil]
    refine ops_j 4 (fun fr' h' => Sep h' h.length (c24 ++ (c36 ++ ([]))) ∧ fr' 44 = .bool ((!v44) ||
        (!(v32.2 == v17.2))) ∧ fr' 0 = lst Call.cells v_0 ∧ fr' 1 = .int .i64 v_1 ∧ fr' 6 = lst Call.cells v17.1 ∧ fr' 7 = .bool v17.2 ∧ fr' 8 = v23 ∧ fr' 9 = v35 ∧ fr' 10 = .bool v32.2)
        (fun Q47 hN48 => ?_) ?_
    · simp only [List.take_succ_cons, List.take_zero]
      simp only [run_guard (g := 40), put_at, put_no, ev_t, ev_c, reduceIte, Nat.reduceEqDiff, List.map_cons, List.map_nil]
      refine guard_split (t := (!v44)) (fun hg49 => ?_) (fun hg49 => ?_)
      · simp only [hg49, run_guard (g := 40), guard_off', run_pick, put1_some, xpick_t, run_ops_nil, run_nil, put_at, put_no, ev_t, ev_c, reduceIte, Nat.reduceEqDiff,
          List.map_cons, List.map_nil]
        exact hN48 _ _ ⟨(Sep.m1 (Sep.dc (Sep.m2 hS43))), by rw [orT hg49]; simp only [put_at, put_no, ev_t, ev_c, reduceIte, Nat.reduceEqDiff, List.map_cons, List.map_nil],
            by simp only [zf0, put_at, put_no, ev_t, ev_c, reduceIte, Nat.reduceEqDiff, List.map_cons, List.map_nil], by simp only [zf1, put_at, put_no, ev_t, ev_c, reduceIte,
            Nat.reduceEqDiff, List.map_cons, List.map_nil], by simp only [put_at, put_no, ev_t, ev_c, reduceIte, Nat.reduceEqDiff, List.map_cons, List.map_nil],
            by simp only [put_at, put_no, ev_t, ev_c, reduceIte, Nat.reduceEqDiff, List.map_cons, List.map_nil], by simp only [put_at, put_no, ev_t, ev_c, reduceIte,
            Nat.reduceEqDiff, List.map_cons, List.map_nil], by simp only [put_at, put_no, ev_t, ev_c, reduceIte, Nat.reduceEqDiff, List.map_cons, List.map_nil],
            by simp only [put_at, put_no, ev_t, ev_c, reduceIte, Nat.reduceEqDiff, List.map_cons, List.map_nil]⟩
      · simp only [hg49, run_guard (g := 40), guard_false, run_mv, run_eqb, put1_some, xeqb_t, run_pick, xpick_f, run_ops_nil, run_nil, put_at, put_no, ev_t, ev_c, reduceIte,
          Nat.reduceEqDiff, List.map_cons, List.map_nil]
        exact hN48 _ _ ⟨(Sep.m1 (Sep.dc (Sep.m2 hS43))), by rw [orF hg49]; simp only [put_at, put_no, ev_t, ev_c, reduceIte, Nat.reduceEqDiff, List.map_cons, List.map_nil],
            by simp only [zf0, put_at, put_no, ev_t, ev_c, reduceIte, Nat.reduceEqDiff, List.map_cons, List.map_nil], by simp only [zf1, put_at, put_no, ev_t, ev_c, reduceIte,
            Nat.reduceEqDiff, List.map_cons, List.map_nil], by simp only [put_at, put_no, ev_t, ev_c, reduceIte, Nat.reduceEqDiff, List.map_cons, List.map_nil],
            by simp only [put_at, put_no, ev_t, ev_c, reduceIte, Nat.reduceEqDiff, List.map_cons, List.map_nil], by simp only [put_at, put_no, ev_t, ev_c, reduceIte,
            Nat.reduceEqDiff, List.map_cons, List.map_nil], by simp only [put_at, put_no, ev_t, ev_c, reduceIte, Nat.reduceEqDiff, List.map_cons, List.map_nil],
            by simp only [put_at, put_no, ev_t, ev_c, reduceIte, Nat.reduceEqDiff, List.map_cons, List.map_nil]⟩
    · rintro fr50 h59 ⟨hS60, f51, f52, f53, f54, f55, f56, f57, f58⟩
      simp only [List.drop_succ_cons, List.drop_zero]
      simp only [run_ops_nil, f51, run_cond, put_at, put_no, ev_t, ev_c, reduceIte, Nat.reduceEqDiff, List.map_cons, List.map_nil]
      refine cond_split (t := ((!v44) || (!(v32.2 == v17.2)))) (fun hc61 => ?_) (fun hc61 => ?_)
      · rw [iteT hc61] at hF46
        simp only [run_seq, run_reg, run_mv, run_ops_nil, run_ret, put_at, put_no, ev_t, ev_c, reduceIte, Nat.reduceEqDiff, List.map_cons, List.map_nil]
        have he := some_inj hF46
        subst he
        simp only [end_ret1, put_at, put_no, ev_t, ev_c, reduceIte, Nat.reduceEqDiff, List.map_cons, List.map_nil]
        exact rfl
      · rw [iteF hc61] at hF46
        obtain ⟨v62, hx63, hF64⟩ := bind_some' hF46
        simp only [run_skip, x3_16, run_seq, run_reg, f56, run_mv, f52, run_call, put_at, put_no, ev_t, ev_c, reduceIte, Nat.reduceEqDiff, List.map_cons, List.map_nil]
        refine call2 rfl hS60 (mapM1 snap_lst mapM0) (laws_toCallS_x (fun b hb => decide_eq_true hb) k v_0 v62 hx63) ?_
        rintro v65 h69 ⟨_, c66, rfl, hv67, hS70⟩
        refine ⟨_, free_1 (SlF.free1 hv67), hS70, (pf_app (SlF.pf hv67 (fun _ => rfl)) pf_nil), fun h71 hS72 => ?_⟩
        have hS73 : Sep h71 h.length (c66 ++ (c24 ++ (c36 ++ ([])))) := by simpa only [List.append_assoc, List.nil_append] using hS72
        obtain ⟨v74, hx75, hF76⟩ := bind_some' hF64
        simp only [run_call, put_at, put_no, ev_t, ev_c, reduceIte, Nat.reduceEqDiff, List.map_cons, List.map_nil]
        refine call1 rfl (mapM1 (SlF.snap hv25 (Sep.m1 hS73) rfl (fun _ => rfl) (fun _ => rfl)) (mapM1 (SlF.snap hv67 hS73 rfl (fun _ => rfl) (fun _ => rfl)) mapM0))
            (laws_eqCallS_x (fun b hb => decide_eq_true hb) k v20 v62 v74 hx75) ?_
        simp only [run_un, put1_some, xnot, run_ops_nil, run_cond, put_at, put_no, ev_t, ev_c, reduceIte, Nat.reduceEqDiff, List.map_cons, List.map_nil]
        refine cond_split (t := (!v74)) (fun hc77 => ?_) (fun hc77 => ?_)
        · rw [iteT hc77] at hF76
          simp only [run_seq, run_reg, run_mv, run_ops_nil, run_ret, put_at, put_no, ev_t, ev_c, reduceIte, Nat.reduceEqDiff, List.map_cons, List.map_nil]
          have he := some_inj hF76
          subst he
          simp only [end_ret1, put_at, put_no, ev_t, ev_c, reduceIte, Nat.reduceEqDiff, List.map_cons, List.map_nil]
          exact rfl
        · rw [iteF hc77] at hF76
          obtain ⟨v78, hx79, hF80⟩ := bind_some' hF76
          simp only [run_skip, x3_15, run_seq, run_reg, run_mv, run_ops_nil, x3_14, f56, run_call, put_at, put_no, ev_t, ev_c, reduceIte, Nat.reduceEqDiff, List.map_cons,
              List.map_nil]
          refine call0 rfl (laws_markCallS_x hW k v23 c24 v20 hv25 1 v78 hx79 (Sep.m1 hS73)) ?_
          rintro _ h83 ⟨c81, rfl, hv82, hS84⟩
          simp only [run_mv, run_ops_nil, x3_13, run_seq, run_reg, run_bin, put1_some, xlss, put_at, put_no, ev_t, ev_c, reduceIte, Nat.reduceEqDiff, List.map_cons, List.map_nil]
          obtain ⟨v88, hx89, hF90⟩ := bind_some' hF80
          refine ops_j 5 (fun fr' h' => Sep h' h.length (c36 ++
              ([])) ∧ fr' 60 = .bool v88 ∧ fr' 0 = lst Call.cells v_0 ∧ fr' 1 = .int .i64 v_1 ∧ fr' 6 = lst Call.cells v17.1 ∧ fr' 7 = .bool v17.2 ∧ fr' 9 = v35 ∧ fr' 10 = .bool v32.2)
              (fun Q85 hN86 => ?_) ?_
          · simp only [List.take_succ_cons, List.take_zero]
            simp only [run_guard (g := 55), put_at, put_no, ev_t, ev_c, reduceIte, Nat.reduceEqDiff, List.map_cons, List.map_nil]
            refine guard_split (t := (decide (v78.1 < 0))) (fun hg87 => ?_) (fun hg87 => ?_)
            · rw [iteT hg87] at hx89
              simp only [hg87, run_guard (g := 55), guard_off', run_pick, put1_some, xpick_t, run_ops_nil, run_nil, put_at, put_no, ev_t, ev_c, reduceIte, Nat.reduceEqDiff,
                  List.map_cons, List.map_nil]
              have e91 := some_inj hx89
              exact hN86 _ _ ⟨(Sep.dc ((Sep.dc (hS84)))), by rw [← e91]; simp only [put_at, put_no, ev_t, ev_c, reduceIte, Nat.reduceEqDiff, List.map_cons, List.map_nil],
                  by simp only [f52, put_at, put_no, ev_t, ev_c, reduceIte, Nat.reduceEqDiff, List.map_cons, List.map_nil], by simp only [f53, put_at, put_no, ev_t, ev_c,
                  reduceIte, Nat.reduceEqDiff, List.map_cons, List.map_nil], by simp only [f54, put_at, put_no, ev_t, ev_c, reduceIte, Nat.reduceEqDiff, List.map_cons,
                  List.map_nil], by simp only [f55, put_at, put_no, ev_t, ev_c, reduceIte, Nat.reduceEqDiff, List.map_cons, List.map_nil], by simp only [f57, put_at, put_no, ev_t,
                  ev_c, reduceIte, Nat.reduceEqDiff, List.map_cons, List.map_nil], by simp only [f58, put_at, put_no, ev_t, ev_c, reduceIte, Nat.reduceEqDiff, List.map_cons,
                  List.map_nil]⟩
            · rw [iteF hg87] at hx89
              obtain ⟨v92, hx93, hF94⟩ := bind_some' hx89
              simp only [hg87, run_guard (g := 55), guard_false, f57, run_mv, f54, run_call, put_at, put_no, ev_t, ev_c, reduceIte, Nat.reduceEqDiff, List.map_cons, List.map_nil]
              refine call1 rfl (mapM1 (SlF.snap hv37 (Sep.m2 hS84) rfl (fun _ => rfl) (fun _ => rfl)) (mapM1 snap_lst mapM0)) (laws_eqCallS_x
                  (fun b hb => decide_eq_true hb) k v32.1 v17.1 v92 hx93) ?_
              simp only [hg87, run_guard (g := 55), guard_false, run_un, put1_some, xnot, run_pick, xpick_f, run_ops_nil, run_nil, put_at, put_no, ev_t, ev_c, reduceIte,
                  Nat.reduceEqDiff, List.map_cons, List.map_nil]
              have e95 := some_inj hF94
              exact hN86 _ _ ⟨(Sep.dc ((Sep.dc (hS84)))), by rw [← e95]; simp only [put_at, put_no, ev_t, ev_c, reduceIte, Nat.reduceEqDiff, List.map_cons, List.map_nil],
                  by simp only [f52, put_at, put_no, ev_t, ev_c, reduceIte, Nat.reduceEqDiff, List.map_cons, List.map_nil], by simp only [f53, put_at, put_no, ev_t, ev_c,
                  reduceIte, Nat.reduceEqDiff, List.map_cons, List.map_nil], by simp only [f54, put_at, put_no, ev_t, ev_c, reduceIte, Nat.reduceEqDiff, List.map_cons,
                  List.map_nil], by simp only [f55, put_at, put_no, ev_t, ev_c, reduceIte, Nat.reduceEqDiff, List.map_cons, List.map_nil], by simp only [f57, put_at, put_no, ev_t,
                  ev_c, reduceIte, Nat.reduceEqDiff, List.map_cons, List.map_nil], by simp only [f58, put_at, put_no, ev_t, ev_c, reduceIte, Nat.reduceEqDiff, List.map_cons,
                  List.map_nil]⟩
          · rintro fr96 h104 ⟨hS105, f97, f98, f99, f100, f101, f102, f103⟩
            simp only [List.drop_succ_cons, List.drop_zero]
            simp only [f97, run_mv, put_at, put_no, ev_t, ev_c, reduceIte, Nat.reduceEqDiff, List.map_cons, List.map_nil]
            refine ops_j 4 (fun fr' h' => Sep h' h.length (c36 ++ ([])) ∧ fr' 65 = .bool (v88 ||
                (!(v32.2 == v17.2))) ∧ fr' 0 = lst Call.cells v_0 ∧ fr' 1 = .int .i64 v_1 ∧ fr' 6 = lst Call.cells v17.1 ∧ fr' 7 = .bool v17.2 ∧ fr' 9 = v35)
                (fun Q106 hN107 => ?_) ?_
            · simp only [List.take_succ_cons, List.take_zero]
              simp only [run_guard (g := 61), put_at, put_no, ev_t, ev_c, reduceIte, Nat.reduceEqDiff, List.map_cons, List.map_nil]
              refine guard_split (t := v88) (fun hg108 => ?_) (fun hg108 => ?_)
              · simp only [hg108, run_guard (g := 61), guard_off', run_pick, put1_some, xpick_t, run_ops_nil, run_nil, put_at, put_no, ev_t, ev_c, reduceIte, Nat.reduceEqDiff,
                  List.map_cons, List.map_nil]
                exact hN107 _ _ ⟨hS105, by rw [orT hg108]; simp only [put_at, put_no, ev_t, ev_c, reduceIte, Nat.reduceEqDiff, List.map_cons, List.map_nil], by simp only [f98,
                    put_at, put_no, ev_t, ev_c, reduceIte, Nat.reduceEqDiff, List.map_cons, List.map_nil], by simp only [f99, put_at, put_no, ev_t, ev_c, reduceIte,
                    Nat.reduceEqDiff, List.map_cons, List.map_nil], by simp only [f100, put_at, put_no, ev_t, ev_c, reduceIte, Nat.reduceEqDiff, List.map_cons, List.map_nil],
                    by simp only [f101, put_at, put_no, ev_t, ev_c, reduceIte, Nat.reduceEqDiff, List.map_cons, List.map_nil], by simp only [f102, put_at, put_no, ev_t, ev_c,
                    reduceIte, Nat.reduceEqDiff, List.map_cons, List.map_nil]⟩
              · simp only [hg108, run_guard (g := 61), guard_false, f103, run_mv, f101, run_eqb, put1_some, xeqb_t, run_pick, xpick_f, run_ops_nil, run_nil, put_at, put_no, ev_t,
                  ev_c, reduceIte, Nat.reduceEqDiff, List.map_cons, List.map_nil]
                exact hN107 _ _ ⟨hS105, by rw [orF hg108]; simp only [put_at, put_no, ev_t, ev_c, reduceIte, Nat.reduceEqDiff, List.map_cons, List.map_nil], by simp only [f98,
                    put_at, put_no, ev_t, ev_c, reduceIte, Nat.reduceEqDiff, List.map_cons, List.map_nil], by simp only [f99, put_at, put_no, ev_t, ev_c, reduceIte,
                    Nat.reduceEqDiff, List.map_cons, List.map_nil], by simp only [f100, put_at, put_no, ev_t, ev_c, reduceIte, Nat.reduceEqDiff, List.map_cons, List.map_nil],
                    by simp only [f101, put_at, put_no, ev_t, ev_c, reduceIte, Nat.reduceEqDiff, List.map_cons, List.map_nil], by simp only [f102, put_at, put_no, ev_t, ev_c,
                    reduceIte, Nat.reduceEqDiff, List.map_cons, List.map_nil]⟩
            · rintro fr109 h116 ⟨hS117, f110, f111, f112, f113, f114, f115⟩
              simp only [List.drop_succ_cons, List.drop_zero]
              simp only [run_ops_nil, f110, run_cond, put_at, put_no, ev_t, ev_c, reduceIte, Nat.reduceEqDiff, List.map_cons, List.map_nil]
              refine cond_split (t := (v88 || (!(v32.2 == v17.2)))) (fun hc118 => ?_) (fun hc118 => ?_)
              · rw [iteT hc118] at hF90
                simp only [run_seq, run_reg, run_mv, run_ops_nil, run_ret, put_at, put_no, ev_t, ev_c, reduceIte, Nat.reduceEqDiff, List.map_cons, List.map_nil]
                have he := some_inj hF90
                subst he
                simp only [end_ret1, put_at, put_no, ev_t, ev_c, reduceIte, Nat.reduceEqDiff, List.map_cons, List.map_nil]
                exact rfl
              · rw [iteF hc118] at hF90
                obtain ⟨v119, hx120, hF121⟩ := bind_some' hF90
                simp only [run_skip, x3_12, run_seq, run_reg, run_mv, run_ops_nil, x3_11, f115, run_call, put_at, put_no, ev_t, ev_c, reduceIte, Nat.reduceEqDiff, List.map_cons,
                    List.map_nil]
                refine call0 rfl (laws_markCallS_x hW k v35 c36 v32.1 hv37 1 v119 hx120 hS117) ?_
                rintro _ h124 ⟨c122, rfl, hv123, hS125⟩
                obtain ⟨v126, hx127, hF128⟩ := bind_some' hF121
                simp only [run_mv, run_ops_nil, x3_10, run_seq, run_reg, x3_9, f115, run_call, put_at, put_no, ev_t, ev_c, reduceIte, Nat.reduceEqDiff, List.map_cons, List.map_nil]
                refine call1 rfl (mapM1 (SlF.snap hv123 hS125 rfl (fun _ => rfl) (fun _ => rfl)) (mapM1 snap_int mapM0)) (laws_heldCallS_x
                    (fun b hb => decide_eq_true hb) k v119.2 1 v126 hx127) ?_
                simp only [run_mv, run_ops_nil, x3_8, run_seq, run_reg, run_bin, put1_some, xlss, run_cond, put_at, put_no, ev_t, ev_c, reduceIte, Nat.reduceEqDiff, List.map_cons,
                    List.map_nil]
                refine cond_split (t := (decide (v126 < 0))) (fun hc129 => ?_) (fun hc129 => ?_)
                · rw [iteT hc129] at hF128
                  simp only [run_seq, run_reg, run_mv, run_ops_nil, run_ret, put_at, put_no, ev_t, ev_c, reduceIte, Nat.reduceEqDiff, List.map_cons, List.map_nil]
                  have he := some_inj hF128
                  subst he
                  simp only [end_ret1, put_at, put_no, ev_t, ev_c, reduceIte, Nat.reduceEqDiff, List.map_cons, List.map_nil]
                  exact rfl
                · rw [iteF hc129] at hF128
                  simp only [run_skip, x3_7, run_seq, run_reg, run_mv, run_bin, put1_some, xneq, run_ops_nil, run_cond, put_at, put_no, ev_t, ev_c, reduceIte, Nat.reduceEqDiff,
                      List.map_cons, List.map_nil]
                  refine cond_split (t := (decide (v126 ≠ v119.1))) (fun hc130 => ?_) (fun hc130 => ?_)
                  · rw [iteT hc130] at hF128
                    simp only [run_seq, run_reg, run_mv, run_ops_nil, run_ret, put_at, put_no, ev_t, ev_c, reduceIte, Nat.reduceEqDiff, List.map_cons, List.map_nil]
                    have he := some_inj hF128
                    subst he
                    simp only [end_ret1, put_at, put_no, ev_t, ev_c, reduceIte, Nat.reduceEqDiff, List.map_cons, List.map_nil]
                    exact rfl
                  · rw [iteF hc130] at hF128
                    obtain ⟨v131, hx132, hF133⟩ := bind_some' hF128
                    simp only [run_skip, x3_6, run_seq, run_reg, f111, run_mv, run_call, put_at, put_no, ev_t, ev_c, reduceIte, Nat.reduceEqDiff, List.map_cons, List.map_nil]
                    refine call2 rfl hS125 (mapM1 snap_lst mapM0) (laws_toCallS_x (fun b hb => decide_eq_true hb) k v_0 v131 hx132) ?_
                    rintro v134 h138 ⟨_, c135, rfl, hv136, hS139⟩
                    refine ⟨_, free_1 (SlF.free1 hv136), hS139, (pf_app (SlF.pf hv136 (fun _ => rfl)) pf_nil), fun h140 hS141 => ?_⟩
                    have hS142 : Sep h140 h.length (c135 ++ (c122 ++ ([]))) := by simpa only [List.append_assoc, List.nil_append] using hS141
                    obtain ⟨v143, hx144, hF145⟩ := bind_some' hF133
                    simp only [f112, run_mv, run_call, put_at, put_no, ev_t, ev_c, reduceIte, Nat.reduceEqDiff, List.map_cons, List.map_nil]
                    refine call2 rfl hS142 (mapM1 (SlF.snap hv136 hS142 rfl (fun _ => rfl) (fun _ => rfl)) (mapM1 snap_int mapM0)) (impl_OnObject_x
                        (fun b hb => decide_eq_true hb) k v131 v_1 v143 hx144) ?_
                    rintro _ h150 ⟨v146, c147, rfl, hv148, hS151⟩
                    refine ⟨_, free_t (all_c (free2_1 (SlF.free1 hv148)) (all_c rfl all_n)), hS151, (pf_app (SlF.pf hv148 (fun _ => rfl)) pf_nil), fun h152 hS153 => ?_⟩
                    have hS154 : Sep h152 h.length (c147 ++ (c135 ++ (c122 ++ ([])))) := by simpa only [List.append_assoc, List.nil_append] using hS153
                    obtain ⟨v155, hx156, hF157⟩ := bind_some' hF145
                    simp only [run_mv, run_ext, put1_some, xext_0, xext_1, run_ops_nil, x3_5, run_seq, run_reg, f113, run_call, put_at, put_no, ev_t, ev_c, reduceIte,
                        Nat.reduceEqDiff, List.map_cons, List.map_nil]
                    refine call1 rfl (mapM1 (SlF.snap hv148 hS154 rfl (fun _ => rfl) (fun _ => rfl)) (mapM1 snap_lst mapM0)) (laws_eqCallS_x
                        (fun b hb => decide_eq_true hb) k v143.1 v17.1 v155 hx156) ?_
                    simp only [run_un, put1_some, xnot, run_mv, put_at, put_no, ev_t, ev_c, reduceIte, Nat.reduceEqDiff, List.map_cons, List.map_nil]
                    refine ops_j 4 (fun fr' h' => Sep h' h.length (c122 ++ ([])) ∧ fr' 92 = .bool ((!v155) || (!(v143.2 == v17.2))) ∧ fr' 9 = v35 ∧ fr' 12 = .int .i64 v119.1)
                        (fun Q158 hN159 => ?_) ?_
                    · simp only [List.take_succ_cons, List.take_zero]
                      simp only [run_guard (g := 88), put_at, put_no, ev_t, ev_c, reduceIte, Nat.reduceEqDiff, List.map_cons, List.map_nil]
                      refine guard_split (t := (!v155)) (fun hg160 => ?_) (fun hg160 => ?_)
                      · simp only [hg160, run_guard (g := 88), guard_off', run_pick, put1_some, xpick_t, run_ops_nil, run_nil, put_at, put_no, ev_t, ev_c, reduceIte,
                          Nat.reduceEqDiff, List.map_cons, List.map_nil]
                        exact hN159 _ _ ⟨(Sep.dc ((Sep.dc (hS154)))), by rw [orT hg160]; simp only [put_at, put_no, ev_t, ev_c, reduceIte, Nat.reduceEqDiff, List.map_cons,
                            List.map_nil], by simp only [f115, put_at, put_no, ev_t, ev_c, reduceIte, Nat.reduceEqDiff, List.map_cons, List.map_nil], by simp only [put_at, put_no,
                            ev_t, ev_c, reduceIte, Nat.reduceEqDiff, List.map_cons, List.map_nil]⟩
                      · simp only [hg160, run_guard (g := 88), guard_false, run_mv, f114, run_eqb, put1_some, xeqb_t, run_pick, xpick_f, run_ops_nil, run_nil, put_at, put_no,
                          ev_t, ev_c, reduceIte, Nat.reduceEqDiff, List.map_cons, List.map_nil]
                        exact hN159 _ _ ⟨(Sep.dc ((Sep.dc (hS154)))), by rw [orF hg160]; simp only [put_at, put_no, ev_t, ev_c, reduceIte, Nat.reduceEqDiff, List.map_cons,
                            List.map_nil], by simp only [f115, put_at, put_no, ev_t, ev_c, reduceIte, Nat.reduceEqDiff, List.map_cons, List.map_nil], by simp only [put_at, put_no,
                            ev_t, ev_c, reduceIte, Nat.reduceEqDiff, List.map_cons, List.map_nil]⟩
                    · rintro fr161 h165 ⟨hS166, f162, f163, f164⟩
                      simp only [List.drop_succ_cons, List.drop_zero]
                      simp only [run_ops_nil, f162, run_cond, put_at, put_no, ev_t, ev_c, reduceIte, Nat.reduceEqDiff, List.map_cons, List.map_nil]
                      refine cond_split (t := ((!v155) || (!(v143.2 == v17.2)))) (fun hc167 => ?_) (fun hc167 => ?_)
                      · rw [iteT hc167] at hF157
                        simp only [run_seq, run_reg, run_mv, run_ops_nil, run_ret, put_at, put_no, ev_t, ev_c, reduceIte, Nat.reduceEqDiff, List.map_cons, List.map_nil]
                        have he := some_inj hF157
                        subst he
                        simp only [end_ret1, put_at, put_no, ev_t, ev_c, reduceIte, Nat.reduceEqDiff, List.map_cons, List.map_nil]
                        exact rfl
                      · rw [iteF hc167] at hF157
                        obtain ⟨v168, hx169, hF170⟩ := bind_some' hF157
                        simp only [run_skip, x3_4, run_seq, run_reg, run_mv, run_ops_nil, x3_3, f163, run_call, put_at, put_no, ev_t, ev_c, reduceIte, Nat.reduceEqDiff,
                            List.map_cons, List.map_nil]
                        refine call1 rfl (mapM1 (SlF.snap hv123 hS166 rfl (fun _ => rfl) (fun _ => rfl)) (mapM1 snap_int mapM0)) (laws_heldCallS_x
                            (fun b hb => decide_eq_true hb) k v119.2 1 v168 hx169) ?_
                        simp only [run_mv, run_ops_nil, x3_2, run_seq, run_reg, run_bin, put1_some, xlss, run_cond, put_at, put_no, ev_t, ev_c, reduceIte, Nat.reduceEqDiff,
                            List.map_cons, List.map_nil]
                        refine cond_split (t := (decide (v168 < 0))) (fun hc171 => ?_) (fun hc171 => ?_)
                        · rw [iteT hc171] at hF170
                          simp only [run_seq, run_reg, run_mv, run_ops_nil, run_ret, put_at, put_no, ev_t, ev_c, reduceIte, Nat.reduceEqDiff, List.map_cons, List.map_nil]
                          have he := some_inj hF170
                          subst he
                          simp only [end_ret1, put_at, put_no, ev_t, ev_c, reduceIte, Nat.reduceEqDiff, List.map_cons, List.map_nil]
                          exact rfl
                        · rw [iteF hc171] at hF170
                          simp only [run_skip, x3_1, run_seq, run_reg, run_mv, f164, run_bin, put1_some, xneq, run_ops_nil, run_cond, put_at, put_no, ev_t, ev_c, reduceIte,
                              Nat.reduceEqDiff, List.map_cons, List.map_nil]
                          refine cond_split (t := (decide (v168 ≠ v119.1))) (fun hc172 => ?_) (fun hc172 => ?_)
                          · rw [iteT hc172] at hF170
                            simp only [run_seq, run_reg, run_mv, run_ops_nil, run_ret, put_at, put_no, ev_t, ev_c, reduceIte, Nat.reduceEqDiff, List.map_cons, List.map_nil]
                            have he := some_inj hF170
                            subst he
                            simp only [end_ret1, put_at, put_no, ev_t, ev_c, reduceIte, Nat.reduceEqDiff, List.map_cons, List.map_nil]
                            exact rfl
                          · rw [iteF hc172] at hF170
                            simp only [run_skip, run_seq, run_reg, run_mv, run_ops_nil, run_ret, put_at, put_no, ev_t, ev_c, reduceIte, Nat.reduceEqDiff, List.map_cons,
                                List.map_nil]
                            have he := some_inj hF170
                            subst he
                            simp only [end_ret1, put_at, put_no, ev_t, ev_c, reduceIte, Nat.reduceEqDiff, List.map_cons, List.map_nil]
                            exact rfl
end Go.Proofs.Ytddkoiapboeemaa.X
