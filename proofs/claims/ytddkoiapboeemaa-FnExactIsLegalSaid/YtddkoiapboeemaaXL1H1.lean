/- The functions' code comes to what the plain functions say (1). -/
import Derived.Test.YtddkoiapboeemaaXL1F
import Derived.Test.YtddkoiapboeemaaXL1D
set_option linter.unusedVariables false
set_option linter.unusedSimpArgs false
set_option maxRecDepth 100000
namespace Go.Proofs.Ytddkoiapboeemaa.X
open Go
open Nat (reduceEqDiff)
theorem slices_Sort_int_x {W : Nat → Bool} {h : Heap} {lo : Nat → Prop} {S0 : List Obj} (hW : ∀ b,
    lo b → W b = true) (pv0 : XV) (pc0 : List Obj) (s_0 : List Int) (ph0 : SlF cI 1 3 pv0 s_0 pc0) (r : List Int) (hF : slices_Sort_int s_0 = some r) (hS : Sep h lo
    (pc0 ++ S0)) : Ret E W 70 [pv0] h (fun v h' => ∃ ic0, v = .tup [] ∧ SlF cI 1 3 pv0 r ic0 ∧ Sep h' lo (ic0 ++ S0)) := srt_x rfl rfl hW ph0 hF hS
theorem laws_szCallS_x {W : Nat → Bool} {h : Heap} (hW : ∀ b,
    (geL h.length) b → W b = true) (a_0 : List Call) (left_1 : Int) (r : Int) (hF : laws_szCallS a_0 left_1 = some r) : Ret E W 11 [lst Call.cells a_0,
    .int .i64 left_1] h (fun v h' => cut h.length h' E.sz false 9 v = some (.int .i64 r)) := by
  refine Ret.of (fn := x11) rfl (Run.of ?_)
  unfold laws_szCallS at hF
  have zf0 : argFr [lst Call.cells a_0, .int .i64 left_1] 0 = lst Call.cells a_0 := rfl
  have zf1 : argFr [lst Call.cells a_0, .int .i64 left_1] 1 = .int .i64 left_1 := rfl
  generalize argFr [lst Call.cells a_0, .int .i64 left_1] = fr0 at zf0 zf1 ⊢
  have hS : Sep h (geL h.length) [] := Sep.nil h
  simp only [x11, run_seq, run_reg, run_mv, run_ops_nil, x11_2, zf1, zf0, run_len, put1_some, xlen_lst, run_bin, xsub, x11_1, xlss, run_cond, B0, reduceIte, reduceEqDiff]
  refine cond_split (t := (decide ((IntKind.wrap .i64 (left_1 - (List.length a_0 : Int))) < 0))) (fun hc1 => ?_) (fun hc1 => ?_)
  · rw [iteT hc1] at hF
    simp only [run_seq, run_reg, run_mv, run_ops_nil, run_ret, B0, reduceIte, reduceEqDiff]
    have he := some_inj hF
    subst he
    simp only [end_ret1, B0, reduceIte, reduceEqDiff]
    exact rfl
  rw [iteF hc1] at hF
  simp only [run_skip, run_seq, run_reg, run_mv, run_ops_nil, run_ret, B0, reduceIte, reduceEqDiff]
  have he := some_inj hF
  subst he
  simp only [end_ret1, B0, reduceIte, reduceEqDiff]
  exact rfl
theorem laws_toCall_x {W : Nat → Bool} {h : Heap} (hW : ∀ b,
    (geL h.length) b → W b = true) (a_0 : Call) (r : Call) (hF : some (laws_toCall a_0) = some r) : Ret E W 42 [.agg [.int .i64 a_0.Client, .int .i64 a_0.Object, .bool a_0.Write,
    .int .i64 a_0.Value, .int .i64 a_0.Begin, .int .i64 a_0.End]] h (fun v h' => cut h.length h' E.sz false 9 v = some (.agg [.int .i64 r.Client, .int .i64 r.Object,
    .bool r.Write, .int .i64 r.Value, .int .i64 r.Begin, .int .i64 r.End])) := by
  refine Ret.of (fn := x42) rfl (Run.of ?_)
  unfold laws_toCall at hF
  have zf0 : argFr [.agg [.int .i64 a_0.Client, .int .i64 a_0.Object, .bool a_0.Write, .int .i64 a_0.Value, .int .i64 a_0.Begin,
      .int .i64 a_0.End]] 0 = .agg [.int .i64 a_0.Client, .int .i64 a_0.Object, .bool a_0.Write, .int .i64 a_0.Value, .int .i64 a_0.Begin, .int .i64 a_0.End] := rfl
  generalize argFr [.agg [.int .i64 a_0.Client, .int .i64 a_0.Object, .bool a_0.Write, .int .i64 a_0.Value, .int .i64 a_0.Begin, .int .i64 a_0.End]] = fr0 at zf0 ⊢
  have hS : Sep h (geL h.length) [] := Sep.nil h
  simp only [x42, run_seq, run_reg, run_box, zf0, B0, reduceIte, reduceEqDiff]
  refine put2_boxC (cs := [.int .i64 a_0.Client, .int .i64 a_0.Object, .bool a_0.Write, .int .i64 a_0.Value, .int .i64 a_0.Begin,
      .int .i64 a_0.End]) hS rfl rfl rfl (fun b1 h2 hS3 => ?_)
  simp only [run_new, B0, reduceIte, reduceEqDiff]
  refine put2_newC hS3 (fun b5 h6 hS7 => ?_)
  simp only [run_ops_nil, B0, reduceIte, reduceEqDiff]
  refine frz_stepC (Sep.m1 hS7) hW (by simp only [B0, reduceIte, reduceEqDiff]) (fun h9 hS10 => ?_)
  simp only [run_frz_nil, x42_7, run_seq, run_reg, run_new, B0, reduceIte, reduceEqDiff]
  refine put2_newC hS10 (fun b11 h12 hS13 => ?_)
  simp only [run_ops_nil, x42_6, run_seq, run_reg, run_fa, put1_some, Nat.reduceAdd, Nat.zero_add, Nat.add_zero, xfa_ref, run_ld, B0, reduceIte, reduceEqDiff]
  refine put1_eq (v := .int .i64 a_0.Client) rfl ?_
  simp only [run_fa, put1_some, Nat.reduceAdd, Nat.zero_add, Nat.add_zero, xfa_ptr, run_st, B0, reduceIte, reduceEqDiff]
  refine put2_stCx (us := [.int .i64 a_0.Client]) rfl (cs' := [.int .i64 a_0.Client, .int .i64 0, .bool false, .int .i64 0, .int .i64 0,
      .int .i64 0]) hS13 hW rfl rfl (nle rfl) rfl (fun h15 hS16 => ?_)
  simp only [run_ops_nil, x42_5, run_seq, run_reg, run_fa, put1_some, Nat.reduceAdd, Nat.zero_add, Nat.add_zero, xfa_ref, run_ld, B0, reduceIte, reduceEqDiff]
  refine put1_eq (v := .int .i64 a_0.Object) rfl ?_
  simp only [run_fa, put1_some, Nat.reduceAdd, Nat.zero_add, Nat.add_zero, xfa_ptr, run_st, B0, reduceIte, reduceEqDiff]
  refine put2_stCx (us := [.int .i64 a_0.Object]) rfl (cs' := [.int .i64 a_0.Client, .int .i64 a_0.Object, .bool false, .int .i64 0, .int .i64 0,
      .int .i64 0]) hS16 hW rfl rfl (nle rfl) rfl (fun h17 hS18 => ?_)
  simp only [run_ops_nil, x42_4, run_seq, run_reg, run_fa, put1_some, Nat.reduceAdd, Nat.zero_add, Nat.add_zero, xfa_ref, run_ld, B0, reduceIte, reduceEqDiff]
  refine put1_eq (v := .bool a_0.Write) rfl ?_
  simp only [run_fa, put1_some, Nat.reduceAdd, Nat.zero_add, Nat.add_zero, xfa_ptr, run_st, B0, reduceIte, reduceEqDiff]
  refine put2_stCx (us := [.bool a_0.Write]) rfl (cs' := [.int .i64 a_0.Client, .int .i64 a_0.Object, .bool a_0.Write, .int .i64 0, .int .i64 0,
      .int .i64 0]) hS18 hW rfl rfl (nle rfl) rfl (fun h19 hS20 => ?_)
  simp only [run_ops_nil, x42_3, run_seq, run_reg, run_fa, put1_some, Nat.reduceAdd, Nat.zero_add, Nat.add_zero, xfa_ref, run_ld, B0, reduceIte, reduceEqDiff]
  refine put1_eq (v := .int .i64 a_0.Value) rfl ?_
  simp only [run_fa, put1_some, Nat.reduceAdd, Nat.zero_add, Nat.add_zero, xfa_ptr, run_st, B0, reduceIte, reduceEqDiff]
  refine put2_stCx (us := [.int .i64 a_0.Value]) rfl (cs' := [.int .i64 a_0.Client, .int .i64 a_0.Object, .bool a_0.Write, .int .i64 a_0.Value, .int .i64 0,
      .int .i64 0]) hS20 hW rfl rfl (nle rfl) rfl (fun h21 hS22 => ?_)
  simp only [run_ops_nil, x42_2, run_seq, run_reg, run_fa, put1_some, Nat.reduceAdd, Nat.zero_add, Nat.add_zero, xfa_ref, run_ld, B0, reduceIte, reduceEqDiff]
  refine put1_eq (v := .int .i64 a_0.Begin) rfl ?_
  simp only [run_fa, put1_some, Nat.reduceAdd, Nat.zero_add, Nat.add_zero, xfa_ptr, run_st, B0, reduceIte, reduceEqDiff]
  refine put2_stCx (us := [.int .i64 a_0.Begin]) rfl (cs' := [.int .i64 a_0.Client, .int .i64 a_0.Object, .bool a_0.Write, .int .i64 a_0.Value, .int .i64 a_0.Begin,
      .int .i64 0]) hS22 hW rfl rfl (nle rfl) rfl (fun h23 hS24 => ?_)
  simp only [run_ops_nil, x42_1, run_seq, run_reg, run_fa, put1_some, Nat.reduceAdd, Nat.zero_add, Nat.add_zero, xfa_ref, run_ld, B0, reduceIte, reduceEqDiff]
  refine put1_eq (v := .int .i64 a_0.End) rfl ?_
  simp only [run_fa, put1_some, Nat.reduceAdd, Nat.zero_add, Nat.add_zero, xfa_ptr, run_st, B0, reduceIte, reduceEqDiff]
  refine put2_stCx (us := [.int .i64 a_0.End]) rfl (cs' := [.int .i64 a_0.Client, .int .i64 a_0.Object, .bool a_0.Write, .int .i64 a_0.Value, .int .i64 a_0.Begin,
      .int .i64 a_0.End]) hS24 hW rfl rfl (nle rfl) rfl (fun h25 hS26 => ?_)
  simp only [run_ops_nil, run_seq, run_reg, run_ld, B0, reduceIte, reduceEqDiff]
  refine put1_eq (v := .agg [.int .i64 a_0.Client, .int .i64 a_0.Object, .bool a_0.Write, .int .i64 a_0.Value, .int .i64 a_0.Begin,
      .int .i64 a_0.End]) ((xld_bs (Sep.bk _ _ _ hS26)).trans rfl) ?_
  simp only [run_st, B0, reduceIte, reduceEqDiff]
  refine put2_stCx (us := [.int .i64 a_0.Client, .int .i64 a_0.Object, .bool a_0.Write, .int .i64 a_0.Value, .int .i64 a_0.Begin,
      .int .i64 a_0.End]) rfl (cs' := [.int .i64 a_0.Client, .int .i64 a_0.Object, .bool a_0.Write, .int .i64 a_0.Value, .int .i64 a_0.Begin,
      .int .i64 a_0.End]) (Sep.m1 hS26) hW rfl rfl (nle rfl) rfl (fun h27 hS28 => ?_)
  simp only [run_ops_nil, run_ret, B0, reduceIte, reduceEqDiff]
  have he := some_inj hF
  subst he
  refine end_ret_cell (bb := b5) (oo := 0) (v := .agg [.int .i64 a_0.Client, .int .i64 a_0.Object, .bool a_0.Write, .int .i64 a_0.Value, .int .i64 a_0.Begin,
      .int .i64 a_0.End]) (by simp only [B0, reduceIte, reduceEqDiff]) ((xld_bs (Sep.bk _ _ _ hS28)).trans rfl) ?_
  exact (cut_agg (mapM1 rfl (mapM1 rfl (mapM1 rfl (mapM1 rfl (mapM1 rfl (mapM1 rfl mapM0)))))))
theorem laws_toCallS_x {W : Nat → Bool} {h : Heap} (hW : ∀ b,
    (geL h.length) b → W b = true) (k : Nat) (a_0 : List Call) (r : List Call) (hF : laws_toCallS k a_0 = some r) : Ret E W 13 [lst Call.cells a_0] h (fun v h' => ∃ rv0 rc0,
    v = rv0 ∧ SlF Call.cells 6 55 rv0 r rc0 ∧ Sep h' (geL h.length) (rc0 ++ ([]))) := by
  refine Ret.of (fn := x13) rfl (Run.of ?_)
  unfold laws_toCallS at hF
  have zf0 : argFr [lst Call.cells a_0] 0 = lst Call.cells a_0 := rfl
  generalize argFr [lst Call.cells a_0] = fr0 at zf0 ⊢
  have hS : Sep h (geL h.length) [] := Sep.nil h
  obtain ⟨l1, hx2, hF3⟩ := bind_some' hF
  simp only [x13, run_seq, run_reg, run_mv, run_ops_nil, x13_7, zf0, run_len, put1_some, xlen_lst, run_mkS, B0, reduceIte, reduceEqDiff]
  refine put2_mkSF (f := Call.cells) (z := (Call.mk (0 : Int) (0 : Int) false (0 : Int) (0 : Int) (0 : Int))) hS hx2 rfl (fun v4 c5 h6 hv7 hS8 => ?_)
  simp only [run_mv, run_ops_nil, x13_6, run_seq, run_reg, B0, reduceIte, reduceEqDiff]
  obtain ⟨oc20, hX22, hk23⟩ := jn_some hF3
  simp only [x13_5]
  refine loopF_j (σ := Int × (List Call)) (fun s55 => laws_toCallS_b1 a_0 s55.1 s55.2) (fun s fr' h' => ∃ c16,
      fr' 0 = lst Call.cells a_0 ∧ fr' 3 = v4 ∧ fr' 4 = .int .i64 s.1 ∧ SlF Call.cells 6 55 v4 s.2 c16 ∧ Sep h' (geL h.length) (c16 ++ ([]))) hX22 ⟨c5, zf0, rfl, rfl, hv7,
      hS8⟩ (fun _ _ _ h => h) ?_ ?_
  · rintro ⟨s14, s15⟩ fr32 h33 ⟨c16, f35, f36, f37, hv17, hS34⟩ oc21 hF24 hr25 Q26 hN27 hK28 hR29 hE30
    dsimp only at *
    unfold laws_toCallS_b1 at hF24
    simp only [x13_3, run_seq, run_reg, f37, run_mv, f35, run_len, put1_some, xlen_lst, run_bin, xlss, run_ops_nil, run_cond, B0, reduceIte, reduceEqDiff]
    refine cond_split (t := (decide (s14 < (List.length a_0 : Int)))) (fun hc39 => ?_) (fun hc39 => ?_)
    · rw [iteT hc39] at hF24
      obtain ⟨x40, hx41, hF42⟩ := bind_some' hF24
      simp only [run_skip, x13_2, run_seq, run_block, x13_1, run_reg, f36, run_mv, f37, f35, run_ia, B0, reduceIte, reduceEqDiff]
      refine put1_eq (v := .ref (Call.cells x40) 0) (xia_lst hx41 rfl) ?_
      simp only [run_ld, B0, reduceIte, reduceEqDiff]
      refine put1_eq (v := .agg [.int .i64 x40.Client, .int .i64 x40.Object, .bool x40.Write, .int .i64 x40.Value, .int .i64 x40.Begin, .int .i64 x40.End]) rfl ?_
      simp only [run_call, B0, reduceIte, reduceEqDiff]
      refine call1 rfl (mapM1 (snap_agg (mapM1 snap_int (mapM1 snap_int (mapM1 snap_bool (mapM1 snap_int (mapM1 snap_int (mapM1 snap_int mapM0))))))) mapM0) (laws_toCall_x
          (fun b hb => decide_eq_true hb) x40 _ rfl) ?_
      obtain ⟨x43, hx44, hF45⟩ := bind_some' hF42
      simp only [run_ia, B0, reduceIte, reduceEqDiff]
      obtain ⟨b46, hb47⟩ := SlF.isrow hv17 (geti_ne hx44)
      refine put1_eq (SlF.ia hv17 hb47 hx44) ?_
      simp only [run_st, B0, reduceIte, reduceEqDiff]
      refine put2_stF (f := Call.cells) (x' := (laws_toCall x40)) (o := 0) hv17 hS34 hW hb47 hx44 (fun _ => rfl) rfl rfl (nle rfl) rfl (fun c50 h48 hv51 hS49 => ?_)
      have hx52 := geti_set (x' := (laws_toCall x40)) hx44
      simp only [run_ops_nil, run_blk, run_reg, f37, run_mv, run_bin, put1_some, xadd, run_nil, B0, reduceIte, reduceEqDiff]
      have e53 := some_inj hF45
      exact hN27 _ _ _ e53.symm ⟨c50, f35, f36, rfl, hv51, hS49⟩
    rw [iteF hc39] at hF24
    simp only [run_exit, out_code, out_nil, B0, reduceIte, reduceEqDiff]
    have e54 := some_inj hF24
    exact hK28 _ _ _ e54.symm ⟨c16, f35, f36, f37, hv17, hS34⟩
  rintro ⟨s56, s57⟩ fr60 h61 rfl ⟨c58, f63, f64, f65, hv59, hS62⟩
  dsimp only [jnO] at hk23
  dsimp only at *
  unfold laws_toCallS_j1 at hk23
  simp only [run_seq, run_reg, f64, run_mv, run_ops_nil, run_ret, B0, reduceIte, reduceEqDiff]
  have he := some_inj hk23
  subst he
  simp only [end_ret1, B0, reduceIte, reduceEqDiff]
  exact ⟨v4, c58, by first | trivial | rfl, hv59, hS62⟩
theorem laws_eqCall_x {W : Nat → Bool} {h : Heap} (hW : ∀ b,
    (geL h.length) b → W b = true) (a_0 : Call) (b_1 : Call) (r : Bool) (hF : laws_eqCall a_0 b_1 = some r) : Ret E W 47 [.agg [.int .i64 a_0.Client, .int .i64 a_0.Object,
    .bool a_0.Write, .int .i64 a_0.Value, .int .i64 a_0.Begin, .int .i64 a_0.End], .agg [.int .i64 b_1.Client, .int .i64 b_1.Object, .bool b_1.Write, .int .i64 b_1.Value,
    .int .i64 b_1.Begin, .int .i64 b_1.End]] h (fun v h' => cut h.length h' E.sz false 9 v = some (.bool r)) := by
  refine Ret.of (fn := x47) rfl (Run.of ?_)
  unfold laws_eqCall at hF
  have zf0 : argFr [.agg [.int .i64 a_0.Client, .int .i64 a_0.Object, .bool a_0.Write, .int .i64 a_0.Value, .int .i64 a_0.Begin, .int .i64 a_0.End], .agg [.int .i64 b_1.Client,
      .int .i64 b_1.Object, .bool b_1.Write, .int .i64 b_1.Value, .int .i64 b_1.Begin, .int .i64 b_1.End]] 0 = .agg [.int .i64 a_0.Client, .int .i64 a_0.Object, .bool a_0.Write,
      .int .i64 a_0.Value, .int .i64 a_0.Begin, .int .i64 a_0.End] := rfl
  have zf1 : argFr [.agg [.int .i64 a_0.Client, .int .i64 a_0.Object, .bool a_0.Write, .int .i64 a_0.Value, .int .i64 a_0.Begin, .int .i64 a_0.End], .agg [.int .i64 b_1.Client,
      .int .i64 b_1.Object, .bool b_1.Write, .int .i64 b_1.Value, .int .i64 b_1.Begin, .int .i64 b_1.End]] 1 = .agg [.int .i64 b_1.Client, .int .i64 b_1.Object, .bool b_1.Write,
      .int .i64 b_1.Value, .int .i64 b_1.Begin, .int .i64 b_1.End] := rfl
  generalize argFr [.agg [.int .i64 a_0.Client, .int .i64 a_0.Object, .bool a_0.Write, .int .i64 a_0.Value, .int .i64 a_0.Begin, .int .i64 a_0.End], .agg [.int .i64 b_1.Client,
      .int .i64 b_1.Object, .bool b_1.Write, .int .i64 b_1.Value, .int .i64 b_1.Begin, .int .i64 b_1.End]] = fr0 at zf0 zf1 ⊢
  have hS : Sep h (geL h.length) [] := Sep.nil h
  simp only [x47, run_seq, run_reg, run_box, zf0, B0, reduceIte, reduceEqDiff]
  refine put2_boxC (cs := [.int .i64 a_0.Client, .int .i64 a_0.Object, .bool a_0.Write, .int .i64 a_0.Value, .int .i64 a_0.Begin,
      .int .i64 a_0.End]) hS rfl rfl rfl (fun b1 h2 hS3 => ?_)
  simp only [run_box, zf1, B0, reduceIte, reduceEqDiff]
  refine put2_boxC (cs := [.int .i64 b_1.Client, .int .i64 b_1.Object, .bool b_1.Write, .int .i64 b_1.Value, .int .i64 b_1.Begin,
      .int .i64 b_1.End]) hS3 rfl rfl rfl (fun b5 h6 hS7 => ?_)
  simp only [run_mv, run_ops_nil, B0, reduceIte, reduceEqDiff]
  refine frz_stepC (Sep.m1 hS7) hW (by simp only [B0, reduceIte, reduceEqDiff]) (fun h9 hS10 => ?_)
  refine frz_stepC hS10 hW (by simp only [B0, reduceIte, reduceEqDiff]) (fun h11 hS12 => ?_)
  simp only [run_frz_nil, x47_6, run_seq, run_reg, run_fa, put1_some, Nat.reduceAdd, Nat.zero_add, Nat.add_zero, xfa_ref, run_ld, B0, reduceIte, reduceEqDiff]
  refine put1_eq (v := .int .i64 a_0.Client) rfl ?_
  simp only [run_fa, put1_some, Nat.reduceAdd, Nat.zero_add, Nat.add_zero, xfa_ref, run_ld, B0, reduceIte, reduceEqDiff]
  refine put1_eq (v := .int .i64 b_1.Client) rfl ?_
  simp only [run_bin, put1_some, xneq, run_ops_nil, run_cond, B0, reduceIte, reduceEqDiff]
  refine cond_split (t := (decide (a_0.Client ≠ b_1.Client))) (fun hc13 => ?_) (fun hc13 => ?_)
  · rw [iteT hc13] at hF
    simp only [run_seq, run_reg, run_mv, run_ops_nil, run_ret, B0, reduceIte, reduceEqDiff]
    have he := some_inj hF
    subst he
    simp only [end_ret1, B0, reduceIte, reduceEqDiff]
    exact rfl
  rw [iteF hc13] at hF
  simp only [run_skip, x47_5, run_seq, run_reg, run_fa, put1_some, Nat.reduceAdd, Nat.zero_add, Nat.add_zero, xfa_ref, run_ld, B0, reduceIte, reduceEqDiff]
  refine put1_eq (v := .int .i64 a_0.Object) rfl ?_
  simp only [run_fa, put1_some, Nat.reduceAdd, Nat.zero_add, Nat.add_zero, xfa_ref, run_ld, B0, reduceIte, reduceEqDiff]
  refine put1_eq (v := .int .i64 b_1.Object) rfl ?_
  simp only [run_bin, put1_some, xneq, run_ops_nil, run_cond, B0, reduceIte, reduceEqDiff]
  refine cond_split (t := (decide (a_0.Object ≠ b_1.Object))) (fun hc14 => ?_) (fun hc14 => ?_)
  · rw [iteT hc14] at hF
    simp only [run_seq, run_reg, run_mv, run_ops_nil, run_ret, B0, reduceIte, reduceEqDiff]
    have he := some_inj hF
    subst he
    simp only [end_ret1, B0, reduceIte, reduceEqDiff]
    exact rfl
  rw [iteF hc14] at hF
  simp only [run_skip, x47_4, run_seq, run_reg, run_fa, put1_some, Nat.reduceAdd, Nat.zero_add, Nat.add_zero, xfa_ref, run_ld, B0, reduceIte, reduceEqDiff]
  refine put1_eq (v := .bool a_0.Write) rfl ?_
  simp only [run_fa, put1_some, Nat.reduceAdd, Nat.zero_add, Nat.add_zero, xfa_ref, run_ld, B0, reduceIte, reduceEqDiff]
  refine put1_eq (v := .bool b_1.Write) rfl ?_
  simp only [run_eqb, put1_some, xeqb_t, run_ops_nil, run_cond, B0, reduceIte, reduceEqDiff]
  refine cond_split (t := (!(a_0.Write == b_1.Write))) (fun hc15 => ?_) (fun hc15 => ?_)
  · rw [iteT hc15] at hF
    simp only [run_seq, run_reg, run_mv, run_ops_nil, run_ret, B0, reduceIte, reduceEqDiff]
    have he := some_inj hF
    subst he
    simp only [end_ret1, B0, reduceIte, reduceEqDiff]
    exact rfl
  rw [iteF hc15] at hF
  simp only [run_skip, x47_3, run_seq, run_reg, run_fa, put1_some, Nat.reduceAdd, Nat.zero_add, Nat.add_zero, xfa_ref, run_ld, B0, reduceIte, reduceEqDiff]
  refine put1_eq (v := .int .i64 a_0.Value) rfl ?_
  simp only [run_fa, put1_some, Nat.reduceAdd, Nat.zero_add, Nat.add_zero, xfa_ref, run_ld, B0, reduceIte, reduceEqDiff]
  refine put1_eq (v := .int .i64 b_1.Value) rfl ?_
  simp only [run_bin, put1_some, xneq, run_ops_nil, run_cond, B0, reduceIte, reduceEqDiff]
  refine cond_split (t := (decide (a_0.Value ≠ b_1.Value))) (fun hc16 => ?_) (fun hc16 => ?_)
  · rw [iteT hc16] at hF
    simp only [run_seq, run_reg, run_mv, run_ops_nil, run_ret, B0, reduceIte, reduceEqDiff]
    have he := some_inj hF
    subst he
    simp only [end_ret1, B0, reduceIte, reduceEqDiff]
    exact rfl
  rw [iteF hc16] at hF
  simp only [run_skip, x47_2, run_seq, run_reg, run_fa, put1_some, Nat.reduceAdd, Nat.zero_add, Nat.add_zero, xfa_ref, run_ld, B0, reduceIte, reduceEqDiff]
  refine put1_eq (v := .int .i64 a_0.Begin) rfl ?_
  simp only [run_fa, put1_some, Nat.reduceAdd, Nat.zero_add, Nat.add_zero, xfa_ref, run_ld, B0, reduceIte, reduceEqDiff]
  refine put1_eq (v := .int .i64 b_1.Begin) rfl ?_
  simp only [run_bin, put1_some, xneq, run_ops_nil, run_cond, B0, reduceIte, reduceEqDiff]
  refine cond_split (t := (decide (a_0.Begin ≠ b_1.Begin))) (fun hc17 => ?_) (fun hc17 => ?_)
  · rw [iteT hc17] at hF
    simp only [run_seq, run_reg, run_mv, run_ops_nil, run_ret, B0, reduceIte, reduceEqDiff]
    have he := some_inj hF
    subst he
    simp only [end_ret1, B0, reduceIte, reduceEqDiff]
    exact rfl
  rw [iteF hc17] at hF
  simp only [run_skip, x47_1, run_seq, run_reg, run_fa, put1_some, Nat.reduceAdd, Nat.zero_add, Nat.add_zero, xfa_ref, run_ld, B0, reduceIte, reduceEqDiff]
  refine put1_eq (v := .int .i64 a_0.End) rfl ?_
  simp only [run_fa, put1_some, Nat.reduceAdd, Nat.zero_add, Nat.add_zero, xfa_ref, run_ld, B0, reduceIte, reduceEqDiff]
  refine put1_eq (v := .int .i64 b_1.End) rfl ?_
  simp only [run_bin, put1_some, xneq, run_ops_nil, run_cond, B0, reduceIte, reduceEqDiff]
  refine cond_split (t := (decide (a_0.End ≠ b_1.End))) (fun hc18 => ?_) (fun hc18 => ?_)
  · rw [iteT hc18] at hF
    simp only [run_seq, run_reg, run_mv, run_ops_nil, run_ret, B0, reduceIte, reduceEqDiff]
    have he := some_inj hF
    subst he
    simp only [end_ret1, B0, reduceIte, reduceEqDiff]
    exact rfl
  rw [iteF hc18] at hF
  simp only [run_skip, run_seq, run_reg, run_mv, run_ops_nil, run_ret, B0, reduceIte, reduceEqDiff]
  have he := some_inj hF
  subst he
  simp only [end_ret1, B0, reduceIte, reduceEqDiff]
  exact rfl
theorem laws_eqCallS_x {W : Nat → Bool} {h : Heap} (hW : ∀ b,
    (geL h.length) b → W b = true) (k : Nat) (a_0 : List Call) (b_1 : List Call) (r : Bool) (hF : laws_eqCallS k a_0 b_1 = some r) : Ret E W 15 [lst Call.cells a_0,
    lst Call.cells b_1] h (fun v h' => cut h.length h' E.sz false 9 v = some (.bool r)) := by
  refine Ret.of (fn := x15) rfl (Run.of ?_)
  unfold laws_eqCallS at hF
  have zf0 : argFr [lst Call.cells a_0, lst Call.cells b_1] 0 = lst Call.cells a_0 := rfl
  have zf1 : argFr [lst Call.cells a_0, lst Call.cells b_1] 1 = lst Call.cells b_1 := rfl
  generalize argFr [lst Call.cells a_0, lst Call.cells b_1] = fr0 at zf0 zf1 ⊢
  have hS : Sep h (geL h.length) [] := Sep.nil h
  simp only [x15, run_seq, run_reg, run_mv, run_ops_nil, x15_7, zf0, run_len, put1_some, xlen_lst, zf1, run_bin, xneq, run_cond, B0, reduceIte, reduceEqDiff]
  refine cond_split (t := (decide ((List.length a_0 : Int) ≠ (List.length b_1 : Int)))) (fun hc1 => ?_) (fun hc1 => ?_)
  · rw [iteT hc1] at hF
    simp only [run_seq, run_reg, run_mv, run_ops_nil, run_ret, B0, reduceIte, reduceEqDiff]
    have he := some_inj hF
    subst he
    simp only [end_ret1, B0, reduceIte, reduceEqDiff]
    exact rfl
  rw [iteF hc1] at hF
  simp only [run_skip, x15_6, run_seq, run_reg, run_mv, run_ops_nil, B0, reduceIte, reduceEqDiff]
  obtain ⟨oc6, hX8, hk9⟩ := jn_some hF
  simp only [x15_5]
  refine loopF_j (σ := Int) (fun s41 => laws_eqCallS_b1 a_0 b_1 s41) (fun s fr' h' => fr' 0 = lst Call.cells a_0 ∧ fr' 1 = lst Call.cells b_1 ∧ fr' 5 = .int .i64 s ∧ Sep h'
      (geL h.length) ([])) hX8 ⟨zf0, zf1, rfl, hS⟩ (fun _ _ _ h => h) ?_ ?_
  · rintro s3 fr18 h19 ⟨f21, f22, f23, hS20⟩ oc7 hF10 hr11 Q12 hN13 hK14 hR15 hE16
    unfold laws_eqCallS_b1 at hF10
    simp only [x15_3, run_seq, run_reg, f23, run_mv, f21, run_len, put1_some, xlen_lst, run_bin, xlss, run_ops_nil, run_cond, B0, reduceIte, reduceEqDiff]
    refine cond_split (t := (decide (s3 < (List.length a_0 : Int)))) (fun hc25 => ?_) (fun hc25 => ?_)
    · rw [iteT hc25] at hF10
      obtain ⟨x26, hx27, hF28⟩ := bind_some' hF10
      simp only [run_skip, x15_2, run_seq, run_block, x15_1, run_draw, f21, d4_mv, put1d_some, f23, d4_ia, B0, reduceIte, reduceEqDiff]
      refine put1d_eq (v := .ref (Call.cells x26) 0) (xia_lst hx27 rfl) ?_
      simp only [d4_ld, B0, reduceIte, reduceEqDiff]
      refine put1d_eq (v := .agg [.int .i64 x26.Client, .int .i64 x26.Object, .bool x26.Write, .int .i64 x26.Value, .int .i64 x26.Begin, .int .i64 x26.End]) rfl ?_
      obtain ⟨x29, hx30, hF31⟩ := bind_some' hF28
      simp only [f22, d4_mv, put1d_some, f23, d4_ia, B0, reduceIte, reduceEqDiff]
      refine put1d_eq (v := .ref (Call.cells x29) 0) (xia_lst hx30 rfl) ?_
      simp only [d4_ld, B0, reduceIte, reduceEqDiff]
      refine put1d_eq (v := .agg [.int .i64 x29.Client, .int .i64 x29.Object, .bool x29.Write, .int .i64 x29.Value, .int .i64 x29.Begin, .int .i64 x29.End]) rfl ?_
      obtain ⟨v32, hx33, hF34⟩ := bind_some' hF31
      simp only [run_d3_call, B0, reduceIte, reduceEqDiff]
      refine call1d rfl (mapM1 (snap_agg (mapM1 snap_int (mapM1 snap_int (mapM1 snap_bool (mapM1 snap_int (mapM1 snap_int (mapM1 snap_int mapM0))))))) (mapM1 (snap_agg
          (mapM1 snap_int (mapM1 snap_int (mapM1 snap_bool (mapM1 snap_int (mapM1 snap_int (mapM1 snap_int mapM0))))))) mapM0)) (laws_eqCall_x
          (fun b hb => decide_eq_true hb) x26 x29 v32 hx33) ?_
      simp only [d4_un, put1d_some, xnot, run_draw_nil, run_cond, B0, reduceIte, reduceEqDiff]
      refine cond_split (t := (!v32)) (fun hc35 => ?_) (fun hc35 => ?_)
      · rw [iteT hc35] at hF34
        simp only [run_seq, run_reg, run_mv, run_ops_nil, run_ret, B0, reduceIte, reduceEqDiff]
        have e36 := some_inj hF34
        subst e36
        have ho37 := hr11 _ rfl
        have hk38 := hk9
        rw [ho37] at hk38
        dsimp only [jnO] at hk38
        apply hR15
        have he := some_inj hk38
        subst he
        simp only [end_ret1, B0, reduceIte, reduceEqDiff]
        exact rfl
      rw [iteF hc35] at hF34
      simp only [run_skip, run_blk, run_reg, f23, run_mv, run_bin, put1_some, xadd, run_ops_nil, run_nil, B0, reduceIte, reduceEqDiff]
      have e39 := some_inj hF34
      exact hN13 _ _ _ e39.symm ⟨f21, f22, rfl, hS20⟩
    rw [iteF hc25] at hF10
    simp only [run_exit, out_code, out_nil, B0, reduceIte, reduceEqDiff]
    have e40 := some_inj hF10
    exact hK14 _ _ _ e40.symm ⟨f21, f22, f23, hS20⟩
  rintro s42 fr43 h44 rfl ⟨f46, f47, f48, hS45⟩
  dsimp only [jnO] at hk9
  unfold laws_eqCallS_j1 at hk9
  simp only [run_seq, run_reg, run_mv, run_ops_nil, run_ret, B0, reduceIte, reduceEqDiff]
  have he := some_inj hk9
  subst he
  simp only [end_ret1, B0, reduceIte, reduceEqDiff]
  exact rfl
theorem laws_eqIntS_x {W : Nat → Bool} {h : Heap} (hW : ∀ b,
    (geL h.length) b → W b = true) (k : Nat) (a_0 : List Int) (b_1 : List Int) (r : Bool) (hF : laws_eqIntS k a_0 b_1 = some r) : Ret E W 24 [lst cI a_0,
    lst cI b_1] h (fun v h' => cut h.length h' E.sz false 9 v = some (.bool r)) := by
  refine Ret.of (fn := x24) rfl (Run.of ?_)
  unfold laws_eqIntS at hF
  have zf0 : argFr [lst cI a_0, lst cI b_1] 0 = lst cI a_0 := rfl
  have zf1 : argFr [lst cI a_0, lst cI b_1] 1 = lst cI b_1 := rfl
  generalize argFr [lst cI a_0, lst cI b_1] = fr0 at zf0 zf1 ⊢
  have hS : Sep h (geL h.length) [] := Sep.nil h
  simp only [x24, run_seq, run_reg, run_mv, run_ops_nil, x24_7, zf0, run_len, put1_some, xlen_lst, zf1, run_bin, xneq, run_cond, B0, reduceIte, reduceEqDiff]
  refine cond_split (t := (decide ((List.length a_0 : Int) ≠ (List.length b_1 : Int)))) (fun hc1 => ?_) (fun hc1 => ?_)
  · rw [iteT hc1] at hF
    simp only [run_seq, run_reg, run_mv, run_ops_nil, run_ret, B0, reduceIte, reduceEqDiff]
    have he := some_inj hF
    subst he
    simp only [end_ret1, B0, reduceIte, reduceEqDiff]
    exact rfl
  rw [iteF hc1] at hF
  simp only [run_skip, x24_6, run_seq, run_reg, run_mv, run_ops_nil, B0, reduceIte, reduceEqDiff]
  obtain ⟨oc6, hX8, hk9⟩ := jn_some hF
  simp only [x24_5]
  refine loopF_j (σ := Int) (fun s38 => laws_eqIntS_b1 a_0 b_1 s38) (fun s fr' h' => fr' 0 = lst cI a_0 ∧ fr' 1 = lst cI b_1 ∧ fr' 5 = .int .i64 s ∧ Sep h' (geL h.length)
      ([])) hX8 ⟨zf0, zf1, rfl, hS⟩ (fun _ _ _ h => h) ?_ ?_
  · rintro s3 fr18 h19 ⟨f21, f22, f23, hS20⟩ oc7 hF10 hr11 Q12 hN13 hK14 hR15 hE16
    unfold laws_eqIntS_b1 at hF10
    simp only [x24_3, run_seq, run_reg, f23, run_mv, f21, run_len, put1_some, xlen_lst, run_bin, xlss, run_ops_nil, run_cond, B0, reduceIte, reduceEqDiff]
    refine cond_split (t := (decide (s3 < (List.length a_0 : Int)))) (fun hc25 => ?_) (fun hc25 => ?_)
    · rw [iteT hc25] at hF10
      obtain ⟨x26, hx27, hF28⟩ := bind_some' hF10
      simp only [run_skip, x24_2, run_seq, run_block, x24_1, run_draw, f21, d4_mv, put1d_some, f23, d4_ia, B0, reduceIte, reduceEqDiff]
      refine put1d_eq (v := .ref (cI x26) 0) (xia_lst hx27 rfl) ?_
      simp only [d4_ld, B0, reduceIte, reduceEqDiff]
      refine put1d_eq (v := .int .i64 x26) rfl ?_
      obtain ⟨x29, hx30, hF31⟩ := bind_some' hF28
      simp only [f22, d4_mv, put1d_some, f23, d4_ia, B0, reduceIte, reduceEqDiff]
      refine put1d_eq (v := .ref (cI x29) 0) (xia_lst hx30 rfl) ?_
      simp only [d4_ld, B0, reduceIte, reduceEqDiff]
      refine put1d_eq (v := .int .i64 x29) rfl ?_
      simp only [d4_bin, put1d_some, xneq, run_draw_nil, run_cond, B0, reduceIte, reduceEqDiff]
      refine cond_split (t := (decide (x26 ≠ x29))) (fun hc32 => ?_) (fun hc32 => ?_)
      · rw [iteT hc32] at hF31
        simp only [run_seq, run_reg, run_mv, run_ops_nil, run_ret, B0, reduceIte, reduceEqDiff]
        have e33 := some_inj hF31
        subst e33
        have ho34 := hr11 _ rfl
        have hk35 := hk9
        rw [ho34] at hk35
        dsimp only [jnO] at hk35
        apply hR15
        have he := some_inj hk35
        subst he
        simp only [end_ret1, B0, reduceIte, reduceEqDiff]
        exact rfl
      rw [iteF hc32] at hF31
      simp only [run_skip, run_blk, run_reg, f23, run_mv, run_bin, put1_some, xadd, run_ops_nil, run_nil, B0, reduceIte, reduceEqDiff]
      have e36 := some_inj hF31
      exact hN13 _ _ _ e36.symm ⟨f21, f22, rfl, hS20⟩
    rw [iteF hc25] at hF10
    simp only [run_exit, out_code, out_nil, B0, reduceIte, reduceEqDiff]
    have e37 := some_inj hF10
    exact hK14 _ _ _ e37.symm ⟨f21, f22, f23, hS20⟩
  rintro s39 fr40 h41 rfl ⟨f43, f44, f45, hS42⟩
  dsimp only [jnO] at hk9
  unfold laws_eqIntS_j1 at hk9
  simp only [run_seq, run_reg, run_mv, run_ops_nil, run_ret, B0, reduceIte, reduceEqDiff]
  have he := some_inj hk9
  subst he
  simp only [end_ret1, B0, reduceIte, reduceEqDiff]
  exact rfl
theorem laws_toIntS_x {W : Nat → Bool} {h : Heap} (hW : ∀ b,
    (geL h.length) b → W b = true) (k : Nat) (a_0 : List Int) (r : List Int) (hF : laws_toIntS k a_0 = some r) : Ret E W 28 [lst cI a_0] h (fun v h' => ∃ rv0 rc0,
    v = rv0 ∧ SlF cI 1 3 rv0 r rc0 ∧ Sep h' (geL h.length) (rc0 ++ ([]))) := by
  refine Ret.of (fn := x28) rfl (Run.of ?_)
  unfold laws_toIntS at hF
  have zf0 : argFr [lst cI a_0] 0 = lst cI a_0 := rfl
  generalize argFr [lst cI a_0] = fr0 at zf0 ⊢
  have hS : Sep h (geL h.length) [] := Sep.nil h
  obtain ⟨l1, hx2, hF3⟩ := bind_some' hF
  simp only [x28, run_seq, run_reg, run_mv, run_ops_nil, x28_7, zf0, run_len, put1_some, xlen_lst, run_mkS, B0, reduceIte, reduceEqDiff]
  refine put2_mkSF (f := cI) (z := (0 : Int)) hS hx2 rfl (fun v4 c5 h6 hv7 hS8 => ?_)
  simp only [run_mv, run_ops_nil, x28_6, run_seq, run_reg, B0, reduceIte, reduceEqDiff]
  obtain ⟨oc20, hX22, hk23⟩ := jn_some hF3
  simp only [x28_5]
  refine loopF_j (σ := Int × (List Int)) (fun s55 => laws_toIntS_b1 a_0 s55.1 s55.2) (fun s fr' h' => ∃ c16,
      fr' 0 = lst cI a_0 ∧ fr' 3 = v4 ∧ fr' 4 = .int .i64 s.1 ∧ SlF cI 1 3 v4 s.2 c16 ∧ Sep h' (geL h.length) (c16 ++ ([]))) hX22 ⟨c5, zf0, rfl, rfl, hv7,
      hS8⟩ (fun _ _ _ h => h) ?_ ?_
  · rintro ⟨s14, s15⟩ fr32 h33 ⟨c16, f35, f36, f37, hv17, hS34⟩ oc21 hF24 hr25 Q26 hN27 hK28 hR29 hE30
    dsimp only at *
    unfold laws_toIntS_b1 at hF24
    simp only [x28_3, run_seq, run_reg, f37, run_mv, f35, run_len, put1_some, xlen_lst, run_bin, xlss, run_ops_nil, run_cond, B0, reduceIte, reduceEqDiff]
    refine cond_split (t := (decide (s14 < (List.length a_0 : Int)))) (fun hc39 => ?_) (fun hc39 => ?_)
    · rw [iteT hc39] at hF24
      obtain ⟨x40, hx41, hF42⟩ := bind_some' hF24
      simp only [run_skip, x28_2, run_seq, run_block, x28_1, run_reg, f36, run_mv, f37, f35, run_ia, B0, reduceIte, reduceEqDiff]
      refine put1_eq (v := .ref (cI x40) 0) (xia_lst hx41 rfl) ?_
      simp only [run_ld, B0, reduceIte, reduceEqDiff]
      refine put1_eq (v := .int .i64 x40) rfl ?_
      obtain ⟨x43, hx44, hF45⟩ := bind_some' hF42
      simp only [run_ia, B0, reduceIte, reduceEqDiff]
      obtain ⟨b46, hb47⟩ := SlF.isrow hv17 (geti_ne hx44)
      refine put1_eq (SlF.ia hv17 hb47 hx44) ?_
      simp only [run_st, B0, reduceIte, reduceEqDiff]
      refine put2_stF (f := cI) (x' := x40) (o := 0) hv17 hS34 hW hb47 hx44 (fun _ => rfl) rfl rfl (nle rfl) rfl (fun c50 h48 hv51 hS49 => ?_)
      have hx52 := geti_set (x' := x40) hx44
      simp only [run_ops_nil, run_blk, run_reg, f37, run_mv, run_bin, put1_some, xadd, run_nil, B0, reduceIte, reduceEqDiff]
      have e53 := some_inj hF45
      exact hN27 _ _ _ e53.symm ⟨c50, f35, f36, rfl, hv51, hS49⟩
    rw [iteF hc39] at hF24
    simp only [run_exit, out_code, out_nil, B0, reduceIte, reduceEqDiff]
    have e54 := some_inj hF24
    exact hK28 _ _ _ e54.symm ⟨c16, f35, f36, f37, hv17, hS34⟩
  rintro ⟨s56, s57⟩ fr60 h61 rfl ⟨c58, f63, f64, f65, hv59, hS62⟩
  dsimp only [jnO] at hk23
  dsimp only at *
  unfold laws_toIntS_j1 at hk23
  simp only [run_seq, run_reg, f64, run_mv, run_ops_nil, run_ret, B0, reduceIte, reduceEqDiff]
  have he := some_inj hk23
  subst he
  simp only [end_ret1, B0, reduceIte, reduceEqDiff]
  exact ⟨v4, c58, by first | trivial | rfl, hv59, hS62⟩
theorem spec_l1In_x {W : Nat → Bool} {h : Heap} (hW : ∀ b,
    (geL h.length) b → W b = true) (n_0 : Int) (lo_1 : Int) (hi_2 : Int) (r : Bool) (hF : some (spec_l1In n_0 lo_1 hi_2) = some r) : Ret E W 41 [.int .i64 n_0, .int .i64 lo_1,
    .int .i64 hi_2] h (fun v h' => cut h.length h' E.sz false 9 v = some (.bool r)) := by
  refine Ret.of (fn := x41) rfl (Run.of ?_)
  unfold spec_l1In at hF
  have zf0 : argFr [.int .i64 n_0, .int .i64 lo_1, .int .i64 hi_2] 0 = .int .i64 n_0 := rfl
  have zf1 : argFr [.int .i64 n_0, .int .i64 lo_1, .int .i64 hi_2] 1 = .int .i64 lo_1 := rfl
  have zf2 : argFr [.int .i64 n_0, .int .i64 lo_1, .int .i64 hi_2] 2 = .int .i64 hi_2 := rfl
  generalize argFr [.int .i64 n_0, .int .i64 lo_1, .int .i64 hi_2] = fr0 at zf0 zf1 zf2 ⊢
  have hS : Sep h (geL h.length) [] := Sep.nil h
  simp only [x41, run_seq, run_reg, run_mv, run_ops_nil, x41_1, zf0, zf1, run_bin, put1_some, xgeq, B0, reduceIte, reduceEqDiff]
  refine ops_j 4 (fun fr' h' => Sep h' (geL h.length) ([]) ∧ fr' 14 = .bool ((decide (lo_1 ≤ n_0)) && (decide (n_0 ≤ hi_2)))) (fun Q1 hN2 => ?_) ?_
  · simp only [List.take_succ_cons, List.take_zero]
    simp only [run_guard (g := 10), B0, reduceIte, reduceEqDiff]
    refine guard_split (t := (decide (lo_1 ≤ n_0))) (fun hg3 => ?_) (fun hg3 => ?_)
    · simp only [hg3, run_guard (g := 10), guard_true, zf0, run_mv, zf2, run_bin, put1_some, xleq, run_pick, xpick_t, run_ops_nil, run_nil, B0, reduceIte, reduceEqDiff]
      exact hN2 _ _ ⟨hS, by rw [andT hg3]; simp only [B0, reduceIte, reduceEqDiff]⟩
    · simp only [hg3, run_guard (g := 10), guard_off, run_pick, put1_some, xpick_f, run_ops_nil, run_nil, B0, reduceIte, reduceEqDiff]
      exact hN2 _ _ ⟨hS, by rw [andF hg3]; simp only [B0, reduceIte, reduceEqDiff]⟩
  rintro fr4 h6 ⟨hS7, f5⟩
  simp only [List.drop_succ_cons, List.drop_zero]
  simp only [f5, run_mv, run_ops_nil, run_ret, B0, reduceIte, reduceEqDiff]
  have he := some_inj hF
  subst he
  simp only [end_ret1, B0, reduceIte, reduceEqDiff]
  exact rfl
theorem spec_l15Call_x {W : Nat → Bool} {h : Heap} (hW : ∀ b,
    (geL h.length) b → W b = true) (x_0 : Call) (r : Bool) (hF : some (spec_l15Call x_0) = some r) : Ret E W 64 [.agg [.int .i64 x_0.Client, .int .i64 x_0.Object, .bool x_0.Write,
    .int .i64 x_0.Value, .int .i64 x_0.Begin, .int .i64 x_0.End]] h (fun v h' => cut h.length h' E.sz false 9 v = some (.bool r)) := by
  refine Ret.of (fn := x64) rfl (Run.of ?_)
  unfold spec_l15Call at hF
  have zf0 : argFr [.agg [.int .i64 x_0.Client, .int .i64 x_0.Object, .bool x_0.Write, .int .i64 x_0.Value, .int .i64 x_0.Begin,
      .int .i64 x_0.End]] 0 = .agg [.int .i64 x_0.Client, .int .i64 x_0.Object, .bool x_0.Write, .int .i64 x_0.Value, .int .i64 x_0.Begin, .int .i64 x_0.End] := rfl
  generalize argFr [.agg [.int .i64 x_0.Client, .int .i64 x_0.Object, .bool x_0.Write, .int .i64 x_0.Value, .int .i64 x_0.Begin, .int .i64 x_0.End]] = fr0 at zf0 ⊢
  have hS : Sep h (geL h.length) [] := Sep.nil h
  simp only [x64, run_seq, run_reg, run_box, zf0, B0, reduceIte, reduceEqDiff]
  refine put2_boxC (cs := [.int .i64 x_0.Client, .int .i64 x_0.Object, .bool x_0.Write, .int .i64 x_0.Value, .int .i64 x_0.Begin,
      .int .i64 x_0.End]) hS rfl rfl rfl (fun b1 h2 hS3 => ?_)
  simp only [run_mv, run_ops_nil, B0, reduceIte, reduceEqDiff]
  refine frz_stepC hS3 hW (by simp only [B0, reduceIte, reduceEqDiff]) (fun h5 hS6 => ?_)
  simp only [run_frz_nil, x64_1, run_seq, run_reg, run_fa, put1_some, Nat.reduceAdd, Nat.zero_add, Nat.add_zero, xfa_ref, run_ld, B0, reduceIte, reduceEqDiff]
  refine put1_eq (v := .int .i64 x_0.Client) rfl ?_
  simp only [run_call, B0, reduceIte, reduceEqDiff]
  refine call1 rfl (mapM1 snap_int (mapM1 snap_int (mapM1 snap_int mapM0))) (spec_l1In_x (fun b hb => decide_eq_true hb) x_0.Client 0 3 _ rfl) ?_
  simp only [run_mv, B0, reduceIte, reduceEqDiff]
  refine ops_j 4 (fun fr' h' => Sep h' (geL h.length) ([]) ∧ fr' 10 = .bool ((spec_l1In x_0.Client 0 3) && (spec_l1In x_0.Object 0 2)) ∧ fr' 1 = .ref [.int .i64 x_0.Client,
      .int .i64 x_0.Object, .bool x_0.Write, .int .i64 x_0.Value, .int .i64 x_0.Begin, .int .i64 x_0.End] 0) (fun Q7 hN8 => ?_) ?_
  · simp only [List.take_succ_cons, List.take_zero]
    simp only [run_guard (g := 6), B0, reduceIte, reduceEqDiff]
    refine guard_split (t := (spec_l1In x_0.Client 0 3)) (fun hg9 => ?_) (fun hg9 => ?_)
    · simp only [hg9, run_guard (g := 6), guard_true, run_fa, put1_some, Nat.reduceAdd, Nat.zero_add, Nat.add_zero, xfa_ref, run_ld, B0, reduceIte, reduceEqDiff]
      refine put1_eq (v := .int .i64 x_0.Object) rfl ?_
      simp only [hg9, run_guard (g := 6), guard_true, run_call, B0, reduceIte, reduceEqDiff]
      refine call1 rfl (mapM1 snap_int (mapM1 snap_int (mapM1 snap_int mapM0))) (spec_l1In_x (fun b hb => decide_eq_true hb) x_0.Object 0 2 _ rfl) ?_
      simp only [hg9, run_pick, put1_some, xpick_t, run_ops_nil, run_nil, B0, reduceIte, reduceEqDiff]
      exact hN8 _ _ ⟨hS6, by rw [andT hg9]; simp only [B0, reduceIte, reduceEqDiff], rfl⟩
    · simp only [hg9, run_guard (g := 6), guard_off, run_pick, put1_some, xpick_f, run_ops_nil, run_nil, B0, reduceIte, reduceEqDiff]
      exact hN8 _ _ ⟨hS6, by rw [andF hg9]; simp only [B0, reduceIte, reduceEqDiff], rfl⟩
  rintro fr10 h13 ⟨hS14, f11, f12⟩
  simp only [List.drop_succ_cons, List.drop_zero]
  simp only [f11, run_mv, B0, reduceIte, reduceEqDiff]
  refine ops_j 4 (fun fr' h' => Sep h' (geL h.length) ([]) ∧ fr' 15 = .bool (((spec_l1In x_0.Client 0 3) && (spec_l1In x_0.Object 0 2)) &&
      (spec_l1In x_0.Value 0 9)) ∧ fr' 1 = .ref [.int .i64 x_0.Client, .int .i64 x_0.Object, .bool x_0.Write, .int .i64 x_0.Value, .int .i64 x_0.Begin,
      .int .i64 x_0.End] 0) (fun Q15 hN16 => ?_) ?_
  · simp only [List.take_succ_cons, List.take_zero]
    simp only [run_guard (g := 11), B0, reduceIte, reduceEqDiff]
    refine guard_split (t := ((spec_l1In x_0.Client 0 3) && (spec_l1In x_0.Object 0 2))) (fun hg17 => ?_) (fun hg17 => ?_)
    · simp only [hg17, run_guard (g := 11), guard_true, f12, run_fa, put1_some, Nat.reduceAdd, Nat.zero_add, Nat.add_zero, xfa_ref, run_ld, B0, reduceIte, reduceEqDiff]
      refine put1_eq (v := .int .i64 x_0.Value) rfl ?_
      simp only [hg17, run_guard (g := 11), guard_true, run_call, B0, reduceIte, reduceEqDiff]
      refine call1 rfl (mapM1 snap_int (mapM1 snap_int (mapM1 snap_int mapM0))) (spec_l1In_x (fun b hb => decide_eq_true hb) x_0.Value 0 9 _ rfl) ?_
      simp only [hg17, run_pick, put1_some, xpick_t, run_ops_nil, run_nil, B0, reduceIte, reduceEqDiff]
      exact hN16 _ _ ⟨hS14, by rw [andT hg17]; simp only [B0, reduceIte, reduceEqDiff], f12⟩
    · simp only [hg17, run_guard (g := 11), guard_off, run_pick, put1_some, xpick_f, run_ops_nil, run_nil, B0, reduceIte, reduceEqDiff]
      exact hN16 _ _ ⟨hS14, by rw [andF hg17]; simp only [B0, reduceIte, reduceEqDiff], f12⟩
  rintro fr18 h21 ⟨hS22, f19, f20⟩
  simp only [List.drop_succ_cons, List.drop_zero]
  simp only [f19, run_mv, B0, reduceIte, reduceEqDiff]
  refine ops_j 9 (fun fr' h' => Sep h' (geL h.length) ([]) ∧ fr' 25 = .bool ((((spec_l1In x_0.Client 0 3) && (spec_l1In x_0.Object 0 2)) && (spec_l1In x_0.Value 0 9)) &&
      ((!x_0.Write) || (decide ((0 : Int) < x_0.Value)))) ∧ fr' 1 = .ref [.int .i64 x_0.Client, .int .i64 x_0.Object, .bool x_0.Write, .int .i64 x_0.Value, .int .i64 x_0.Begin,
      .int .i64 x_0.End] 0) (fun Q23 hN24 => ?_) ?_
  · simp only [List.take_succ_cons, List.take_zero]
    simp only [run_guard (g := 16), B0, reduceIte, reduceEqDiff]
    refine guard_split (t := (((spec_l1In x_0.Client 0 3) && (spec_l1In x_0.Object 0 2)) && (spec_l1In x_0.Value 0 9))) (fun hg25 => ?_) (fun hg25 => ?_)
    · simp only [hg25, run_guard (g := 16), guard_true, f20, run_fa, put1_some, Nat.reduceAdd, Nat.zero_add, Nat.add_zero, xfa_ref, run_ld, B0, reduceIte, reduceEqDiff]
      refine put1_eq (v := .bool x_0.Write) rfl ?_
      simp only [hg25, run_guard (g := 16), guard_true, run_un, put1_some, xnot, run_mv, B0, reduceIte, reduceEqDiff]
      refine ops_j 4 (fun fr' h' => Sep h' (geL h.length) ([]) ∧ fr' 24 = .bool ((!x_0.Write) || (decide ((0 : Int) < x_0.Value))) ∧ fr' 1 = .ref [.int .i64 x_0.Client,
          .int .i64 x_0.Object, .bool x_0.Write, .int .i64 x_0.Value, .int .i64 x_0.Begin,
          .int .i64 x_0.End] 0 ∧ fr' 16 = .bool (((spec_l1In x_0.Client 0 3) && (spec_l1In x_0.Object 0 2)) && (spec_l1In x_0.Value 0 9))) (fun Q26 hN27 => ?_) ?_
      · simp only [List.take_succ_cons, List.take_zero]
        simp only [run_guard (g := 20), B0, reduceIte, reduceEqDiff]
        refine guard_split (t := (!x_0.Write)) (fun hg28 => ?_) (fun hg28 => ?_)
        · simp only [hg28, run_guard (g := 20), guard_off', hg25, run_guard (g := 16), guard_true, run_pick, put1_some, xpick_t, run_ops_nil, run_nil, B0, reduceIte, reduceEqDiff]
          exact hN27 _ _ ⟨hS22, by rw [orT hg28]; simp only [B0, reduceIte, reduceEqDiff], f20, by simp only [hg25, B0, reduceIte, reduceEqDiff]⟩
        · simp only [hg28, run_guard (g := 20), guard_false, f20, run_fa, put1_some, Nat.reduceAdd, Nat.zero_add, Nat.add_zero, xfa_ref, run_ld, B0, reduceIte, reduceEqDiff]
          refine put1_eq (v := .int .i64 x_0.Value) rfl ?_
          simp only [hg28, run_guard (g := 20), guard_false, run_bin, put1_some, xgtr, hg25, run_guard (g := 16), guard_true, run_pick, xpick_f, run_ops_nil, run_nil, B0,
              reduceIte, reduceEqDiff]
          exact hN27 _ _ ⟨hS22, by rw [orF hg28]; simp only [B0, reduceIte, reduceEqDiff], f20, by simp only [hg25, B0, reduceIte, reduceEqDiff]⟩
      rintro fr29 h33 ⟨hS34, f30, f31, f32⟩
      simp only [List.drop_succ_cons, List.drop_zero]
      simp only [f32, hg25, run_pick, put1_some, xpick_t, f30, run_ops_nil, run_nil, B0, reduceIte, reduceEqDiff]
      exact hN24 _ _ ⟨hS34, by rw [andT hg25]; simp only [B0, reduceIte, reduceEqDiff], f31⟩
    · simp only [hg25, run_guard (g := 16), guard_off, run_guard (g := 20), guard_tup, run_pick, put1_some, xpick_f, run_ops_nil, run_nil, B0, reduceIte, reduceEqDiff]
      exact hN24 _ _ ⟨hS22, by rw [andF hg25]; simp only [B0, reduceIte, reduceEqDiff], f20⟩
  rintro fr35 h38 ⟨hS39, f36, f37⟩
  simp only [List.drop_succ_cons, List.drop_zero]
  simp only [f36, run_mv, B0, reduceIte, reduceEqDiff]
  refine ops_j 4 (fun fr' h' => Sep h' (geL h.length) ([]) ∧ fr' 30 = .bool (((((spec_l1In x_0.Client 0 3) && (spec_l1In x_0.Object 0 2)) && (spec_l1In x_0.Value 0 9)) &&
      ((!x_0.Write) || (decide ((0 : Int) < x_0.Value)))) && (spec_l1In x_0.Begin 0 100)) ∧ fr' 1 = .ref [.int .i64 x_0.Client, .int .i64 x_0.Object, .bool x_0.Write,
      .int .i64 x_0.Value, .int .i64 x_0.Begin, .int .i64 x_0.End] 0) (fun Q40 hN41 => ?_) ?_
  · simp only [List.take_succ_cons, List.take_zero]
    simp only [run_guard (g := 26), B0, reduceIte, reduceEqDiff]
    refine guard_split (t := ((((spec_l1In x_0.Client 0 3) && (spec_l1In x_0.Object 0 2)) && (spec_l1In x_0.Value 0 9)) && ((!x_0.Write) || (decide ((0 : Int) < x_0.Value)))))
        (fun hg42 => ?_) (fun hg42 => ?_)
    · simp only [hg42, run_guard (g := 26), guard_true, f37, run_fa, put1_some, Nat.reduceAdd, Nat.zero_add, Nat.add_zero, xfa_ref, run_ld, B0, reduceIte, reduceEqDiff]
      refine put1_eq (v := .int .i64 x_0.Begin) rfl ?_
      simp only [hg42, run_guard (g := 26), guard_true, run_call, B0, reduceIte, reduceEqDiff]
      refine call1 rfl (mapM1 snap_int (mapM1 snap_int (mapM1 snap_int mapM0))) (spec_l1In_x (fun b hb => decide_eq_true hb) x_0.Begin 0 100 _ rfl) ?_
      simp only [hg42, run_pick, put1_some, xpick_t, run_ops_nil, run_nil, B0, reduceIte, reduceEqDiff]
      exact hN41 _ _ ⟨hS39, by rw [andT hg42]; simp only [B0, reduceIte, reduceEqDiff], f37⟩
    · simp only [hg42, run_guard (g := 26), guard_off, run_pick, put1_some, xpick_f, run_ops_nil, run_nil, B0, reduceIte, reduceEqDiff]
      exact hN41 _ _ ⟨hS39, by rw [andF hg42]; simp only [B0, reduceIte, reduceEqDiff], f37⟩
  rintro fr43 h46 ⟨hS47, f44, f45⟩
  simp only [List.drop_succ_cons, List.drop_zero]
  simp only [f44, run_mv, B0, reduceIte, reduceEqDiff]
  refine ops_j 4 (fun fr' h' => Sep h' (geL h.length) ([]) ∧ fr' 35 = .bool ((((((spec_l1In x_0.Client 0 3) && (spec_l1In x_0.Object 0 2)) && (spec_l1In x_0.Value 0 9)) &&
      ((!x_0.Write) || (decide ((0 : Int) < x_0.Value)))) && (spec_l1In x_0.Begin 0 100)) && (spec_l1In x_0.End 0 100)) ∧ fr' 1 = .ref [.int .i64 x_0.Client, .int .i64 x_0.Object,
      .bool x_0.Write, .int .i64 x_0.Value, .int .i64 x_0.Begin, .int .i64 x_0.End] 0) (fun Q48 hN49 => ?_) ?_
  · simp only [List.take_succ_cons, List.take_zero]
    simp only [run_guard (g := 31), B0, reduceIte, reduceEqDiff]
    refine guard_split (t := (((((spec_l1In x_0.Client 0 3) && (spec_l1In x_0.Object 0 2)) && (spec_l1In x_0.Value 0 9)) && ((!x_0.Write) || (decide ((0 : Int) < x_0.Value)))) &&
        (spec_l1In x_0.Begin 0 100))) (fun hg50 => ?_) (fun hg50 => ?_)
    · simp only [hg50, run_guard (g := 31), guard_true, f45, run_fa, put1_some, Nat.reduceAdd, Nat.zero_add, Nat.add_zero, xfa_ref, run_ld, B0, reduceIte, reduceEqDiff]
      refine put1_eq (v := .int .i64 x_0.End) rfl ?_
      simp only [hg50, run_guard (g := 31), guard_true, run_call, B0, reduceIte, reduceEqDiff]
      refine call1 rfl (mapM1 snap_int (mapM1 snap_int (mapM1 snap_int mapM0))) (spec_l1In_x (fun b hb => decide_eq_true hb) x_0.End 0 100 _ rfl) ?_
      simp only [hg50, run_pick, put1_some, xpick_t, run_ops_nil, run_nil, B0, reduceIte, reduceEqDiff]
      exact hN49 _ _ ⟨hS47, by rw [andT hg50]; simp only [B0, reduceIte, reduceEqDiff], f45⟩
    · simp only [hg50, run_guard (g := 31), guard_off, run_pick, put1_some, xpick_f, run_ops_nil, run_nil, B0, reduceIte, reduceEqDiff]
      exact hN49 _ _ ⟨hS47, by rw [andF hg50]; simp only [B0, reduceIte, reduceEqDiff], f45⟩
  rintro fr51 h54 ⟨hS55, f52, f53⟩
  simp only [List.drop_succ_cons, List.drop_zero]
  simp only [f52, run_mv, B0, reduceIte, reduceEqDiff]
  refine ops_j 6 (fun fr' h' => Sep h' (geL h.length) ([]) ∧ fr' 42 = .bool (((((((spec_l1In x_0.Client 0 3) && (spec_l1In x_0.Object 0 2)) && (spec_l1In x_0.Value 0 9)) &&
      ((!x_0.Write) || (decide ((0 : Int) < x_0.Value)))) && (spec_l1In x_0.Begin 0 100)) && (spec_l1In x_0.End 0 100)) && (decide (x_0.Begin < x_0.End)))) (fun Q56 hN57 => ?_) ?_
  · simp only [List.take_succ_cons, List.take_zero]
    simp only [run_guard (g := 36), B0, reduceIte, reduceEqDiff]
    refine guard_split (t := ((((((spec_l1In x_0.Client 0 3) && (spec_l1In x_0.Object 0 2)) && (spec_l1In x_0.Value 0 9)) && ((!x_0.Write) || (decide
        ((0 : Int) < x_0.Value)))) && (spec_l1In x_0.Begin 0 100)) && (spec_l1In x_0.End 0 100))) (fun hg58 => ?_) (fun hg58 => ?_)
    · simp only [hg58, run_guard (g := 36), guard_true, f53, run_fa, put1_some, Nat.reduceAdd, Nat.zero_add, Nat.add_zero, xfa_ref, run_ld, B0, reduceIte, reduceEqDiff]
      refine put1_eq (v := .int .i64 x_0.Begin) rfl ?_
      simp only [hg58, run_guard (g := 36), guard_true, f53, run_fa, put1_some, Nat.reduceAdd, Nat.zero_add, Nat.add_zero, xfa_ref, run_ld, B0, reduceIte, reduceEqDiff]
      refine put1_eq (v := .int .i64 x_0.End) rfl ?_
      simp only [hg58, run_guard (g := 36), guard_true, run_bin, put1_some, xlss, run_pick, xpick_t, run_ops_nil, run_nil, B0, reduceIte, reduceEqDiff]
      exact hN57 _ _ ⟨hS55, by rw [andT hg58]; simp only [B0, reduceIte, reduceEqDiff]⟩
    · simp only [hg58, run_guard (g := 36), guard_off, run_pick, put1_some, xpick_f, run_ops_nil, run_nil, B0, reduceIte, reduceEqDiff]
      exact hN57 _ _ ⟨hS55, by rw [andF hg58]; simp only [B0, reduceIte, reduceEqDiff]⟩
  rintro fr59 h61 ⟨hS62, f60⟩
  simp only [List.drop_succ_cons, List.drop_zero]
  simp only [f60, run_mv, run_ops_nil, run_ret, B0, reduceIte, reduceEqDiff]
  have he := some_inj hF
  subst he
  simp only [end_ret1, B0, reduceIte, reduceEqDiff]
  exact rfl
theorem spec_GoodCalls_x {W : Nat → Bool} {h : Heap} (hW : ∀ b,
    (geL h.length) b → W b = true) (l_0 : List Call) (r : Bool) (hF : spec_GoodCalls l_0 = some r) : Ret E W 40 [lst Call.cells l_0] h
    (fun v h' => cut h.length h' E.sz false 9 v = some (.bool r)) := by
  refine Ret.of (fn := x40) rfl (Run.of ?_)
  unfold spec_GoodCalls at hF
  have zf0 : argFr [lst Call.cells l_0] 0 = lst Call.cells l_0 := rfl
  generalize argFr [lst Call.cells l_0] = fr0 at zf0 ⊢
  have hS : Sep h (geL h.length) [] := Sep.nil h
  simp only [x40, run_seq, run_reg, run_mv, run_ops_nil, x40_11, zf0, run_len, put1_some, xlen_lst, B0, reduceIte, reduceEqDiff]
  obtain ⟨oc3, hX5, hk6⟩ := jn_some hF
  simp only [x40_9]
  refine rangeL_j (σ := Unit) l_0 (fun i1 x2 _ => spec_GoodCalls_b2 l_0 i1 x2 ) (fun s fr' h' => fr' 0 = lst Call.cells l_0 ∧ fr' 7 = lst Call.cells l_0 ∧ Sep h' (geL h.length)
      ([])) hX5 ⟨zf0, rfl, hS⟩ (by simp only [B0, reduceIte, reduceEqDiff]) (by simp only [B0, reduceIte,
      reduceEqDiff]) (fun _ _ _ h => h) rfl rfl (fun _ _ _ _ h => h) (fun _ _ _ _ h => h) (fun _ _ _ _ h => h) (by decide) ?_ ?_
  · rintro i1 x2 _ fr15 h16 hx20 ⟨f18, f19, hS17⟩ f21 f22 oc4 hF7 hr8 Q9 hN10 hB14 hK11 hR12 hE13
    unfold spec_GoodCalls_b2 at hF7
    simp only [x40_7, run_seq, run_reg, f21, run_mv, f19, run_ia, B0, reduceIte, reduceEqDiff]
    refine put1_eq (v := .ref (Call.cells x2) 0) (xia_lstN hx20 rfl) ?_
    simp only [run_ld, B0, reduceIte, reduceEqDiff]
    refine put1_eq (v := .agg [.int .i64 x2.Client, .int .i64 x2.Object, .bool x2.Write, .int .i64 x2.Value, .int .i64 x2.Begin, .int .i64 x2.End]) rfl ?_
    simp only [run_new, B0, reduceIte, reduceEqDiff]
    refine put2_newC hS17 (fun b23 h24 hS25 => ?_)
    simp only [run_mv, run_st, B0, reduceIte, reduceEqDiff]
    refine put2_stCx (us := [.int .i64 x2.Client, .int .i64 x2.Object, .bool x2.Write, .int .i64 x2.Value, .int .i64 x2.Begin, .int .i64 x2.End]) rfl (cs' := [.int .i64 x2.Client,
        .int .i64 x2.Object, .bool x2.Write, .int .i64 x2.Value, .int .i64 x2.Begin, .int .i64 x2.End]) hS25 hW rfl rfl (nle rfl) rfl (fun h27 hS28 => ?_)
    simp only [run_ops_nil, B0, reduceIte, reduceEqDiff]
    refine frz_stepC hS28 hW (by simp only [B0, reduceIte, reduceEqDiff]) (fun h29 hS30 => ?_)
    simp only [run_frz_nil, x40_6, run_seq, run_reg, run_ld, B0, reduceIte, reduceEqDiff]
    refine put1_eq (v := .agg [.int .i64 x2.Client, .int .i64 x2.Object, .bool x2.Write, .int .i64 x2.Value, .int .i64 x2.Begin, .int .i64 x2.End]) rfl ?_
    simp only [run_call, B0, reduceIte, reduceEqDiff]
    refine call1 rfl (mapM1 (snap_agg (mapM1 snap_int (mapM1 snap_int (mapM1 snap_bool (mapM1 snap_int (mapM1 snap_int (mapM1 snap_int mapM0))))))) mapM0) (spec_l15Call_x
        (fun b hb => decide_eq_true hb) x2 _ rfl) ?_
    simp only [run_un, put1_some, xnot, run_ops_nil, run_cond, B0, reduceIte, reduceEqDiff]
    refine cond_split (t := (!(spec_l15Call x2))) (fun hc31 => ?_) (fun hc31 => ?_)
    · rw [iteT hc31] at hF7
      simp only [run_seq, run_reg, run_mv, run_ops_nil, run_ret, B0, reduceIte, reduceEqDiff]
      have e32 := some_inj hF7
      subst e32
      have ho33 := hr8 _ rfl
      have hk34 := hk6
      rw [ho33] at hk34
      dsimp only [jnO] at hk34
      apply hR12
      have he := some_inj hk34
      subst he
      simp only [end_ret1, B0, reduceIte, reduceEqDiff]
      exact rfl
    rw [iteF hc31] at hF7
    obtain ⟨l35, hx36, hF37⟩ := bind_some' hF7
    simp only [run_skip, x40_5, run_seq, run_reg, f18, run_mv, run_slc, Option.map_some, Option.map_none, B0, reduceIte, reduceEqDiff]
    refine put1_eq (pslc_lst_hi hx36 (fun _ => rfl)) ?_
    simp only [run_len, put1_some, xlen_lst, run_mv, run_ops_nil, B0, reduceIte, reduceEqDiff]
    obtain ⟨oc40, hX42, hk43⟩ := jn_some hF37
    simp only [x40_4]
    refine rangeL_j (σ := Unit) l35 (fun i38 x39 _ => spec_GoodCalls_b1 x2 i38 x39 ) (fun s fr' h' => fr' 0 = lst Call.cells l_0 ∧ fr' 4 = .ref [.int .i64 x2.Client,
        .int .i64 x2.Object, .bool x2.Write, .int .i64 x2.Value, .int .i64 x2.Begin,
        .int .i64 x2.End] 0 ∧ fr' 7 = lst Call.cells l_0 ∧ fr' 8 = .int .i64 (List.length l_0 : Int) ∧ fr' 9 = .int .i64 (i1 : Int) ∧ fr' 19 = lst Call.cells l35 ∧ Sep h'
        (geL h.length) ([])) hX42 ⟨f18, rfl, f19, f22, f21, rfl, hS30⟩ (by simp only [B0, reduceIte, reduceEqDiff]) (by simp only [B0, reduceIte,
        reduceEqDiff]) (fun _ _ _ h => h) rfl rfl (fun _ _ _ _ h => h) (fun _ _ _ _ h => h) (fun _ _ _ _ h => h) (by decide) ?_ ?_
    · rintro i38 x39 _ fr52 h53 hx61 ⟨f55, f56, f57, f58, f59, f60, hS54⟩ f62 f63 oc41 hF44 hr45 Q46 hN47 hB51 hK48 hR49 hE50
      unfold spec_GoodCalls_b1 at hF44
      simp only [x40_2, run_seq, run_reg, f60, f62, run_ia, B0, reduceIte, reduceEqDiff]
      refine put1_eq (v := .ref (Call.cells x39) 0) (xia_lstN hx61 rfl) ?_
      simp only [run_ld, B0, reduceIte, reduceEqDiff]
      refine put1_eq (v := .agg [.int .i64 x39.Client, .int .i64 x39.Object, .bool x39.Write, .int .i64 x39.Value, .int .i64 x39.Begin, .int .i64 x39.End]) rfl ?_
      simp only [run_new, B0, reduceIte, reduceEqDiff]
      refine put2_newC hS54 (fun b64 h65 hS66 => ?_)
      simp only [run_st, B0, reduceIte, reduceEqDiff]
      refine put2_stCx (us := [.int .i64 x39.Client, .int .i64 x39.Object, .bool x39.Write, .int .i64 x39.Value, .int .i64 x39.Begin,
          .int .i64 x39.End]) rfl (cs' := [.int .i64 x39.Client, .int .i64 x39.Object, .bool x39.Write, .int .i64 x39.Value, .int .i64 x39.Begin,
          .int .i64 x39.End]) hS66 hW rfl rfl (nle rfl) rfl (fun h68 hS69 => ?_)
      simp only [run_ops_nil, B0, reduceIte, reduceEqDiff]
      refine frz_stepC hS69 hW (by simp only [B0, reduceIte, reduceEqDiff]) (fun h70 hS71 => ?_)
      simp only [run_frz_nil, x40_1, run_seq, run_reg, run_fa, put1_some, Nat.reduceAdd, Nat.zero_add, Nat.add_zero, xfa_ref, run_ld, B0, reduceIte, reduceEqDiff]
      refine put1_eq (v := .int .i64 x39.Client) rfl ?_
      simp only [f56, run_fa, put1_some, Nat.reduceAdd, Nat.zero_add, Nat.add_zero, xfa_ref, run_ld, B0, reduceIte, reduceEqDiff]
      refine put1_eq (v := .int .i64 x2.Client) rfl ?_
      simp only [run_bin, put1_some, xeql, run_mv, B0, reduceIte, reduceEqDiff]
      refine ops_j 6 (fun fr' h' => Sep h' (geL h.length) ([]) ∧ fr' 36 = .bool ((decide (x39.Client = x2.Client)) && (decide
          (x2.Begin < x39.End))) ∧ fr' 0 = lst Call.cells l_0 ∧ fr' 4 = .ref [.int .i64 x2.Client, .int .i64 x2.Object, .bool x2.Write, .int .i64 x2.Value, .int .i64 x2.Begin,
          .int .i64 x2.End] 0 ∧ fr' 6 = .ref [.int .i64 x39.Client, .int .i64 x39.Object, .bool x39.Write, .int .i64 x39.Value, .int .i64 x39.Begin,
          .int .i64 x39.End] 0 ∧ fr' 7 = lst Call.cells l_0 ∧ fr' 8 = .int .i64 (List.length l_0 : Int) ∧ fr' 9 = .int .i64
          (i1 : Int) ∧ fr' 19 = lst Call.cells l35 ∧ fr' 20 = .int .i64 (List.length l35 : Int) ∧ fr' 21 = .int .i64 (i38 : Int)) (fun Q72 hN73 => ?_) ?_
      · simp only [List.take_succ_cons, List.take_zero]
        simp only [run_guard (g := 30), B0, reduceIte, reduceEqDiff]
        refine guard_split (t := (decide (x39.Client = x2.Client))) (fun hg74 => ?_) (fun hg74 => ?_)
        · simp only [hg74, run_guard (g := 30), guard_true, run_fa, put1_some, Nat.reduceAdd, Nat.zero_add, Nat.add_zero, xfa_ref, run_ld, B0, reduceIte, reduceEqDiff]
          refine put1_eq (v := .int .i64 x39.End) rfl ?_
          simp only [hg74, run_guard (g := 30), guard_true, f56, run_fa, put1_some, Nat.reduceAdd, Nat.zero_add, Nat.add_zero, xfa_ref, run_ld, B0, reduceIte, reduceEqDiff]
          refine put1_eq (v := .int .i64 x2.Begin) rfl ?_
          simp only [hg74, run_guard (g := 30), guard_true, run_bin, put1_some, xgtr, run_pick, xpick_t, run_ops_nil, run_nil, B0, reduceIte, reduceEqDiff]
          exact hN73 _ _ ⟨hS71, by rw [andT hg74]; simp only [B0, reduceIte, reduceEqDiff], f55, f56, rfl, f57, f58, f59, f60, f63, f62⟩
        · simp only [hg74, run_guard (g := 30), guard_off, run_pick, put1_some, xpick_f, run_ops_nil, run_nil, B0, reduceIte, reduceEqDiff]
          exact hN73 _ _ ⟨hS71, by rw [andF hg74]; simp only [B0, reduceIte, reduceEqDiff], f55, f56, rfl, f57, f58, f59, f60, f63, f62⟩
      rintro fr75 h86 ⟨hS87, f76, f77, f78, f79, f80, f81, f82, f83, f84, f85⟩
      simp only [List.drop_succ_cons, List.drop_zero]
      simp only [f76, run_mv, B0, reduceIte, reduceEqDiff]
      refine ops_j 6 (fun fr' h' => Sep h' (geL h.length) ([]) ∧ fr' 43 = .bool (((decide (x39.Client = x2.Client)) && (decide (x2.Begin < x39.End))) && (decide
          (x39.Begin < x2.End))) ∧ fr' 0 = lst Call.cells l_0 ∧ fr' 4 = .ref [.int .i64 x2.Client, .int .i64 x2.Object, .bool x2.Write, .int .i64 x2.Value, .int .i64 x2.Begin,
          .int .i64 x2.End] 0 ∧ fr' 7 = lst Call.cells l_0 ∧ fr' 8 = .int .i64 (List.length l_0 : Int) ∧ fr' 9 = .int .i64
          (i1 : Int) ∧ fr' 19 = lst Call.cells l35 ∧ fr' 20 = .int .i64 (List.length l35 : Int) ∧ fr' 21 = .int .i64 (i38 : Int)) (fun Q88 hN89 => ?_) ?_
      · simp only [List.take_succ_cons, List.take_zero]
        simp only [run_guard (g := 37), B0, reduceIte, reduceEqDiff]
        refine guard_split (t := ((decide (x39.Client = x2.Client)) && (decide (x2.Begin < x39.End)))) (fun hg90 => ?_) (fun hg90 => ?_)
        · simp only [hg90, run_guard (g := 37), guard_true, f78, run_fa, put1_some, Nat.reduceAdd, Nat.zero_add, Nat.add_zero, xfa_ref, run_ld, B0, reduceIte, reduceEqDiff]
          refine put1_eq (v := .int .i64 x2.End) rfl ?_
          simp only [hg90, run_guard (g := 37), guard_true, f79, run_fa, put1_some, Nat.reduceAdd, Nat.zero_add, Nat.add_zero, xfa_ref, run_ld, B0, reduceIte, reduceEqDiff]
          refine put1_eq (v := .int .i64 x39.Begin) rfl ?_
          simp only [hg90, run_guard (g := 37), guard_true, run_bin, put1_some, xgtr, run_pick, xpick_t, run_ops_nil, run_nil, B0, reduceIte, reduceEqDiff]
          exact hN89 _ _ ⟨hS87, by rw [andT hg90]; simp only [B0, reduceIte, reduceEqDiff], f77, f78, f80, f81, f82, f83, f84, f85⟩
        · simp only [hg90, run_guard (g := 37), guard_off, run_pick, put1_some, xpick_f, run_ops_nil, run_nil, B0, reduceIte, reduceEqDiff]
          exact hN89 _ _ ⟨hS87, by rw [andF hg90]; simp only [B0, reduceIte, reduceEqDiff], f77, f78, f80, f81, f82, f83, f84, f85⟩
      rintro fr91 h101 ⟨hS102, f92, f93, f94, f95, f96, f97, f98, f99, f100⟩
      simp only [List.drop_succ_cons, List.drop_zero]
      simp only [run_ops_nil, f92, run_cond, B0, reduceIte, reduceEqDiff]
      refine cond_split (t := (((decide (x39.Client = x2.Client)) && (decide (x2.Begin < x39.End))) && (decide (x39.Begin < x2.End)))) (fun hc103 => ?_) (fun hc103 => ?_)
      · rw [iteT hc103] at hF44
        simp only [run_seq, run_reg, run_mv, run_ops_nil, run_ret, B0, reduceIte, reduceEqDiff]
        have e104 := some_inj hF44
        subst e104
        have ho105 := hr45 _ rfl
        have hk106 := hk43
        rw [ho105] at hk106
        dsimp only [jnO] at hk106
        apply hR49
        have e107 := some_inj hk106
        subst e107
        have ho108 := hr8 _ rfl
        have hk109 := hk6
        rw [ho108] at hk109
        dsimp only [jnO] at hk109
        apply hR12
        have he := some_inj hk109
        subst he
        simp only [end_ret1, B0, reduceIte, reduceEqDiff]
        exact rfl
      rw [iteF hc103] at hF44
      simp only [run_skip, run_nil, B0, reduceIte, reduceEqDiff]
      have e110 := some_inj hF44
      exact hN47 _ _ _ e110.symm ⟨f93, f94, f95, f96, f97, f98, hS102⟩ (f100) (f99)
    rintro _ fr112 h113 rfl ⟨f115, f116, f117, f118, f119, f120, hS114⟩
    dsimp only [jnO] at hk43
    unfold spec_GoodCalls_j1 at hk43
    simp only [run_nil, B0, reduceIte, reduceEqDiff]
    have e121 := some_inj hk43
    exact hN10 _ _ _ e121.symm ⟨f115, f117, hS114⟩ (f119) (f118)
  rintro _ fr124 h125 rfl ⟨f127, f128, hS126⟩
  dsimp only [jnO] at hk6
  unfold spec_GoodCalls_j2 at hk6
  simp only [x40_10, run_seq, run_reg, f127, run_mv, run_len, put1_some, xlen_lst, run_bin, xleq, run_ops_nil, run_ret, B0, reduceIte, reduceEqDiff]
  have he := some_inj hk6
  subst he
  simp only [end_ret1, B0, reduceIte, reduceEqDiff]
  exact rfl
end Go.Proofs.Ytddkoiapboeemaa.X
namespace Go.Proofs.Ytddkoiapboeemaa.X
open Go
open Nat (reduceEqDiff)
theorem spec_l1Has_x {W : Nat → Bool} {h : Heap} (hW : ∀ b,
    (geL h.length) b → W b = true) (l_0 : List Int) (n_1 : Int) (r : Bool) (hF : spec_l1Has l_0 n_1 = some r) : Ret E W 66 [lst cI l_0,
    .int .i64 n_1] h (fun v h' => cut h.length h' E.sz false 9 v = some (.bool r)) := by
  refine Ret.of (fn := x66) rfl (Run.of ?_)
  unfold spec_l1Has at hF
  have zf0 : argFr [lst cI l_0, .int .i64 n_1] 0 = lst cI l_0 := rfl
  have zf1 : argFr [lst cI l_0, .int .i64 n_1] 1 = .int .i64 n_1 := rfl
  generalize argFr [lst cI l_0, .int .i64 n_1] = fr0 at zf0 zf1 ⊢
  have hS : Sep h (geL h.length) [] := Sep.nil h
  simp only [x66, run_seq, run_reg, run_mv, run_ops_nil, x66_5, zf0, run_len, put1_some, xlen_lst, B0, reduceIte, reduceEqDiff]
  obtain ⟨oc3, hX5, hk6⟩ := jn_some hF
  simp only [x66_4]
  refine rangeL_j (σ := Unit) l_0 (fun i1 x2 _ => spec_l1Has_b1 n_1 i1 x2 ) (fun s fr' h' => fr' 1 = .int .i64 n_1 ∧ fr' 7 = lst cI l_0 ∧ Sep h' (geL h.length) ([])) hX5 ⟨zf1,
      rfl, hS⟩ (by simp only [B0, reduceIte, reduceEqDiff]) (by simp only [B0, reduceIte,
      reduceEqDiff]) (fun _ _ _ h => h) rfl rfl (fun _ _ _ _ h => h) (fun _ _ _ _ h => h) (fun _ _ _ _ h => h) (by decide) ?_ ?_
  · rintro i1 x2 _ fr15 h16 hx20 ⟨f18, f19, hS17⟩ f21 f22 oc4 hF7 hr8 Q9 hN10 hB14 hK11 hR12 hE13
    unfold spec_l1Has_b1 at hF7
    simp only [x66_2, run_seq, run_reg, f19, f21, run_ia, B0, reduceIte, reduceEqDiff]
    refine put1_eq (v := .ref (cI x2) 0) (xia_lstN hx20 rfl) ?_
    simp only [run_ld, B0, reduceIte, reduceEqDiff]
    refine put1_eq (v := .int .i64 x2) rfl ?_
    simp only [run_mv, run_ops_nil, x66_1, run_seq, run_reg, f18, run_bin, put1_some, xeql, run_cond, B0, reduceIte, reduceEqDiff]
    refine cond_split (t := (decide (x2 = n_1))) (fun hc23 => ?_) (fun hc23 => ?_)
    · rw [iteT hc23] at hF7
      simp only [run_seq, run_reg, run_mv, run_ops_nil, run_ret, B0, reduceIte, reduceEqDiff]
      have e24 := some_inj hF7
      subst e24
      have ho25 := hr8 _ rfl
      have hk26 := hk6
      rw [ho25] at hk26
      dsimp only [jnO] at hk26
      apply hR12
      have he := some_inj hk26
      subst he
      simp only [end_ret1, B0, reduceIte, reduceEqDiff]
      exact rfl
    rw [iteF hc23] at hF7
    simp only [run_skip, run_nil, B0, reduceIte, reduceEqDiff]
    have e27 := some_inj hF7
    exact hN10 _ _ _ e27.symm ⟨f18, f19, hS17⟩ (f21) (f22)
  rintro _ fr29 h30 rfl ⟨f32, f33, hS31⟩
  dsimp only [jnO] at hk6
  unfold spec_l1Has_j1 at hk6
  simp only [run_seq, run_reg, run_mv, run_ops_nil, run_ret, B0, reduceIte, reduceEqDiff]
  have he := some_inj hk6
  subst he
  simp only [end_ret1, B0, reduceIte, reduceEqDiff]
  exact rfl
theorem spec_l15Order_x {W : Nat → Bool} {h : Heap} (hW : ∀ b,
    (geL h.length) b → W b = true) (n_0 : Int) (order_1 : List Int) (r : Bool) (hF : spec_l15Order n_0 order_1 = some r) : Ret E W 52 [.int .i64 n_0,
    lst cI order_1] h (fun v h' => cut h.length h' E.sz false 9 v = some (.bool r)) := by
  refine Ret.of (fn := x52) rfl (Run.of ?_)
  unfold spec_l15Order at hF
  have zf0 : argFr [.int .i64 n_0, lst cI order_1] 0 = .int .i64 n_0 := rfl
  have zf1 : argFr [.int .i64 n_0, lst cI order_1] 1 = lst cI order_1 := rfl
  generalize argFr [.int .i64 n_0, lst cI order_1] = fr0 at zf0 zf1 ⊢
  have hS : Sep h (geL h.length) [] := Sep.nil h
  simp only [x52, run_seq, run_reg, run_mv, run_ops_nil, x52_6, zf1, run_len, put1_some, xlen_lst, B0, reduceIte, reduceEqDiff]
  obtain ⟨oc3, hX5, hk6⟩ := jn_some hF
  simp only [x52_4]
  refine rangeL_j (σ := Unit) order_1 (fun i1 x2 _ => spec_l15Order_b1 n_0 order_1 i1 x2 )
      (fun s fr' h' => fr' 0 = .int .i64 n_0 ∧ fr' 1 = lst cI order_1 ∧ fr' 7 = lst cI order_1 ∧ Sep h' (geL h.length) ([])) hX5 ⟨zf0, zf1, rfl, hS⟩ (by simp only [B0, reduceIte,
      reduceEqDiff]) (by simp only [B0, reduceIte, reduceEqDiff]) (fun _ _ _ h => h) rfl rfl (fun _ _ _ _ h => h) (fun _ _ _ _ h => h) (fun _ _ _ _ h => h) (by decide) ?_ ?_
  · rintro i1 x2 _ fr15 h16 hx21 ⟨f18, f19, f20, hS17⟩ f22 f23 oc4 hF7 hr8 Q9 hN10 hB14 hK11 hR12 hE13
    unfold spec_l15Order_b1 at hF7
    simp only [x52_2, run_seq, run_reg, f22, run_mv, f20, run_ia, B0, reduceIte, reduceEqDiff]
    refine put1_eq (v := .ref (cI x2) 0) (xia_lstN hx21 rfl) ?_
    simp only [run_ld, B0, reduceIte, reduceEqDiff]
    refine put1_eq (v := .int .i64 x2) rfl ?_
    simp only [run_mv, run_ops_nil, x52_1, run_seq, run_reg, run_bin, put1_some, xlss, B0, reduceIte, reduceEqDiff]
    refine ops_j 4 (fun fr' h' => Sep h' (geL h.length) ([]) ∧ fr' 20 = .bool ((decide (x2 < 0)) || (decide
        (n_0 ≤ x2))) ∧ fr' 0 = .int .i64 n_0 ∧ fr' 1 = lst cI order_1 ∧ fr' 5 = .int .i64 (i1 : Int) ∧ fr' 6 = .int .i64 x2 ∧ fr' 7 = lst cI order_1 ∧ fr' 8 = .int .i64
        (List.length order_1 : Int) ∧ fr' 9 = .int .i64 (i1 : Int)) (fun Q24 hN25 => ?_) ?_
    · simp only [List.take_succ_cons, List.take_zero]
      simp only [run_guard (g := 16), B0, reduceIte, reduceEqDiff]
      refine guard_split (t := (decide (x2 < 0))) (fun hg26 => ?_) (fun hg26 => ?_)
      · simp only [hg26, run_guard (g := 16), guard_off', run_pick, put1_some, xpick_t, run_ops_nil, run_nil, B0, reduceIte, reduceEqDiff]
        exact hN25 _ _ ⟨hS17, by rw [orT hg26]; simp only [B0, reduceIte, reduceEqDiff], f18, f19, rfl, rfl, f20, f23, f22⟩
      · simp only [hg26, run_guard (g := 16), guard_false, run_mv, f18, run_bin, put1_some, xgeq, run_pick, xpick_f, run_ops_nil, run_nil, B0, reduceIte, reduceEqDiff]
        exact hN25 _ _ ⟨hS17, by rw [orF hg26]; simp only [B0, reduceIte, reduceEqDiff], f18, f19, rfl, rfl, f20, f23, f22⟩
    rintro fr27 h36 ⟨hS37, f28, f29, f30, f31, f32, f33, f34, f35⟩
    simp only [List.drop_succ_cons, List.drop_zero]
    simp only [f28, run_mv, B0, reduceIte, reduceEqDiff]
    obtain ⟨v41, hx42, hF43⟩ := bind_some' hF7
    refine ops_j 6 (fun fr' h' => Sep h' (geL h.length) ([]) ∧ fr' 27 = .bool v41 ∧ fr' 0 = .int .i64 n_0 ∧ fr' 1 = lst cI order_1 ∧ fr' 7 = lst cI order_1 ∧ fr' 8 = .int .i64
        (List.length order_1 : Int) ∧ fr' 9 = .int .i64 (i1 : Int)) (fun Q38 hN39 => ?_) ?_
    · simp only [List.take_succ_cons, List.take_zero]
      simp only [run_guard (g := 21), B0, reduceIte, reduceEqDiff]
      refine guard_split (t := ((decide (x2 < 0)) || (decide (n_0 ≤ x2)))) (fun hg40 => ?_) (fun hg40 => ?_)
      · rw [iteT hg40] at hx42
        simp only [hg40, run_guard (g := 21), guard_off', run_pick, put1_some, xpick_t, run_ops_nil, run_nil, B0, reduceIte, reduceEqDiff]
        have e44 := some_inj hx42
        exact hN39 _ _ ⟨hS37, by rw [← e44]; simp only [B0, reduceIte, reduceEqDiff], f29, f30, f33, f34, f35⟩
      · rw [iteF hg40] at hx42
        obtain ⟨l45, hx46, hF47⟩ := bind_some' hx42
        simp only [hg40, run_guard (g := 21), guard_false, f30, run_mv, f31, run_slc, Option.map_some, Option.map_none, B0, reduceIte, reduceEqDiff]
        refine put1_eq (pslc_lst_hi hx46 (fun _ => rfl)) ?_
        obtain ⟨v48, hx49, hF50⟩ := bind_some' hF47
        simp only [hg40, run_guard (g := 21), guard_false, f32, run_mv, run_call, B0, reduceIte, reduceEqDiff]
        refine call1 rfl (mapM1 snap_lst (mapM1 snap_int mapM0)) (spec_l1Has_x (fun b hb => decide_eq_true hb) l45 x2 v48 hx49) ?_
        simp only [hg40, run_pick, put1_some, xpick_f, run_ops_nil, run_nil, B0, reduceIte, reduceEqDiff]
        have e51 := some_inj hF50
        exact hN39 _ _ ⟨hS37, by rw [← e51]; simp only [B0, reduceIte, reduceEqDiff], f29, f30, f33, f34, f35⟩
    rintro fr52 h59 ⟨hS60, f53, f54, f55, f56, f57, f58⟩
    simp only [List.drop_succ_cons, List.drop_zero]
    simp only [run_ops_nil, f53, run_cond, B0, reduceIte, reduceEqDiff]
    refine cond_split (t := v41) (fun hc61 => ?_) (fun hc61 => ?_)
    · rw [iteT hc61] at hF43
      simp only [run_seq, run_reg, run_mv, run_ops_nil, run_ret, B0, reduceIte, reduceEqDiff]
      have e62 := some_inj hF43
      subst e62
      have ho63 := hr8 _ rfl
      have hk64 := hk6
      rw [ho63] at hk64
      dsimp only [jnO] at hk64
      apply hR12
      have he := some_inj hk64
      subst he
      simp only [end_ret1, B0, reduceIte, reduceEqDiff]
      exact rfl
    rw [iteF hc61] at hF43
    simp only [run_skip, run_nil, B0, reduceIte, reduceEqDiff]
    have e65 := some_inj hF43
    exact hN10 _ _ _ e65.symm ⟨f54, f55, f56, hS60⟩ (f58) (f57)
  rintro _ fr67 h68 rfl ⟨f70, f71, f72, hS69⟩
  dsimp only [jnO] at hk6
  unfold spec_l15Order_j1 at hk6
  simp only [x52_5, run_seq, run_reg, f71, run_mv, run_len, put1_some, xlen_lst, f70, run_bin, xeql, run_ops_nil, run_ret, B0, reduceIte, reduceEqDiff]
  have he := some_inj hk6
  subst he
  simp only [end_ret1, B0, reduceIte, reduceEqDiff]
  exact rfl
theorem spec_l15Legal_x {W : Nat → Bool} {h : Heap} (hW : ∀ b,
    (geL h.length) b → W b = true) (l_0 : List Call) (order_1 : List Int) (r : Bool) (hF : spec_l15Legal l_0 order_1 = some r) : Ret E W 57 [lst Call.cells l_0,
    lst cI order_1] h (fun v h' => cut h.length h' E.sz false 9 v = some (.bool r)) := by
  refine Ret.of (fn := x57) rfl (Run.of ?_)
  unfold spec_l15Legal at hF
  have zf0 : argFr [lst Call.cells l_0, lst cI order_1] 0 = lst Call.cells l_0 := rfl
  have zf1 : argFr [lst Call.cells l_0, lst cI order_1] 1 = lst cI order_1 := rfl
  generalize argFr [lst Call.cells l_0, lst cI order_1] = fr0 at zf0 zf1 ⊢
  have hS : Sep h (geL h.length) [] := Sep.nil h
  obtain ⟨l1, hx2, hF3⟩ := bind_some' hF
  simp only [x57, run_seq, run_reg, run_mv, run_ops_nil, x57_10, run_mkS, B0, reduceIte, reduceEqDiff]
  refine put2_mkSF (f := cI) (z := (0 : Int)) hS hx2 rfl (fun v4 c5 h6 hv7 hS8 => ?_)
  simp only [run_mv, run_ops_nil, x57_9, run_seq, run_reg, zf1, run_len, put1_some, xlen_lst, B0, reduceIte, reduceEqDiff]
  obtain ⟨oc18, hX20, hk21⟩ := jn_some hF3
  simp only [x57_8]
  refine rangeL_j (σ := (List Int)) order_1 (fun i16 x17 s72 => spec_l15Legal_b1 l_0 i16 x17 s72) (fun s fr' h' => ∃ c14,
      fr' 0 = lst Call.cells l_0 ∧ fr' 5 = v4 ∧ fr' 10 = lst cI order_1 ∧ SlF cI 1 3 v4 s c14 ∧ Sep h' (geL h.length) (c14 ++ ([]))) hX20 ⟨c5, zf0, rfl, rfl, hv7,
      hS8⟩ (by simp only [B0, reduceIte, reduceEqDiff]) (by simp only [B0, reduceIte,
      reduceEqDiff]) (fun _ _ _ h => h) rfl rfl (fun _ _ _ _ h => h) (fun _ _ _ _ h => h) (fun _ _ _ _ h => h) (by decide) ?_ ?_
  · rintro i16 x17 s13 fr30 h31 hx36 ⟨c14, f33, f34, f35, hv15, hS32⟩ f37 f38 oc19 hF22 hr23 Q24 hN25 hB29 hK26 hR27 hE28
    unfold spec_l15Legal_b1 at hF22
    simp only [x57_6, run_seq, run_reg, f35, f37, run_ia, B0, reduceIte, reduceEqDiff]
    refine put1_eq (v := .ref (cI x17) 0) (xia_lstN hx36 rfl) ?_
    simp only [run_ld, B0, reduceIte, reduceEqDiff]
    refine put1_eq (v := .int .i64 x17) rfl ?_
    obtain ⟨x39, hx40, hF41⟩ := bind_some' hF22
    simp only [run_mv, run_ops_nil, x57_5, run_seq, run_reg, f33, run_ia, B0, reduceIte, reduceEqDiff]
    refine put1_eq (v := .ref (Call.cells x39) 0) (xia_lst hx40 rfl) ?_
    simp only [run_ld, B0, reduceIte, reduceEqDiff]
    refine put1_eq (v := .agg [.int .i64 x39.Client, .int .i64 x39.Object, .bool x39.Write, .int .i64 x39.Value, .int .i64 x39.Begin, .int .i64 x39.End]) rfl ?_
    simp only [run_new, B0, reduceIte, reduceEqDiff]
    refine put2_newC hS32 (fun b42 h43 hS44 => ?_)
    simp only [run_st, B0, reduceIte, reduceEqDiff]
    refine put2_stCx (us := [.int .i64 x39.Client, .int .i64 x39.Object, .bool x39.Write, .int .i64 x39.Value, .int .i64 x39.Begin,
        .int .i64 x39.End]) rfl (cs' := [.int .i64 x39.Client, .int .i64 x39.Object, .bool x39.Write, .int .i64 x39.Value, .int .i64 x39.Begin,
        .int .i64 x39.End]) hS44 hW rfl rfl (nle rfl) rfl (fun h46 hS47 => ?_)
    simp only [run_ops_nil, B0, reduceIte, reduceEqDiff]
    refine frz_stepC hS47 hW (by simp only [B0, reduceIte, reduceEqDiff]) (fun h48 hS49 => ?_)
    simp only [run_frz_nil, x57_4, run_seq, run_reg, run_fa, put1_some, Nat.reduceAdd, Nat.zero_add, Nat.add_zero, xfa_ref, run_ld, B0, reduceIte, reduceEqDiff]
    refine put1_eq (v := .bool x39.Write) rfl ?_
    simp only [run_ops_nil, x57_3, run_cond, B0, reduceIte, reduceEqDiff]
    refine cond_split (t := x39.Write) (fun hc50 => ?_) (fun hc50 => ?_)
    · rw [iteT hc50] at hF41
      simp only [x57_1, run_reg, f34, run_mv, run_fa, put1_some, Nat.reduceAdd, Nat.zero_add, Nat.add_zero, xfa_ref, run_ld, B0, reduceIte, reduceEqDiff]
      refine put1_eq (v := .int .i64 x39.Object) rfl ?_
      simp only [run_fa, put1_some, Nat.reduceAdd, Nat.zero_add, Nat.add_zero, xfa_ref, run_ld, B0, reduceIte, reduceEqDiff]
      refine put1_eq (v := .int .i64 x39.Value) rfl ?_
      obtain ⟨x51, hx52, hF53⟩ := bind_some' hF41
      simp only [run_ia, B0, reduceIte, reduceEqDiff]
      obtain ⟨b54, hb55⟩ := SlF.isrow hv15 (geti_ne hx52)
      refine put1_eq (SlF.ia hv15 hb55 hx52) ?_
      simp only [run_st, B0, reduceIte, reduceEqDiff]
      refine put2_stF (f := cI) (x' := x39.Value) (o := 0) hv15 hS49 hW hb55 hx52 (fun _ => rfl) rfl rfl (nle rfl) rfl (fun c58 h56 hv59 hS57 => ?_)
      have hx60 := geti_set (x' := x39.Value) hx52
      simp only [run_ops_nil, run_nil, B0, reduceIte, reduceEqDiff]
      have e61 := some_inj hF53
      exact hN25 _ _ _ e61.symm ⟨c58, f33, f34, f35, hv59, hS57⟩ (f37) (f38)
    rw [iteF hc50] at hF41
    simp only [x57_2, run_seq, run_draw, f34, d4_mv, put1d_some, d4_fa, Nat.reduceAdd, Nat.zero_add, Nat.add_zero, xfa_ref, d4_ld, B0, reduceIte, reduceEqDiff]
    refine put1d_eq (v := .int .i64 x39.Object) rfl ?_
    obtain ⟨x62, hx63, hF64⟩ := bind_some' hF41
    simp only [d4_ia, B0, reduceIte, reduceEqDiff]
    obtain ⟨b65, hb66⟩ := SlF.isrow hv15 (geti_ne hx63)
    refine put1d_eq (SlF.ia hv15 hb66 hx63) ?_
    simp only [d4_ld, B0, reduceIte, reduceEqDiff]
    refine put1d_eq (v := .int .i64 x62) ((SlF.ld (o := 0) hv15 hS49 hb66 hx63 (fun _ => rfl) (nle rfl)).trans rfl) ?_
    simp only [d4_fa, put1d_some, Nat.reduceAdd, Nat.zero_add, Nat.add_zero, xfa_ref, d4_ld, B0, reduceIte, reduceEqDiff]
    refine put1d_eq (v := .int .i64 x39.Value) rfl ?_
    simp only [d4_bin, put1d_some, xneq, run_draw_nil, run_cond, B0, reduceIte, reduceEqDiff]
    refine cond_split (t := (decide (x62 ≠ x39.Value))) (fun hc67 => ?_) (fun hc67 => ?_)
    · rw [iteT hc67] at hF64
      simp only [run_seq, run_reg, run_mv, run_ops_nil, run_ret, B0, reduceIte, reduceEqDiff]
      have e68 := some_inj hF64
      subst e68
      have ho69 := hr23 _ rfl
      have hk70 := hk21
      rw [ho69] at hk70
      dsimp only [jnO] at hk70
      apply hR27
      have he := some_inj hk70
      subst he
      simp only [end_ret1, B0, reduceIte, reduceEqDiff]
      exact rfl
    rw [iteF hc67] at hF64
    simp only [run_skip, run_nil, B0, reduceIte, reduceEqDiff]
    have e71 := some_inj hF64
    exact hN25 _ _ _ e71.symm ⟨c14, f33, f34, f35, hv15, hS49⟩ (f37) (f38)
  rintro s73 fr76 h77 rfl ⟨c74, f79, f80, f81, hv75, hS78⟩
  dsimp only [jnO] at hk21
  unfold spec_l15Legal_j1 at hk21
  simp only [run_seq, run_reg, run_mv, run_ops_nil, run_ret, B0, reduceIte, reduceEqDiff]
  have he := some_inj hk21
  subst he
  simp only [end_ret1, B0, reduceIte, reduceEqDiff]
  exact rfl
theorem spec_IsLegal_x {W : Nat → Bool} {h : Heap} (hW : ∀ b,
    (geL h.length) b → W b = true) (l_0 : List Call) (order_1 : List Int) (r : Bool × Bool) (hF : spec_IsLegal l_0 order_1 = some r) : Ret E W 30 [lst Call.cells l_0,
    lst cI order_1] h (fun v h' => cut h.length h' E.sz false 9 v = some (.tup [.bool r.1, .bool r.2])) := by
  refine Ret.of (fn := x30) rfl (Run.of ?_)
  unfold spec_IsLegal at hF
  have zf0 : argFr [lst Call.cells l_0, lst cI order_1] 0 = lst Call.cells l_0 := rfl
  have zf1 : argFr [lst Call.cells l_0, lst cI order_1] 1 = lst cI order_1 := rfl
  generalize argFr [lst Call.cells l_0, lst cI order_1] = fr0 at zf0 zf1 ⊢
  have hS : Sep h (geL h.length) [] := Sep.nil h
  obtain ⟨v1, hx2, hF3⟩ := bind_some' hF
  simp only [x30, run_seq, run_reg, run_mv, run_ops_nil, x30_3, zf0, run_call, B0, reduceIte, reduceEqDiff]
  refine call1 rfl (mapM1 snap_lst mapM0) (spec_GoodCalls_x (fun b hb => decide_eq_true hb) l_0 v1 hx2) ?_
  simp only [run_un, put1_some, xnot, run_mv, B0, reduceIte, reduceEqDiff]
  obtain ⟨v7, hx8, hF9⟩ := bind_some' hF3
  refine ops_j 6 (fun fr' h' => Sep h' (geL h.length) ([]) ∧ fr' 15 = .bool v7 ∧ fr' 0 = lst Call.cells l_0 ∧ fr' 1 = lst cI order_1) (fun Q4 hN5 => ?_) ?_
  · simp only [List.take_succ_cons, List.take_zero]
    simp only [run_guard (g := 9), B0, reduceIte, reduceEqDiff]
    refine guard_split (t := (!v1)) (fun hg6 => ?_) (fun hg6 => ?_)
    · rw [iteT hg6] at hx8
      simp only [hg6, run_guard (g := 9), guard_off', run_pick, put1_some, xpick_t, run_ops_nil, run_nil, B0, reduceIte, reduceEqDiff]
      have e10 := some_inj hx8
      exact hN5 _ _ ⟨hS, by rw [← e10]; simp only [B0, reduceIte, reduceEqDiff], zf0, zf1⟩
    · rw [iteF hg6] at hx8
      obtain ⟨v11, hx12, hF13⟩ := bind_some' hx8
      simp only [hg6, run_guard (g := 9), guard_false, zf0, run_mv, run_len, put1_some, xlen_lst, zf1, run_call, B0, reduceIte, reduceEqDiff]
      refine call1 rfl (mapM1 snap_int (mapM1 snap_lst mapM0)) (spec_l15Order_x (fun b hb => decide_eq_true hb) (List.length l_0 : Int) order_1 v11 hx12) ?_
      simp only [hg6, run_guard (g := 9), guard_false, run_un, put1_some, xnot, run_pick, xpick_f, run_ops_nil, run_nil, B0, reduceIte, reduceEqDiff]
      have e14 := some_inj hF13
      exact hN5 _ _ ⟨hS, by rw [← e14]; simp only [B0, reduceIte, reduceEqDiff], zf0, zf1⟩
  rintro fr15 h19 ⟨hS20, f16, f17, f18⟩
  simp only [List.drop_succ_cons, List.drop_zero]
  simp only [run_ops_nil, x30_1, f16, run_cond, B0, reduceIte, reduceEqDiff]
  refine cond_split (t := v7) (fun hc21 => ?_) (fun hc21 => ?_)
  · rw [iteT hc21] at hF9
    simp only [run_seq, run_reg, run_mv, run_ops_nil, run_ret, B0, reduceIte, reduceEqDiff]
    have he := some_inj hF9
    subst he
    simp only [end_ret2, B0, reduceIte, reduceEqDiff]
    exact cut_tup (mapM1 rfl (mapM1 rfl mapM0))
  rw [iteF hc21] at hF9
  obtain ⟨v22, hx23, hF24⟩ := bind_some' hF9
  simp only [run_skip, x30_2, run_seq, run_reg, f17, run_mv, f18, run_call, B0, reduceIte, reduceEqDiff]
  refine call1 rfl (mapM1 snap_lst (mapM1 snap_lst mapM0)) (spec_l15Legal_x (fun b hb => decide_eq_true hb) l_0 order_1 v22 hx23) ?_
  simp only [run_mv, run_ops_nil, run_ret, B0, reduceIte, reduceEqDiff]
  have he := some_inj hF24
  subst he
  simp only [end_ret2, B0, reduceIte, reduceEqDiff]
  exact cut_tup (mapM1 rfl (mapM1 rfl mapM0))
theorem impl_in_x {W : Nat → Bool} {h : Heap} (hW : ∀ b,
    (geL h.length) b → W b = true) (n_0 : Int) (low_1 : Int) (high_2 : Int) (r : Bool) (hF : some (impl_in n_0 low_1 high_2) = some r) : Ret E W 44 [.int .i64 n_0,
    .int .i64 low_1, .int .i64 high_2] h (fun v h' => cut h.length h' E.sz false 9 v = some (.bool r)) := by
  refine Ret.of (fn := x44) rfl (Run.of ?_)
  unfold impl_in at hF
  have zf0 : argFr [.int .i64 n_0, .int .i64 low_1, .int .i64 high_2] 0 = .int .i64 n_0 := rfl
  have zf1 : argFr [.int .i64 n_0, .int .i64 low_1, .int .i64 high_2] 1 = .int .i64 low_1 := rfl
  have zf2 : argFr [.int .i64 n_0, .int .i64 low_1, .int .i64 high_2] 2 = .int .i64 high_2 := rfl
  generalize argFr [.int .i64 n_0, .int .i64 low_1, .int .i64 high_2] = fr0 at zf0 zf1 zf2 ⊢
  have hS : Sep h (geL h.length) [] := Sep.nil h
  simp only [x44, run_seq, run_reg, run_mv, run_ops_nil, x44_1, zf0, zf1, run_bin, put1_some, xgeq, B0, reduceIte, reduceEqDiff]
  refine ops_j 4 (fun fr' h' => Sep h' (geL h.length) ([]) ∧ fr' 14 = .bool ((decide (low_1 ≤ n_0)) && (decide (n_0 ≤ high_2)))) (fun Q1 hN2 => ?_) ?_
  · simp only [List.take_succ_cons, List.take_zero]
    simp only [run_guard (g := 10), B0, reduceIte, reduceEqDiff]
    refine guard_split (t := (decide (low_1 ≤ n_0))) (fun hg3 => ?_) (fun hg3 => ?_)
    · simp only [hg3, run_guard (g := 10), guard_true, zf0, run_mv, zf2, run_bin, put1_some, xleq, run_pick, xpick_t, run_ops_nil, run_nil, B0, reduceIte, reduceEqDiff]
      exact hN2 _ _ ⟨hS, by rw [andT hg3]; simp only [B0, reduceIte, reduceEqDiff]⟩
    · simp only [hg3, run_guard (g := 10), guard_off, run_pick, put1_some, xpick_f, run_ops_nil, run_nil, B0, reduceIte, reduceEqDiff]
      exact hN2 _ _ ⟨hS, by rw [andF hg3]; simp only [B0, reduceIte, reduceEqDiff]⟩
  rintro fr4 h6 ⟨hS7, f5⟩
  simp only [List.drop_succ_cons, List.drop_zero]
  simp only [f5, run_mv, run_ops_nil, run_ret, B0, reduceIte, reduceEqDiff]
  have he := some_inj hF
  subst he
  simp only [end_ret1, B0, reduceIte, reduceEqDiff]
  exact rfl
theorem impl_areCalls_x {W : Nat → Bool} {h : Heap} (hW : ∀ b,
    (geL h.length) b → W b = true) (v_0 : List Call) (r : Bool) (hF : impl_areCalls v_0 = some r) : Ret E W 43 [lst Call.cells v_0] h
    (fun v h' => cut h.length h' E.sz false 9 v = some (.bool r)) := by
  refine Ret.of (fn := x43) rfl (Run.of ?_)
  unfold impl_areCalls at hF
  have zf0 : argFr [lst Call.cells v_0] 0 = lst Call.cells v_0 := rfl
  generalize argFr [lst Call.cells v_0] = fr0 at zf0 ⊢
  have hS : Sep h (geL h.length) [] := Sep.nil h
  simp only [x43, run_seq, run_reg, run_mv, run_ops_nil, x43_13, zf0, run_len, put1_some, xlen_lst, B0, reduceIte, reduceEqDiff]
  obtain ⟨oc3, hX5, hk6⟩ := jn_some hF
  simp only [x43_11]
  refine rangeL_j (σ := Unit) v_0 (fun i1 x2 _ => impl_areCalls_b2 v_0 i1 x2 ) (fun s fr' h' => fr' 0 = lst Call.cells v_0 ∧ fr' 8 = lst Call.cells v_0 ∧ Sep h' (geL h.length)
      ([])) hX5 ⟨zf0, rfl, hS⟩ (by simp only [B0, reduceIte, reduceEqDiff]) (by simp only [B0, reduceIte,
      reduceEqDiff]) (fun _ _ _ h => h) rfl rfl (fun _ _ _ _ h => h) (fun _ _ _ _ h => h) (fun _ _ _ _ h => h) (by decide) ?_ ?_
  · rintro i1 x2 _ fr15 h16 hx20 ⟨f18, f19, hS17⟩ f21 f22 oc4 hF7 hr8 Q9 hN10 hB14 hK11 hR12 hE13
    unfold impl_areCalls_b2 at hF7
    simp only [x43_9, run_seq, run_reg, f21, run_mv, f19, run_ia, B0, reduceIte, reduceEqDiff]
    refine put1_eq (v := .ref (Call.cells x2) 0) (xia_lstN hx20 rfl) ?_
    simp only [run_ld, B0, reduceIte, reduceEqDiff]
    refine put1_eq (v := .agg [.int .i64 x2.Client, .int .i64 x2.Object, .bool x2.Write, .int .i64 x2.Value, .int .i64 x2.Begin, .int .i64 x2.End]) rfl ?_
    simp only [run_new, B0, reduceIte, reduceEqDiff]
    refine put2_newC hS17 (fun b23 h24 hS25 => ?_)
    simp only [run_mv, run_st, B0, reduceIte, reduceEqDiff]
    refine put2_stCx (us := [.int .i64 x2.Client, .int .i64 x2.Object, .bool x2.Write, .int .i64 x2.Value, .int .i64 x2.Begin, .int .i64 x2.End]) rfl (cs' := [.int .i64 x2.Client,
        .int .i64 x2.Object, .bool x2.Write, .int .i64 x2.Value, .int .i64 x2.Begin, .int .i64 x2.End]) hS25 hW rfl rfl (nle rfl) rfl (fun h27 hS28 => ?_)
    simp only [run_ops_nil, B0, reduceIte, reduceEqDiff]
    refine frz_stepC hS28 hW (by simp only [B0, reduceIte, reduceEqDiff]) (fun h29 hS30 => ?_)
    simp only [run_frz_nil, x43_8, run_seq, run_reg, run_mv, run_ops_nil, x43_7, run_fa, put1_some, Nat.reduceAdd, Nat.zero_add, Nat.add_zero, xfa_ref, run_ld, B0, reduceIte,
        reduceEqDiff]
    refine put1_eq (v := .bool x2.Write) rfl ?_
    simp only [run_ops_nil, run_cond, B0, reduceIte, reduceEqDiff]
    obtain ⟨s31, hX33, hk34⟩ := bind_some' hF7
    refine cond_j (t := x2.Write) (fun fr' h' => fr' 0 = lst Call.cells v_0 ∧ fr' 3 = .int .i64 (i1 : Int) ∧ fr' 4 = .ref [.int .i64 x2.Client, .int .i64 x2.Object,
        .bool x2.Write, .int .i64 x2.Value, .int .i64 x2.Begin,
        .int .i64 x2.End] 0 ∧ fr' 5 = .int .i64 s31 ∧ fr' 8 = lst Call.cells v_0 ∧ fr' 9 = .int .i64 (List.length v_0 : Int) ∧ fr' 10 = .int .i64 (i1 : Int) ∧ Sep h'
        (geL h.length) ([])) (fun Q35 hN36 hR37 hE38 => ⟨fun hc39 => ?_, fun hc39 => ?_⟩) ?_
    · rw [iteT hc39] at hX33
      simp only [run_reg, run_mv, run_ops_nil, run_nil, B0, reduceIte, reduceEqDiff]
      have e40 := some_inj hX33
      subst e40
      exact hN36 _ _ ⟨f18, rfl, rfl, rfl, f19, f22, f21, hS30⟩
    · rw [iteF hc39] at hX33
      simp only [run_skip, run_nil, B0, reduceIte, reduceEqDiff]
      have e41 := some_inj hX33
      subst e41
      exact hN36 _ _ ⟨f18, rfl, rfl, rfl, f19, f22, f21, hS30⟩
    rintro fr42 h43 ⟨f45, f46, f47, f48, f49, f50, f51, hS44⟩
    unfold impl_areCalls_j1 at hk34
    simp only [x43_6, run_seq, run_reg, f47, run_fa, put1_some, Nat.reduceAdd, Nat.zero_add, Nat.add_zero, xfa_ref, run_ld, B0, reduceIte, reduceEqDiff]
    refine put1_eq (v := .int .i64 x2.Client) rfl ?_
    simp only [run_call, B0, reduceIte, reduceEqDiff]
    refine call1 rfl (mapM1 snap_int (mapM1 snap_int (mapM1 snap_int mapM0))) (impl_in_x (fun b hb => decide_eq_true hb) x2.Client 0 3 _ rfl) ?_
    simp only [run_un, put1_some, xnot, run_mv, B0, reduceIte, reduceEqDiff]
    refine ops_j 5 (fun fr' h' => Sep h' (geL h.length) ([]) ∧ fr' 26 = .bool ((!(impl_in x2.Client 0 3)) ||
        (!(impl_in x2.Object 0 2))) ∧ fr' 0 = lst Call.cells v_0 ∧ fr' 3 = .int .i64 (i1 : Int) ∧ fr' 4 = .ref [.int .i64 x2.Client, .int .i64 x2.Object, .bool x2.Write,
        .int .i64 x2.Value, .int .i64 x2.Begin,
        .int .i64 x2.End] 0 ∧ fr' 5 = .int .i64 s31 ∧ fr' 8 = lst Call.cells v_0 ∧ fr' 9 = .int .i64 (List.length v_0 : Int) ∧ fr' 10 = .int .i64 (i1 : Int))
        (fun Q52 hN53 => ?_) ?_
    · simp only [List.take_succ_cons, List.take_zero]
      simp only [run_guard (g := 21), B0, reduceIte, reduceEqDiff]
      refine guard_split (t := (!(impl_in x2.Client 0 3))) (fun hg54 => ?_) (fun hg54 => ?_)
      · simp only [hg54, run_guard (g := 21), guard_off', run_pick, put1_some, xpick_t, run_ops_nil, run_nil, B0, reduceIte, reduceEqDiff]
        exact hN53 _ _ ⟨hS44, by rw [orT hg54]; simp only [B0, reduceIte, reduceEqDiff], f45, f46, f47, f48, f49, f50, f51⟩
      · simp only [hg54, run_guard (g := 21), guard_false, f47, run_fa, put1_some, Nat.reduceAdd, Nat.zero_add, Nat.add_zero, xfa_ref, run_ld, B0, reduceIte, reduceEqDiff]
        refine put1_eq (v := .int .i64 x2.Object) rfl ?_
        simp only [hg54, run_guard (g := 21), guard_false, run_call, B0, reduceIte, reduceEqDiff]
        refine call1 rfl (mapM1 snap_int (mapM1 snap_int (mapM1 snap_int mapM0))) (impl_in_x (fun b hb => decide_eq_true hb) x2.Object 0 2 _ rfl) ?_
        simp only [hg54, run_guard (g := 21), guard_false, run_un, put1_some, xnot, run_pick, xpick_f, run_ops_nil, run_nil, B0, reduceIte, reduceEqDiff]
        exact hN53 _ _ ⟨hS44, by rw [orF hg54]; simp only [B0, reduceIte, reduceEqDiff], f45, f46, f47, f48, f49, f50, f51⟩
    rintro fr55 h64 ⟨hS65, f56, f57, f58, f59, f60, f61, f62, f63⟩
    simp only [List.drop_succ_cons, List.drop_zero]
    simp only [f56, run_mv, B0, reduceIte, reduceEqDiff]
    refine ops_j 6 (fun fr' h' => Sep h' (geL h.length) ([]) ∧ fr' 33 = .bool (((!(impl_in x2.Client 0 3)) || (!(impl_in x2.Object 0 2))) ||
        (!(impl_in x2.Value s31 9))) ∧ fr' 0 = lst Call.cells v_0 ∧ fr' 3 = .int .i64 (i1 : Int) ∧ fr' 4 = .ref [.int .i64 x2.Client, .int .i64 x2.Object, .bool x2.Write,
        .int .i64 x2.Value, .int .i64 x2.Begin,
        .int .i64 x2.End] 0 ∧ fr' 8 = lst Call.cells v_0 ∧ fr' 9 = .int .i64 (List.length v_0 : Int) ∧ fr' 10 = .int .i64 (i1 : Int)) (fun Q66 hN67 => ?_) ?_
    · simp only [List.take_succ_cons, List.take_zero]
      simp only [run_guard (g := 27), B0, reduceIte, reduceEqDiff]
      refine guard_split (t := ((!(impl_in x2.Client 0 3)) || (!(impl_in x2.Object 0 2)))) (fun hg68 => ?_) (fun hg68 => ?_)
      · simp only [hg68, run_guard (g := 27), guard_off', run_pick, put1_some, xpick_t, run_ops_nil, run_nil, B0, reduceIte, reduceEqDiff]
        exact hN67 _ _ ⟨hS65, by rw [orT hg68]; simp only [B0, reduceIte, reduceEqDiff], f57, f58, f59, f61, f62, f63⟩
      · simp only [hg68, run_guard (g := 27), guard_false, f59, run_fa, put1_some, Nat.reduceAdd, Nat.zero_add, Nat.add_zero, xfa_ref, run_ld, B0, reduceIte, reduceEqDiff]
        refine put1_eq (v := .int .i64 x2.Value) rfl ?_
        simp only [hg68, run_guard (g := 27), guard_false, f60, run_mv, run_call, B0, reduceIte, reduceEqDiff]
        refine call1 rfl (mapM1 snap_int (mapM1 snap_int (mapM1 snap_int mapM0))) (impl_in_x (fun b hb => decide_eq_true hb) x2.Value s31 9 _ rfl) ?_
        simp only [hg68, run_guard (g := 27), guard_false, run_un, put1_some, xnot, run_pick, xpick_f, run_ops_nil, run_nil, B0, reduceIte, reduceEqDiff]
        exact hN67 _ _ ⟨hS65, by rw [orF hg68]; simp only [B0, reduceIte, reduceEqDiff], f57, f58, f59, f61, f62, f63⟩
    rintro fr69 h77 ⟨hS78, f70, f71, f72, f73, f74, f75, f76⟩
    simp only [List.drop_succ_cons, List.drop_zero]
    simp only [f70, run_mv, B0, reduceIte, reduceEqDiff]
    refine ops_j 5 (fun fr' h' => Sep h' (geL h.length) ([]) ∧ fr' 39 = .bool ((((!(impl_in x2.Client 0 3)) || (!(impl_in x2.Object 0 2))) || (!(impl_in x2.Value s31 9))) ||
        (!(impl_in x2.Begin 0 100))) ∧ fr' 0 = lst Call.cells v_0 ∧ fr' 3 = .int .i64 (i1 : Int) ∧ fr' 4 = .ref [.int .i64 x2.Client, .int .i64 x2.Object, .bool x2.Write,
        .int .i64 x2.Value, .int .i64 x2.Begin,
        .int .i64 x2.End] 0 ∧ fr' 8 = lst Call.cells v_0 ∧ fr' 9 = .int .i64 (List.length v_0 : Int) ∧ fr' 10 = .int .i64 (i1 : Int)) (fun Q79 hN80 => ?_) ?_
    · simp only [List.take_succ_cons, List.take_zero]
      simp only [run_guard (g := 34), B0, reduceIte, reduceEqDiff]
      refine guard_split (t := (((!(impl_in x2.Client 0 3)) || (!(impl_in x2.Object 0 2))) || (!(impl_in x2.Value s31 9)))) (fun hg81 => ?_) (fun hg81 => ?_)
      · simp only [hg81, run_guard (g := 34), guard_off', run_pick, put1_some, xpick_t, run_ops_nil, run_nil, B0, reduceIte, reduceEqDiff]
        exact hN80 _ _ ⟨hS78, by rw [orT hg81]; simp only [B0, reduceIte, reduceEqDiff], f71, f72, f73, f74, f75, f76⟩
      · simp only [hg81, run_guard (g := 34), guard_false, f73, run_fa, put1_some, Nat.reduceAdd, Nat.zero_add, Nat.add_zero, xfa_ref, run_ld, B0, reduceIte, reduceEqDiff]
        refine put1_eq (v := .int .i64 x2.Begin) rfl ?_
        simp only [hg81, run_guard (g := 34), guard_false, run_call, B0, reduceIte, reduceEqDiff]
        refine call1 rfl (mapM1 snap_int (mapM1 snap_int (mapM1 snap_int mapM0))) (impl_in_x (fun b hb => decide_eq_true hb) x2.Begin 0 100 _ rfl) ?_
        simp only [hg81, run_guard (g := 34), guard_false, run_un, put1_some, xnot, run_pick, xpick_f, run_ops_nil, run_nil, B0, reduceIte, reduceEqDiff]
        exact hN80 _ _ ⟨hS78, by rw [orF hg81]; simp only [B0, reduceIte, reduceEqDiff], f71, f72, f73, f74, f75, f76⟩
    rintro fr82 h90 ⟨hS91, f83, f84, f85, f86, f87, f88, f89⟩
    simp only [List.drop_succ_cons, List.drop_zero]
    simp only [f83, run_mv, B0, reduceIte, reduceEqDiff]
    refine ops_j 5 (fun fr' h' => Sep h' (geL h.length) ([]) ∧ fr' 45 = .bool (((((!(impl_in x2.Client 0 3)) || (!(impl_in x2.Object 0 2))) || (!(impl_in x2.Value s31 9))) ||
        (!(impl_in x2.Begin 0 100))) || (!(impl_in x2.End 0 100))) ∧ fr' 0 = lst Call.cells v_0 ∧ fr' 3 = .int .i64 (i1 : Int) ∧ fr' 4 = .ref [.int .i64 x2.Client,
        .int .i64 x2.Object, .bool x2.Write, .int .i64 x2.Value, .int .i64 x2.Begin,
        .int .i64 x2.End] 0 ∧ fr' 8 = lst Call.cells v_0 ∧ fr' 9 = .int .i64 (List.length v_0 : Int) ∧ fr' 10 = .int .i64 (i1 : Int)) (fun Q92 hN93 => ?_) ?_
    · simp only [List.take_succ_cons, List.take_zero]
      simp only [run_guard (g := 40), B0, reduceIte, reduceEqDiff]
      refine guard_split (t := ((((!(impl_in x2.Client 0 3)) || (!(impl_in x2.Object 0 2))) || (!(impl_in x2.Value s31 9))) || (!(impl_in x2.Begin 0 100)))) (fun hg94 => ?_)
          (fun hg94 => ?_)
      · simp only [hg94, run_guard (g := 40), guard_off', run_pick, put1_some, xpick_t, run_ops_nil, run_nil, B0, reduceIte, reduceEqDiff]
        exact hN93 _ _ ⟨hS91, by rw [orT hg94]; simp only [B0, reduceIte, reduceEqDiff], f84, f85, f86, f87, f88, f89⟩
      · simp only [hg94, run_guard (g := 40), guard_false, f86, run_fa, put1_some, Nat.reduceAdd, Nat.zero_add, Nat.add_zero, xfa_ref, run_ld, B0, reduceIte, reduceEqDiff]
        refine put1_eq (v := .int .i64 x2.End) rfl ?_
        simp only [hg94, run_guard (g := 40), guard_false, run_call, B0, reduceIte, reduceEqDiff]
        refine call1 rfl (mapM1 snap_int (mapM1 snap_int (mapM1 snap_int mapM0))) (impl_in_x (fun b hb => decide_eq_true hb) x2.End 0 100 _ rfl) ?_
        simp only [hg94, run_guard (g := 40), guard_false, run_un, put1_some, xnot, run_pick, xpick_f, run_ops_nil, run_nil, B0, reduceIte, reduceEqDiff]
        exact hN93 _ _ ⟨hS91, by rw [orF hg94]; simp only [B0, reduceIte, reduceEqDiff], f84, f85, f86, f87, f88, f89⟩
    rintro fr95 h103 ⟨hS104, f96, f97, f98, f99, f100, f101, f102⟩
    simp only [List.drop_succ_cons, List.drop_zero]
    simp only [f96, run_mv, B0, reduceIte, reduceEqDiff]
    refine ops_j 6 (fun fr' h' => Sep h' (geL h.length) ([]) ∧ fr' 52 = .bool ((((((!(impl_in x2.Client 0 3)) || (!(impl_in x2.Object 0 2))) || (!(impl_in x2.Value s31 9))) ||
        (!(impl_in x2.Begin 0 100))) || (!(impl_in x2.End 0 100))) || (decide (x2.End ≤ x2.Begin))) ∧ fr' 0 = lst Call.cells v_0 ∧ fr' 3 = .int .i64
        (i1 : Int) ∧ fr' 4 = .ref [.int .i64 x2.Client, .int .i64 x2.Object, .bool x2.Write, .int .i64 x2.Value, .int .i64 x2.Begin,
        .int .i64 x2.End] 0 ∧ fr' 8 = lst Call.cells v_0 ∧ fr' 9 = .int .i64 (List.length v_0 : Int) ∧ fr' 10 = .int .i64 (i1 : Int)) (fun Q105 hN106 => ?_) ?_
    · simp only [List.take_succ_cons, List.take_zero]
      simp only [run_guard (g := 46), B0, reduceIte, reduceEqDiff]
      refine guard_split (t := (((((!(impl_in x2.Client 0 3)) || (!(impl_in x2.Object 0 2))) || (!(impl_in x2.Value s31 9))) || (!(impl_in x2.Begin 0 100))) ||
          (!(impl_in x2.End 0 100)))) (fun hg107 => ?_) (fun hg107 => ?_)
      · simp only [hg107, run_guard (g := 46), guard_off', run_pick, put1_some, xpick_t, run_ops_nil, run_nil, B0, reduceIte, reduceEqDiff]
        exact hN106 _ _ ⟨hS104, by rw [orT hg107]; simp only [B0, reduceIte, reduceEqDiff], f97, f98, f99, f100, f101, f102⟩
      · simp only [hg107, run_guard (g := 46), guard_false, f99, run_fa, put1_some, Nat.reduceAdd, Nat.zero_add, Nat.add_zero, xfa_ref, run_ld, B0, reduceIte, reduceEqDiff]
        refine put1_eq (v := .int .i64 x2.Begin) rfl ?_
        simp only [hg107, run_guard (g := 46), guard_false, f99, run_fa, put1_some, Nat.reduceAdd, Nat.zero_add, Nat.add_zero, xfa_ref, run_ld, B0, reduceIte, reduceEqDiff]
        refine put1_eq (v := .int .i64 x2.End) rfl ?_
        simp only [hg107, run_guard (g := 46), guard_false, run_bin, put1_some, xgeq, run_pick, xpick_f, run_ops_nil, run_nil, B0, reduceIte, reduceEqDiff]
        exact hN106 _ _ ⟨hS104, by rw [orF hg107]; simp only [B0, reduceIte, reduceEqDiff], f97, f98, f99, f100, f101, f102⟩
    rintro fr108 h116 ⟨hS117, f109, f110, f111, f112, f113, f114, f115⟩
    simp only [List.drop_succ_cons, List.drop_zero]
    simp only [run_ops_nil, f109, run_cond, B0, reduceIte, reduceEqDiff]
    refine cond_split (t := ((((((!(impl_in x2.Client 0 3)) || (!(impl_in x2.Object 0 2))) || (!(impl_in x2.Value s31 9))) || (!(impl_in x2.Begin 0 100))) ||
        (!(impl_in x2.End 0 100))) || (decide (x2.End ≤ x2.Begin)))) (fun hc118 => ?_) (fun hc118 => ?_)
    · rw [iteT hc118] at hk34
      simp only [run_seq, run_reg, run_mv, run_ops_nil, run_ret, B0, reduceIte, reduceEqDiff]
      have e119 := some_inj hk34
      subst e119
      have ho120 := hr8 _ rfl
      have hk121 := hk6
      rw [ho120] at hk121
      dsimp only [jnO] at hk121
      apply hR12
      have he := some_inj hk121
      subst he
      simp only [end_ret1, B0, reduceIte, reduceEqDiff]
      exact rfl
    rw [iteF hc118] at hk34
    obtain ⟨l122, hx123, hF124⟩ := bind_some' hk34
    simp only [run_skip, x43_5, run_seq, run_reg, f110, run_mv, f111, run_slc, Option.map_some, Option.map_none, B0, reduceIte, reduceEqDiff]
    refine put1_eq (pslc_lst_hi hx123 (fun _ => rfl)) ?_
    simp only [run_len, put1_some, xlen_lst, run_mv, run_ops_nil, B0, reduceIte, reduceEqDiff]
    obtain ⟨oc127, hX129, hk130⟩ := jn_some hF124
    simp only [x43_4]
    refine rangeL_j (σ := Unit) l122 (fun i125 x126 _ => impl_areCalls_b1 x2 i125 x126 ) (fun s fr' h' => fr' 0 = lst Call.cells v_0 ∧ fr' 4 = .ref [.int .i64 x2.Client,
        .int .i64 x2.Object, .bool x2.Write, .int .i64 x2.Value, .int .i64 x2.Begin,
        .int .i64 x2.End] 0 ∧ fr' 8 = lst Call.cells v_0 ∧ fr' 9 = .int .i64 (List.length v_0 : Int) ∧ fr' 10 = .int .i64 (i1 : Int) ∧ fr' 55 = lst Call.cells l122 ∧ Sep h'
        (geL h.length) ([])) hX129 ⟨f110, f112, f113, f114, f115, rfl, hS117⟩ (by simp only [B0, reduceIte, reduceEqDiff]) (by simp only [B0, reduceIte,
        reduceEqDiff]) (fun _ _ _ h => h) rfl rfl (fun _ _ _ _ h => h) (fun _ _ _ _ h => h) (fun _ _ _ _ h => h) (by decide) ?_ ?_
    · rintro i125 x126 _ fr139 h140 hx148 ⟨f142, f143, f144, f145, f146, f147, hS141⟩ f149 f150 oc128 hF131 hr132 Q133 hN134 hB138 hK135 hR136 hE137
      unfold impl_areCalls_b1 at hF131
      simp only [x43_2, run_seq, run_reg, f147, f149, run_ia, B0, reduceIte, reduceEqDiff]
      refine put1_eq (v := .ref (Call.cells x126) 0) (xia_lstN hx148 rfl) ?_
      simp only [run_ld, B0, reduceIte, reduceEqDiff]
      refine put1_eq (v := .agg [.int .i64 x126.Client, .int .i64 x126.Object, .bool x126.Write, .int .i64 x126.Value, .int .i64 x126.Begin, .int .i64 x126.End]) rfl ?_
      simp only [run_new, B0, reduceIte, reduceEqDiff]
      refine put2_newC hS141 (fun b151 h152 hS153 => ?_)
      simp only [run_st, B0, reduceIte, reduceEqDiff]
      refine put2_stCx (us := [.int .i64 x126.Client, .int .i64 x126.Object, .bool x126.Write, .int .i64 x126.Value, .int .i64 x126.Begin,
          .int .i64 x126.End]) rfl (cs' := [.int .i64 x126.Client, .int .i64 x126.Object, .bool x126.Write, .int .i64 x126.Value, .int .i64 x126.Begin,
          .int .i64 x126.End]) hS153 hW rfl rfl (nle rfl) rfl (fun h155 hS156 => ?_)
      simp only [run_ops_nil, B0, reduceIte, reduceEqDiff]
      refine frz_stepC hS156 hW (by simp only [B0, reduceIte, reduceEqDiff]) (fun h157 hS158 => ?_)
      simp only [run_frz_nil, x43_1, run_seq, run_reg, f143, run_fa, put1_some, Nat.reduceAdd, Nat.zero_add, Nat.add_zero, xfa_ref, run_ld, B0, reduceIte, reduceEqDiff]
      refine put1_eq (v := .int .i64 x2.Client) rfl ?_
      simp only [run_fa, put1_some, Nat.reduceAdd, Nat.zero_add, Nat.add_zero, xfa_ref, run_ld, B0, reduceIte, reduceEqDiff]
      refine put1_eq (v := .int .i64 x126.Client) rfl ?_
      simp only [run_bin, put1_some, xeql, run_mv, B0, reduceIte, reduceEqDiff]
      refine ops_j 6 (fun fr' h' => Sep h' (geL h.length) ([]) ∧ fr' 72 = .bool ((decide (x2.Client = x126.Client)) && (decide
          (x126.Begin < x2.End))) ∧ fr' 0 = lst Call.cells v_0 ∧ fr' 4 = .ref [.int .i64 x2.Client, .int .i64 x2.Object, .bool x2.Write, .int .i64 x2.Value, .int .i64 x2.Begin,
          .int .i64 x2.End] 0 ∧ fr' 7 = .ref [.int .i64 x126.Client, .int .i64 x126.Object, .bool x126.Write, .int .i64 x126.Value, .int .i64 x126.Begin,
          .int .i64 x126.End] 0 ∧ fr' 8 = lst Call.cells v_0 ∧ fr' 9 = .int .i64 (List.length v_0 : Int) ∧ fr' 10 = .int .i64
          (i1 : Int) ∧ fr' 55 = lst Call.cells l122 ∧ fr' 56 = .int .i64 (List.length l122 : Int) ∧ fr' 57 = .int .i64 (i125 : Int)) (fun Q159 hN160 => ?_) ?_
      · simp only [List.take_succ_cons, List.take_zero]
        simp only [run_guard (g := 66), B0, reduceIte, reduceEqDiff]
        refine guard_split (t := (decide (x2.Client = x126.Client))) (fun hg161 => ?_) (fun hg161 => ?_)
        · simp only [hg161, run_guard (g := 66), guard_true, f143, run_fa, put1_some, Nat.reduceAdd, Nat.zero_add, Nat.add_zero, xfa_ref, run_ld, B0, reduceIte, reduceEqDiff]
          refine put1_eq (v := .int .i64 x2.End) rfl ?_
          simp only [hg161, run_guard (g := 66), guard_true, run_fa, put1_some, Nat.reduceAdd, Nat.zero_add, Nat.add_zero, xfa_ref, run_ld, B0, reduceIte, reduceEqDiff]
          refine put1_eq (v := .int .i64 x126.Begin) rfl ?_
          simp only [hg161, run_guard (g := 66), guard_true, run_bin, put1_some, xgtr, run_pick, xpick_t, run_ops_nil, run_nil, B0, reduceIte, reduceEqDiff]
          exact hN160 _ _ ⟨hS158, by rw [andT hg161]; simp only [B0, reduceIte, reduceEqDiff], f142, f143, rfl, f144, f145, f146, f147, f150, f149⟩
        · simp only [hg161, run_guard (g := 66), guard_off, run_pick, put1_some, xpick_f, run_ops_nil, run_nil, B0, reduceIte, reduceEqDiff]
          exact hN160 _ _ ⟨hS158, by rw [andF hg161]; simp only [B0, reduceIte, reduceEqDiff], f142, f143, rfl, f144, f145, f146, f147, f150, f149⟩
      rintro fr162 h173 ⟨hS174, f163, f164, f165, f166, f167, f168, f169, f170, f171, f172⟩
      simp only [List.drop_succ_cons, List.drop_zero]
      simp only [f163, run_mv, B0, reduceIte, reduceEqDiff]
      refine ops_j 6 (fun fr' h' => Sep h' (geL h.length) ([]) ∧ fr' 79 = .bool (((decide (x2.Client = x126.Client)) && (decide (x126.Begin < x2.End))) && (decide
          (x2.Begin < x126.End))) ∧ fr' 0 = lst Call.cells v_0 ∧ fr' 4 = .ref [.int .i64 x2.Client, .int .i64 x2.Object, .bool x2.Write, .int .i64 x2.Value, .int .i64 x2.Begin,
          .int .i64 x2.End] 0 ∧ fr' 8 = lst Call.cells v_0 ∧ fr' 9 = .int .i64 (List.length v_0 : Int) ∧ fr' 10 = .int .i64
          (i1 : Int) ∧ fr' 55 = lst Call.cells l122 ∧ fr' 56 = .int .i64 (List.length l122 : Int) ∧ fr' 57 = .int .i64 (i125 : Int)) (fun Q175 hN176 => ?_) ?_
      · simp only [List.take_succ_cons, List.take_zero]
        simp only [run_guard (g := 73), B0, reduceIte, reduceEqDiff]
        refine guard_split (t := ((decide (x2.Client = x126.Client)) && (decide (x126.Begin < x2.End)))) (fun hg177 => ?_) (fun hg177 => ?_)
        · simp only [hg177, run_guard (g := 73), guard_true, f166, run_fa, put1_some, Nat.reduceAdd, Nat.zero_add, Nat.add_zero, xfa_ref, run_ld, B0, reduceIte, reduceEqDiff]
          refine put1_eq (v := .int .i64 x126.End) rfl ?_
          simp only [hg177, run_guard (g := 73), guard_true, f165, run_fa, put1_some, Nat.reduceAdd, Nat.zero_add, Nat.add_zero, xfa_ref, run_ld, B0, reduceIte, reduceEqDiff]
          refine put1_eq (v := .int .i64 x2.Begin) rfl ?_
          simp only [hg177, run_guard (g := 73), guard_true, run_bin, put1_some, xgtr, run_pick, xpick_t, run_ops_nil, run_nil, B0, reduceIte, reduceEqDiff]
          exact hN176 _ _ ⟨hS174, by rw [andT hg177]; simp only [B0, reduceIte, reduceEqDiff], f164, f165, f167, f168, f169, f170, f171, f172⟩
        · simp only [hg177, run_guard (g := 73), guard_off, run_pick, put1_some, xpick_f, run_ops_nil, run_nil, B0, reduceIte, reduceEqDiff]
          exact hN176 _ _ ⟨hS174, by rw [andF hg177]; simp only [B0, reduceIte, reduceEqDiff], f164, f165, f167, f168, f169, f170, f171, f172⟩
      rintro fr178 h188 ⟨hS189, f179, f180, f181, f182, f183, f184, f185, f186, f187⟩
      simp only [List.drop_succ_cons, List.drop_zero]
      simp only [run_ops_nil, f179, run_cond, B0, reduceIte, reduceEqDiff]
      refine cond_split (t := (((decide (x2.Client = x126.Client)) && (decide (x126.Begin < x2.End))) && (decide (x2.Begin < x126.End)))) (fun hc190 => ?_) (fun hc190 => ?_)
      · rw [iteT hc190] at hF131
        simp only [run_seq, run_reg, run_mv, run_ops_nil, run_ret, B0, reduceIte, reduceEqDiff]
        have e191 := some_inj hF131
        subst e191
        have ho192 := hr132 _ rfl
        have hk193 := hk130
        rw [ho192] at hk193
        dsimp only [jnO] at hk193
        apply hR136
        have e194 := some_inj hk193
        subst e194
        have ho195 := hr8 _ rfl
        have hk196 := hk6
        rw [ho195] at hk196
        dsimp only [jnO] at hk196
        apply hR12
        have he := some_inj hk196
        subst he
        simp only [end_ret1, B0, reduceIte, reduceEqDiff]
        exact rfl
      rw [iteF hc190] at hF131
      simp only [run_skip, run_nil, B0, reduceIte, reduceEqDiff]
      have e197 := some_inj hF131
      exact hN134 _ _ _ e197.symm ⟨f180, f181, f182, f183, f184, f185, hS189⟩ (f187) (f186)
    rintro _ fr199 h200 rfl ⟨f202, f203, f204, f205, f206, f207, hS201⟩
    dsimp only [jnO] at hk130
    unfold impl_areCalls_j2 at hk130
    simp only [run_nil, B0, reduceIte, reduceEqDiff]
    have e208 := some_inj hk130
    exact hN10 _ _ _ e208.symm ⟨f202, f204, hS201⟩ (f206) (f205)
  rintro _ fr212 h213 rfl ⟨f215, f216, hS214⟩
  dsimp only [jnO] at hk6
  unfold impl_areCalls_j3 at hk6
  simp only [x43_12, run_seq, run_reg, f215, run_mv, run_len, put1_some, xlen_lst, run_bin, xleq, run_ops_nil, run_ret, B0, reduceIte, reduceEqDiff]
  have he := some_inj hk6
  subst he
  simp only [end_ret1, B0, reduceIte, reduceEqDiff]
  exact rfl
theorem impl_areMembers_x {W : Nat → Bool} {h : Heap} (hW : ∀ b,
    (geL h.length) b → W b = true) (list_0 : List Int) (many_1 : Int) (r : Bool) (hF : impl_areMembers list_0 many_1 = some r) : Ret E W 71 [lst cI list_0,
    .int .i64 many_1] h (fun v h' => cut h.length h' E.sz false 9 v = some (.bool r)) := by
  refine Ret.of (fn := x71) rfl (Run.of ?_)
  unfold impl_areMembers at hF
  have zf0 : argFr [lst cI list_0, .int .i64 many_1] 0 = lst cI list_0 := rfl
  have zf1 : argFr [lst cI list_0, .int .i64 many_1] 1 = .int .i64 many_1 := rfl
  generalize argFr [lst cI list_0, .int .i64 many_1] = fr0 at zf0 zf1 ⊢
  have hS : Sep h (geL h.length) [] := Sep.nil h
  simp only [x71, run_seq, run_reg, run_mv, run_ops_nil, x71_5, zf0, run_len, put1_some, xlen_lst, B0, reduceIte, reduceEqDiff]
  obtain ⟨oc3, hX5, hk6⟩ := jn_some hF
  simp only [x71_4]
  refine rangeL_j (σ := Unit) list_0 (fun i1 x2 _ => impl_areMembers_b1 list_0 many_1 i1 x2 )
      (fun s fr' h' => fr' 0 = lst cI list_0 ∧ fr' 1 = .int .i64 many_1 ∧ fr' 7 = lst cI list_0 ∧ Sep h' (geL h.length) ([])) hX5 ⟨zf0, zf1, rfl, hS⟩ (by simp only [B0, reduceIte,
      reduceEqDiff]) (by simp only [B0, reduceIte, reduceEqDiff]) (fun _ _ _ h => h) rfl rfl (fun _ _ _ _ h => h) (fun _ _ _ _ h => h) (fun _ _ _ _ h => h) (by decide) ?_ ?_
  · rintro i1 x2 _ fr15 h16 hx21 ⟨f18, f19, f20, hS17⟩ f22 f23 oc4 hF7 hr8 Q9 hN10 hB14 hK11 hR12 hE13
    unfold impl_areMembers_b1 at hF7
    simp only [x71_2, run_seq, run_reg, f22, run_mv, f20, run_ia, B0, reduceIte, reduceEqDiff]
    refine put1_eq (v := .ref (cI x2) 0) (xia_lstN hx21 rfl) ?_
    simp only [run_ld, B0, reduceIte, reduceEqDiff]
    refine put1_eq (v := .int .i64 x2) rfl ?_
    simp only [run_mv, run_ops_nil, x71_1, run_seq, run_reg, f19, run_bin, put1_some, xsub, run_call, B0, reduceIte, reduceEqDiff]
    refine call1 rfl (mapM1 snap_int (mapM1 snap_int (mapM1 snap_int mapM0))) (impl_in_x (fun b hb => decide_eq_true hb) x2 0 (IntKind.wrap .i64 (many_1 - 1)) _ rfl) ?_
    simp only [run_un, put1_some, xnot, run_mv, B0, reduceIte, reduceEqDiff]
    obtain ⟨v27, hx28, hF29⟩ := bind_some' hF7
    refine ops_j 12 (fun fr' h' => Sep h' (geL h.length) ([]) ∧ fr' 31 = .bool v27 ∧ fr' 0 = lst cI list_0 ∧ fr' 1 = .int .i64 many_1 ∧ fr' 7 = lst cI list_0 ∧ fr' 8 = .int .i64
        (List.length list_0 : Int) ∧ fr' 9 = .int .i64 (i1 : Int)) (fun Q24 hN25 => ?_) ?_
    · simp only [List.take_succ_cons, List.take_zero]
      simp only [run_guard (g := 19), B0, reduceIte, reduceEqDiff]
      refine guard_split (t := (!(impl_in x2 0 (IntKind.wrap .i64 (many_1 - 1))))) (fun hg26 => ?_) (fun hg26 => ?_)
      · rw [iteT hg26] at hx28
        simp only [hg26, run_guard (g := 19), guard_off', run_guard (g := 22), guard_tup, run_pick, put1_some, xpick_t, run_ops_nil, run_nil, B0, reduceIte, reduceEqDiff]
        have e30 := some_inj hx28
        exact hN25 _ _ ⟨hS17, by rw [← e30]; simp only [B0, reduceIte, reduceEqDiff], f18, f19, f20, f23, f22⟩
      · rw [iteF hg26] at hx28
        simp only [hg26, run_guard (g := 19), guard_false, run_mv, run_bin, put1_some, xgtr, B0, reduceIte, reduceEqDiff]
        obtain ⟨v34, hx35, hF36⟩ := bind_some' hx28
        refine ops_j 8 (fun fr' h' => Sep h' (geL h.length)
            ([]) ∧ fr' 30 = .bool v34 ∧ fr' 0 = lst cI list_0 ∧ fr' 1 = .int .i64 many_1 ∧ fr' 7 = lst cI list_0 ∧ fr' 8 = .int .i64
            (List.length list_0 : Int) ∧ fr' 9 = .int .i64 (i1 : Int) ∧ fr' 19 = .bool (!(impl_in x2 0 (IntKind.wrap .i64 (many_1 - 1))))) (fun Q31 hN32 => ?_) ?_
        · simp only [List.take_succ_cons, List.take_zero]
          simp only [run_guard (g := 22), B0, reduceIte, reduceEqDiff]
          refine guard_split (t := (decide ((0 : Int) < (i1 : Int)))) (fun hg33 => ?_) (fun hg33 => ?_)
          · rw [iteT hg33] at hx35
            obtain ⟨x37, hx38, hF39⟩ := bind_some' hx35
            simp only [hg33, run_guard (g := 22), guard_true, f18, run_mv, run_bin, put1_some, xsub, run_ia, B0, reduceIte, reduceEqDiff]
            refine put1_eq (v := .ref (cI x37) 0) (xia_lst hx38 rfl) ?_
            simp only [hg33, run_guard (g := 22), guard_true, run_ld, B0, reduceIte, reduceEqDiff]
            refine put1_eq (v := .int .i64 x37) rfl ?_
            simp only [hg33, run_guard (g := 22), guard_true, run_mv, run_bin, put1_some, xgeq, hg26, run_guard (g := 19), guard_false, run_pick, xpick_t, run_ops_nil, run_nil,
                B0, reduceIte, reduceEqDiff]
            have e40 := some_inj hF39
            exact hN32 _ _ ⟨hS17, by rw [← e40]; simp only [B0, reduceIte, reduceEqDiff], f18, f19, f20, f23, f22, by simp only [hg26, B0, reduceIte, reduceEqDiff]⟩
          · rw [iteF hg33] at hx35
            simp only [hg33, run_guard (g := 22), guard_off, hg26, run_guard (g := 19), guard_false, run_pick, put1_some, xpick_f, run_ops_nil, run_nil, B0, reduceIte,
                reduceEqDiff]
            have e41 := some_inj hx35
            exact hN32 _ _ ⟨hS17, by rw [← e41]; simp only [B0, reduceIte, reduceEqDiff], f18, f19, f20, f23, f22, by simp only [hg26, B0, reduceIte, reduceEqDiff]⟩
        rintro fr42 h50 ⟨hS51, f43, f44, f45, f46, f47, f48, f49⟩
        simp only [List.drop_succ_cons, List.drop_zero]
        simp only [f49, hg26, run_pick, put1_some, xpick_f, f43, run_ops_nil, run_nil, B0, reduceIte, reduceEqDiff]
        have e52 := some_inj hF36
        exact hN25 _ _ ⟨hS51, by rw [← e52]; simp only [B0, reduceIte, reduceEqDiff], f44, f45, f46, f47, f48⟩
    rintro fr53 h60 ⟨hS61, f54, f55, f56, f57, f58, f59⟩
    simp only [List.drop_succ_cons, List.drop_zero]
    simp only [run_ops_nil, f54, run_cond, B0, reduceIte, reduceEqDiff]
    refine cond_split (t := v27) (fun hc62 => ?_) (fun hc62 => ?_)
    · rw [iteT hc62] at hF29
      simp only [run_seq, run_reg, run_mv, run_ops_nil, run_ret, B0, reduceIte, reduceEqDiff]
      have e63 := some_inj hF29
      subst e63
      have ho64 := hr8 _ rfl
      have hk65 := hk6
      rw [ho64] at hk65
      dsimp only [jnO] at hk65
      apply hR12
      have he := some_inj hk65
      subst he
      simp only [end_ret1, B0, reduceIte, reduceEqDiff]
      exact rfl
    rw [iteF hc62] at hF29
    simp only [run_skip, run_nil, B0, reduceIte, reduceEqDiff]
    have e66 := some_inj hF29
    exact hN10 _ _ _ e66.symm ⟨f55, f56, f57, hS61⟩ (f59) (f58)
  rintro _ fr68 h69 rfl ⟨f71, f72, f73, hS70⟩
  dsimp only [jnO] at hk6
  unfold impl_areMembers_j1 at hk6
  simp only [run_seq, run_reg, run_mv, run_ops_nil, run_ret, B0, reduceIte, reduceEqDiff]
  have he := some_inj hk6
  subst he
  simp only [end_ret1, B0, reduceIte, reduceEqDiff]
  exact rfl
theorem impl_isOrder_x {W : Nat → Bool} {h : Heap} (hW : ∀ b,
    (geL h.length) b → W b = true) (l_0 : List Call) (order_1 : List Int) (r : Bool) (hF : impl_isOrder l_0 order_1 = some r) : Ret E W 54 [lst Call.cells l_0,
    lst cI order_1] h (fun v h' => cut h.length h' E.sz false 9 v = some (.bool r)) := by
  refine Ret.of (fn := x54) rfl (Run.of ?_)
  unfold impl_isOrder at hF
  have zf0 : argFr [lst Call.cells l_0, lst cI order_1] 0 = lst Call.cells l_0 := rfl
  have zf1 : argFr [lst Call.cells l_0, lst cI order_1] 1 = lst cI order_1 := rfl
  generalize argFr [lst Call.cells l_0, lst cI order_1] = fr0 at zf0 zf1 ⊢
  have hS : Sep h (geL h.length) [] := Sep.nil h
  simp only [x54, run_seq, run_reg, run_mv, run_ops_nil, x54_3, run_buildS, evp, B0, reduceIte, reduceEqDiff]
  refine put2_buildSF (n := 1) (f := cI) ([] : List Int) hS rfl rfl (fun v1 c2 h3 hv4 hS5 => ?_)
  simp only [zf1, run_mv, run_app, B0, reduceIte, reduceEqDiff]
  obtain ⟨l7, hx8, hF9⟩ := bind_some' hF
  refine put2_appF (f := cI) hv4 hS5 hW (fun _ => rfl) (fun _ => rfl) (firstOf_lst (fun _ => rfl)) hx8 (fun v10 c11 h12 hv13 hS14 => ?_)
  obtain ⟨v16, hx17, hF18⟩ := bind_some' hF9
  simp only [run_mv, run_ops_nil, x54_2, run_seq, run_reg, run_call, B0, reduceIte, reduceEqDiff]
  refine call0 rfl (slices_Sort_int_x hW v10 c11 l7 hv13 v16 hx17 hS14) ?_
  rintro _ h21 ⟨c19, rfl, hv20, hS22⟩
  simp only [run_ops_nil, x54_1, run_seq, run_reg, zf1, run_mv, run_len, put1_some, xlen_lst, zf0, run_bin, xeql, B0, reduceIte, reduceEqDiff]
  obtain ⟨v26, hx27, hF28⟩ := bind_some' hF18
  refine ops_j 5 (fun fr' h' => Sep h' (geL h.length) ([]) ∧ fr' 21 = .bool v26) (fun Q23 hN24 => ?_) ?_
  · simp only [List.take_succ_cons, List.take_zero]
    simp only [run_guard (g := 16), B0, reduceIte, reduceEqDiff]
    refine guard_split (t := (decide ((List.length order_1 : Int) = (List.length l_0 : Int)))) (fun hg25 => ?_) (fun hg25 => ?_)
    · rw [iteT hg25] at hx27
      obtain ⟨v29, hx30, hF31⟩ := bind_some' hx27
      simp only [hg25, run_guard (g := 16), guard_true, run_mv, zf0, run_len, put1_some, xlen_lst, run_call, B0, reduceIte, reduceEqDiff]
      refine call1 rfl (mapM1 (SlF.snap hv20 hS22 rfl (fun _ => rfl) (fun _ => rfl)) (mapM1 snap_int mapM0)) (impl_areMembers_x (fun b hb => decide_eq_true hb) v16
          (List.length l_0 : Int) v29 hx30) ?_
      simp only [hg25, run_pick, put1_some, xpick_t, run_ops_nil, run_nil, B0, reduceIte, reduceEqDiff]
      have e32 := some_inj hF31
      exact hN24 _ _ ⟨(Sep.dc (hS22)), by rw [← e32]; simp only [B0, reduceIte, reduceEqDiff]⟩
    · rw [iteF hg25] at hx27
      simp only [hg25, run_guard (g := 16), guard_off, run_pick, put1_some, xpick_f, run_ops_nil, run_nil, B0, reduceIte, reduceEqDiff]
      have e33 := some_inj hx27
      exact hN24 _ _ ⟨(Sep.dc (hS22)), by rw [← e33]; simp only [B0, reduceIte, reduceEqDiff]⟩
  rintro fr34 h36 ⟨hS37, f35⟩
  simp only [List.drop_succ_cons, List.drop_zero]
  simp only [f35, run_mv, run_ops_nil, run_ret, B0, reduceIte, reduceEqDiff]
  have he := some_inj hF28
  subst he
  simp only [end_ret1, B0, reduceIte, reduceEqDiff]
  exact rfl
end Go.Proofs.Ytddkoiapboeemaa.X
