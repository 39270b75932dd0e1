/- The functions' code comes to what the plain functions say (4). -/
import Derived.Test.YtpkiieniipenjaaXAH3
set_option linter.unusedVariables false
set_option linter.unusedSimpArgs false
set_option maxRecDepth 100000
namespace Go.Proofs.Ytpkiieniipenjaa.X
open Go
open Nat (reduceEqDiff)
theorem laws_eqSnap_x {W : Nat → Bool} {h : Heap} (hW : ∀ b,
    h.length ≤ b → W b = true) (k : Nat) (a_0 : Snap) (b_1 : Snap) (r : Bool) (hF : laws_eqSnap k a_0 b_1 = some r) : Ret E W 17 [.agg [lst cI a_0.Amounts,
    lst Chan.cells a_0.Chans, lst Picture.cells a_0.Pictures, .int .i64 a_0.Sent, .int .i64 a_0.Total], .agg [lst cI b_1.Amounts, lst Chan.cells b_1.Chans,
    lst Picture.cells b_1.Pictures, .int .i64 b_1.Sent, .int .i64 b_1.Total]] h (fun v h' => cut h.length h' E.sz false 9 v = some (.bool r)) := by
  refine Ret.of (fn := x17) rfl (Run.of ?_)
  unfold laws_eqSnap at hF
  have zf0 : argFr [.agg [lst cI a_0.Amounts, lst Chan.cells a_0.Chans, lst Picture.cells a_0.Pictures, .int .i64 a_0.Sent, .int .i64 a_0.Total], .agg [lst cI b_1.Amounts,
      lst Chan.cells b_1.Chans, lst Picture.cells b_1.Pictures, .int .i64 b_1.Sent, .int .i64 b_1.Total]] 0 = .agg [lst cI a_0.Amounts, lst Chan.cells a_0.Chans,
      lst Picture.cells a_0.Pictures, .int .i64 a_0.Sent, .int .i64 a_0.Total] := rfl
  have zf1 : argFr [.agg [lst cI a_0.Amounts, lst Chan.cells a_0.Chans, lst Picture.cells a_0.Pictures, .int .i64 a_0.Sent, .int .i64 a_0.Total], .agg [lst cI b_1.Amounts,
      lst Chan.cells b_1.Chans, lst Picture.cells b_1.Pictures, .int .i64 b_1.Sent, .int .i64 b_1.Total]] 1 = .agg [lst cI b_1.Amounts, lst Chan.cells b_1.Chans,
      lst Picture.cells b_1.Pictures, .int .i64 b_1.Sent, .int .i64 b_1.Total] := rfl
  generalize argFr [.agg [lst cI a_0.Amounts, lst Chan.cells a_0.Chans, lst Picture.cells a_0.Pictures, .int .i64 a_0.Sent, .int .i64 a_0.Total], .agg [lst cI b_1.Amounts,
      lst Chan.cells b_1.Chans, lst Picture.cells b_1.Pictures, .int .i64 b_1.Sent, .int .i64 b_1.Total]] = fr0 at zf0 zf1 ⊢
  have hS : Sep h h.length [] := Sep.nil h
  simp only [x17, run_seq, run_reg, run_box, zf0, B0, reduceIte, reduceEqDiff]
  refine put2_boxC (cs := [lst cI a_0.Amounts, lst Chan.cells a_0.Chans, lst Picture.cells a_0.Pictures, .int .i64 a_0.Sent,
      .int .i64 a_0.Total]) hS rfl rfl rfl (fun b1 h2 hS3 => ?_)
  simp only [run_box, zf1, B0, reduceIte, reduceEqDiff]
  refine put2_boxC (cs := [lst cI b_1.Amounts, lst Chan.cells b_1.Chans, lst Picture.cells b_1.Pictures, .int .i64 b_1.Sent,
      .int .i64 b_1.Total]) hS3 rfl rfl rfl (fun b5 h6 hS7 => ?_)
  simp only [run_mv, run_ops_nil, B0, reduceIte, reduceEqDiff]
  refine frz_stepC (Sep.m1 hS7) hW (by simp only [B0, reduceIte, reduceEqDiff]) (fun h9 hS10 => ?_)
  refine frz_stepC hS10 hW (by simp only [B0, reduceIte, reduceEqDiff]) (fun h11 hS12 => ?_)
  simp only [run_frz_nil, x17_5, run_seq, run_reg, run_fa, put1_some, Nat.reduceAdd, Nat.zero_add, Nat.add_zero, xfa_ref, run_ld, B0, reduceIte, reduceEqDiff]
  refine put1_eq (v := lst cI a_0.Amounts) rfl ?_
  simp only [run_fa, put1_some, Nat.reduceAdd, Nat.zero_add, Nat.add_zero, xfa_ref, run_ld, B0, reduceIte, reduceEqDiff]
  refine put1_eq (v := lst cI b_1.Amounts) rfl ?_
  obtain ⟨v13, hx14, hF15⟩ := bind_some' hF
  simp only [run_call, B0, reduceIte, reduceEqDiff]
  refine call1 rfl (mapM1 snap_lst (mapM1 snap_lst mapM0)) (laws_eqIntS_x (fun b hb => decide_eq_true hb) k a_0.Amounts b_1.Amounts v13 hx14) ?_
  simp only [run_un, put1_some, xnot, run_ops_nil, run_cond, B0, reduceIte, reduceEqDiff]
  refine cond_split (t := (!v13)) (fun hc16 => ?_) (fun hc16 => ?_)
  · rw [iteT hc16] at hF15
    simp only [run_seq, run_reg, run_mv, run_ops_nil, run_ret, B0, reduceIte, reduceEqDiff]
    have he := some_inj hF15
    subst he
    simp only [end_ret1, B0, reduceIte, reduceEqDiff]
    exact rfl
  rw [iteF hc16] at hF15
  simp only [run_skip, x17_4, run_seq, run_reg, run_fa, put1_some, Nat.reduceAdd, Nat.zero_add, Nat.add_zero, xfa_ref, run_ld, B0, reduceIte, reduceEqDiff]
  refine put1_eq (v := lst Chan.cells a_0.Chans) rfl ?_
  simp only [run_fa, put1_some, Nat.reduceAdd, Nat.zero_add, Nat.add_zero, xfa_ref, run_ld, B0, reduceIte, reduceEqDiff]
  refine put1_eq (v := lst Chan.cells b_1.Chans) rfl ?_
  obtain ⟨v17, hx18, hF19⟩ := bind_some' hF15
  simp only [run_call, B0, reduceIte, reduceEqDiff]
  refine call1 rfl (mapM1 snap_lst (mapM1 snap_lst mapM0)) (laws_eqChanS_x (fun b hb => decide_eq_true hb) k a_0.Chans b_1.Chans v17 hx18) ?_
  simp only [run_un, put1_some, xnot, run_ops_nil, run_cond, B0, reduceIte, reduceEqDiff]
  refine cond_split (t := (!v17)) (fun hc20 => ?_) (fun hc20 => ?_)
  · rw [iteT hc20] at hF19
    simp only [run_seq, run_reg, run_mv, run_ops_nil, run_ret, B0, reduceIte, reduceEqDiff]
    have he := some_inj hF19
    subst he
    simp only [end_ret1, B0, reduceIte, reduceEqDiff]
    exact rfl
  rw [iteF hc20] at hF19
  simp only [run_skip, x17_3, run_seq, run_reg, run_fa, put1_some, Nat.reduceAdd, Nat.zero_add, Nat.add_zero, xfa_ref, run_ld, B0, reduceIte, reduceEqDiff]
  refine put1_eq (v := lst Picture.cells a_0.Pictures) rfl ?_
  simp only [run_fa, put1_some, Nat.reduceAdd, Nat.zero_add, Nat.add_zero, xfa_ref, run_ld, B0, reduceIte, reduceEqDiff]
  refine put1_eq (v := lst Picture.cells b_1.Pictures) rfl ?_
  obtain ⟨v21, hx22, hF23⟩ := bind_some' hF19
  simp only [run_call, B0, reduceIte, reduceEqDiff]
  refine call1 rfl (mapM1 snap_lst (mapM1 snap_lst mapM0)) (laws_eqPictureS_x (fun b hb => decide_eq_true hb) k a_0.Pictures b_1.Pictures v21 hx22) ?_
  simp only [run_un, put1_some, xnot, run_ops_nil, run_cond, B0, reduceIte, reduceEqDiff]
  refine cond_split (t := (!v21)) (fun hc24 => ?_) (fun hc24 => ?_)
  · rw [iteT hc24] at hF23
    simp only [run_seq, run_reg, run_mv, run_ops_nil, run_ret, B0, reduceIte, reduceEqDiff]
    have he := some_inj hF23
    subst he
    simp only [end_ret1, B0, reduceIte, reduceEqDiff]
    exact rfl
  rw [iteF hc24] at hF23
  simp only [run_skip, x17_2, run_seq, run_reg, run_fa, put1_some, Nat.reduceAdd, Nat.zero_add, Nat.add_zero, xfa_ref, run_ld, B0, reduceIte, reduceEqDiff]
  refine put1_eq (v := .int .i64 a_0.Sent) rfl ?_
  simp only [run_fa, put1_some, Nat.reduceAdd, Nat.zero_add, Nat.add_zero, xfa_ref, run_ld, B0, reduceIte, reduceEqDiff]
  refine put1_eq (v := .int .i64 b_1.Sent) rfl ?_
  simp only [run_bin, put1_some, xneq, run_ops_nil, run_cond, B0, reduceIte, reduceEqDiff]
  refine cond_split (t := (decide (a_0.Sent ≠ b_1.Sent))) (fun hc25 => ?_) (fun hc25 => ?_)
  · rw [iteT hc25] at hF23
    simp only [run_seq, run_reg, run_mv, run_ops_nil, run_ret, B0, reduceIte, reduceEqDiff]
    have he := some_inj hF23
    subst he
    simp only [end_ret1, B0, reduceIte, reduceEqDiff]
    exact rfl
  rw [iteF hc25] at hF23
  simp only [run_skip, x17_1, run_seq, run_reg, run_fa, put1_some, Nat.reduceAdd, Nat.zero_add, Nat.add_zero, xfa_ref, run_ld, B0, reduceIte, reduceEqDiff]
  refine put1_eq (v := .int .i64 a_0.Total) rfl ?_
  simp only [run_fa, put1_some, Nat.reduceAdd, Nat.zero_add, Nat.add_zero, xfa_ref, run_ld, B0, reduceIte, reduceEqDiff]
  refine put1_eq (v := .int .i64 b_1.Total) rfl ?_
  simp only [run_bin, put1_some, xneq, run_ops_nil, run_cond, B0, reduceIte, reduceEqDiff]
  refine cond_split (t := (decide (a_0.Total ≠ b_1.Total))) (fun hc26 => ?_) (fun hc26 => ?_)
  · rw [iteT hc26] at hF23
    simp only [run_seq, run_reg, run_mv, run_ops_nil, run_ret, B0, reduceIte, reduceEqDiff]
    have he := some_inj hF23
    subst he
    simp only [end_ret1, B0, reduceIte, reduceEqDiff]
    exact rfl
  rw [iteF hc26] at hF23
  simp only [run_skip, run_seq, run_reg, run_mv, run_ops_nil, run_ret, B0, reduceIte, reduceEqDiff]
  have he := some_inj hF23
  subst he
  simp only [end_ret1, B0, reduceIte, reduceEqDiff]
  exact rfl
theorem laws_eqSnapStep_x {W : Nat → Bool} {h : Heap} (hW : ∀ b,
    h.length ≤ b → W b = true) (a_0 : SnapStep) (b_1 : SnapStep) (r : Bool) (hF : laws_eqSnapStep a_0 b_1 = some r) : Ret E W 57 [.agg [.int .i64 a_0.Kind, .int .i64 a_0.K,
    .int .i64 a_0.N], .agg [.int .i64 b_1.Kind, .int .i64 b_1.K, .int .i64 b_1.N]] h (fun v h' => cut h.length h' E.sz false 9 v = some (.bool r)) := by
  refine Ret.of (fn := x57) rfl (Run.of ?_)
  unfold laws_eqSnapStep at hF
  have zf0 : argFr [.agg [.int .i64 a_0.Kind, .int .i64 a_0.K, .int .i64 a_0.N], .agg [.int .i64 b_1.Kind, .int .i64 b_1.K, .int .i64 b_1.N]] 0 = .agg [.int .i64 a_0.Kind,
      .int .i64 a_0.K, .int .i64 a_0.N] := rfl
  have zf1 : argFr [.agg [.int .i64 a_0.Kind, .int .i64 a_0.K, .int .i64 a_0.N], .agg [.int .i64 b_1.Kind, .int .i64 b_1.K, .int .i64 b_1.N]] 1 = .agg [.int .i64 b_1.Kind,
      .int .i64 b_1.K, .int .i64 b_1.N] := rfl
  generalize argFr [.agg [.int .i64 a_0.Kind, .int .i64 a_0.K, .int .i64 a_0.N], .agg [.int .i64 b_1.Kind, .int .i64 b_1.K, .int .i64 b_1.N]] = fr0 at zf0 zf1 ⊢
  have hS : Sep h h.length [] := Sep.nil h
  simp only [x57, run_seq, run_reg, run_box, zf0, B0, reduceIte, reduceEqDiff]
  refine put2_boxC (cs := [.int .i64 a_0.Kind, .int .i64 a_0.K, .int .i64 a_0.N]) hS rfl rfl rfl (fun b1 h2 hS3 => ?_)
  simp only [run_box, zf1, B0, reduceIte, reduceEqDiff]
  refine put2_boxC (cs := [.int .i64 b_1.Kind, .int .i64 b_1.K, .int .i64 b_1.N]) hS3 rfl rfl rfl (fun b5 h6 hS7 => ?_)
  simp only [run_mv, run_ops_nil, B0, reduceIte, reduceEqDiff]
  refine frz_stepC (Sep.m1 hS7) hW (by simp only [B0, reduceIte, reduceEqDiff]) (fun h9 hS10 => ?_)
  refine frz_stepC hS10 hW (by simp only [B0, reduceIte, reduceEqDiff]) (fun h11 hS12 => ?_)
  simp only [run_frz_nil, x57_3, run_seq, run_reg, run_fa, put1_some, Nat.reduceAdd, Nat.zero_add, Nat.add_zero, xfa_ref, run_ld, B0, reduceIte, reduceEqDiff]
  refine put1_eq (v := .int .i64 a_0.Kind) rfl ?_
  simp only [run_fa, put1_some, Nat.reduceAdd, Nat.zero_add, Nat.add_zero, xfa_ref, run_ld, B0, reduceIte, reduceEqDiff]
  refine put1_eq (v := .int .i64 b_1.Kind) rfl ?_
  simp only [run_bin, put1_some, xneq, run_ops_nil, run_cond, B0, reduceIte, reduceEqDiff]
  refine cond_split (t := (decide (a_0.Kind ≠ b_1.Kind))) (fun hc13 => ?_) (fun hc13 => ?_)
  · rw [iteT hc13] at hF
    simp only [run_seq, run_reg, run_mv, run_ops_nil, run_ret, B0, reduceIte, reduceEqDiff]
    have he := some_inj hF
    subst he
    simp only [end_ret1, B0, reduceIte, reduceEqDiff]
    exact rfl
  rw [iteF hc13] at hF
  simp only [run_skip, x57_2, run_seq, run_reg, run_fa, put1_some, Nat.reduceAdd, Nat.zero_add, Nat.add_zero, xfa_ref, run_ld, B0, reduceIte, reduceEqDiff]
  refine put1_eq (v := .int .i64 a_0.K) rfl ?_
  simp only [run_fa, put1_some, Nat.reduceAdd, Nat.zero_add, Nat.add_zero, xfa_ref, run_ld, B0, reduceIte, reduceEqDiff]
  refine put1_eq (v := .int .i64 b_1.K) rfl ?_
  simp only [run_bin, put1_some, xneq, run_ops_nil, run_cond, B0, reduceIte, reduceEqDiff]
  refine cond_split (t := (decide (a_0.K ≠ b_1.K))) (fun hc14 => ?_) (fun hc14 => ?_)
  · rw [iteT hc14] at hF
    simp only [run_seq, run_reg, run_mv, run_ops_nil, run_ret, B0, reduceIte, reduceEqDiff]
    have he := some_inj hF
    subst he
    simp only [end_ret1, B0, reduceIte, reduceEqDiff]
    exact rfl
  rw [iteF hc14] at hF
  simp only [run_skip, x57_1, run_seq, run_reg, run_fa, put1_some, Nat.reduceAdd, Nat.zero_add, Nat.add_zero, xfa_ref, run_ld, B0, reduceIte, reduceEqDiff]
  refine put1_eq (v := .int .i64 a_0.N) rfl ?_
  simp only [run_fa, put1_some, Nat.reduceAdd, Nat.zero_add, Nat.add_zero, xfa_ref, run_ld, B0, reduceIte, reduceEqDiff]
  refine put1_eq (v := .int .i64 b_1.N) rfl ?_
  simp only [run_bin, put1_some, xneq, run_ops_nil, run_cond, B0, reduceIte, reduceEqDiff]
  refine cond_split (t := (decide (a_0.N ≠ b_1.N))) (fun hc15 => ?_) (fun hc15 => ?_)
  · rw [iteT hc15] at hF
    simp only [run_seq, run_reg, run_mv, run_ops_nil, run_ret, B0, reduceIte, reduceEqDiff]
    have he := some_inj hF
    subst he
    simp only [end_ret1, B0, reduceIte, reduceEqDiff]
    exact rfl
  rw [iteF hc15] at hF
  simp only [run_skip, run_seq, run_reg, run_mv, run_ops_nil, run_ret, B0, reduceIte, reduceEqDiff]
  have he := some_inj hF
  subst he
  simp only [end_ret1, B0, reduceIte, reduceEqDiff]
  exact rfl
theorem laws_eqSnapStepS_x {W : Nat → Bool} {h : Heap} (hW : ∀ b,
    h.length ≤ b → W b = true) (k : Nat) (a_0 : List SnapStep) (b_1 : List SnapStep) (r : Bool) (hF : laws_eqSnapStepS k a_0 b_1 = some r) : Ret E W 19 [lst SnapStep.cells a_0,
    lst SnapStep.cells b_1] h (fun v h' => cut h.length h' E.sz false 9 v = some (.bool r)) := by
  refine Ret.of (fn := x19) rfl (Run.of ?_)
  unfold laws_eqSnapStepS at hF
  have zf0 : argFr [lst SnapStep.cells a_0, lst SnapStep.cells b_1] 0 = lst SnapStep.cells a_0 := rfl
  have zf1 : argFr [lst SnapStep.cells a_0, lst SnapStep.cells b_1] 1 = lst SnapStep.cells b_1 := rfl
  generalize argFr [lst SnapStep.cells a_0, lst SnapStep.cells b_1] = fr0 at zf0 zf1 ⊢
  have hS : Sep h h.length [] := Sep.nil h
  simp only [x19, run_seq, run_reg, run_mv, run_ops_nil, x19_7, zf0, run_len, put1_some, xlen_lst, zf1, run_bin, xneq, run_cond, B0, reduceIte, reduceEqDiff]
  refine cond_split (t := (decide ((List.length a_0 : Int) ≠ (List.length b_1 : Int)))) (fun hc1 => ?_) (fun hc1 => ?_)
  · rw [iteT hc1] at hF
    simp only [run_seq, run_reg, run_mv, run_ops_nil, run_ret, B0, reduceIte, reduceEqDiff]
    have he := some_inj hF
    subst he
    simp only [end_ret1, B0, reduceIte, reduceEqDiff]
    exact rfl
  rw [iteF hc1] at hF
  simp only [run_skip, x19_6, run_seq, run_reg, run_mv, run_ops_nil, B0, reduceIte, reduceEqDiff]
  obtain ⟨oc6, hX8, hk9⟩ := jn_some hF
  simp only [x19_5]
  refine loopF_j (σ := Int) (fun s41 => laws_eqSnapStepS_b1 a_0 b_1 s41)
      (fun s fr' h' => fr' 0 = lst SnapStep.cells a_0 ∧ fr' 1 = lst SnapStep.cells b_1 ∧ fr' 5 = .int .i64 s ∧ Sep h' h.length ([])) hX8 ⟨by simp only [zf0, B0, reduceIte,
      reduceEqDiff], by simp only [zf1, B0, reduceIte, reduceEqDiff], by simp only [B0, reduceIte, reduceEqDiff], hS⟩ (fun _ _ _ h => h) ?_ ?_
  · rintro s3 fr18 h19 ⟨f21, f22, f23, hS20⟩ oc7 hF10 hr11 Q12 hN13 hK14 hR15 hE16
    unfold laws_eqSnapStepS_b1 at hF10
    simp only [x19_3, run_seq, run_reg, f23, run_mv, f21, run_len, put1_some, xlen_lst, run_bin, xlss, run_ops_nil, run_cond, B0, reduceIte, reduceEqDiff]
    refine cond_split (t := (decide (s3 < (List.length a_0 : Int)))) (fun hc25 => ?_) (fun hc25 => ?_)
    · rw [iteT hc25] at hF10
      obtain ⟨x26, hx27, hF28⟩ := bind_some' hF10
      simp only [run_skip, x19_2, run_seq, run_block, x19_1, run_draw, f21, d4_mv, put1d_some, f23, d4_ia, B0, reduceIte, reduceEqDiff]
      refine put1d_eq (v := .ref (SnapStep.cells x26) 0) (xia_lst hx27 rfl) ?_
      simp only [d4_ld, B0, reduceIte, reduceEqDiff]
      refine put1d_eq (v := .agg [.int .i64 x26.Kind, .int .i64 x26.K, .int .i64 x26.N]) rfl ?_
      obtain ⟨x29, hx30, hF31⟩ := bind_some' hF28
      simp only [f22, d4_mv, put1d_some, f23, d4_ia, B0, reduceIte, reduceEqDiff]
      refine put1d_eq (v := .ref (SnapStep.cells x29) 0) (xia_lst hx30 rfl) ?_
      simp only [d4_ld, B0, reduceIte, reduceEqDiff]
      refine put1d_eq (v := .agg [.int .i64 x29.Kind, .int .i64 x29.K, .int .i64 x29.N]) rfl ?_
      obtain ⟨v32, hx33, hF34⟩ := bind_some' hF31
      simp only [run_d3_call, B0, reduceIte, reduceEqDiff]
      refine call1d rfl (mapM1 (snap_agg (mapM1 snap_int (mapM1 snap_int (mapM1 snap_int mapM0)))) (mapM1 (snap_agg (mapM1 snap_int (mapM1 snap_int
          (mapM1 snap_int mapM0)))) mapM0)) (laws_eqSnapStep_x (fun b hb => decide_eq_true hb) x26 x29 v32 hx33) ?_
      simp only [d4_un, put1d_some, xnot, run_draw_nil, run_cond, B0, reduceIte, reduceEqDiff]
      refine cond_split (t := (!v32)) (fun hc35 => ?_) (fun hc35 => ?_)
      · rw [iteT hc35] at hF34
        simp only [run_seq, run_reg, run_mv, run_ops_nil, run_ret, B0, reduceIte, reduceEqDiff]
        have e36 := some_inj hF34
        subst e36
        have ho37 := hr11 _ rfl
        have hk38 := hk9
        rw [ho37] at hk38
        dsimp only [jnO] at hk38
        apply hR15
        have he := some_inj hk38
        subst he
        simp only [end_ret1, B0, reduceIte, reduceEqDiff]
        exact rfl
      rw [iteF hc35] at hF34
      simp only [run_skip, run_blk, run_reg, f23, run_mv, run_bin, put1_some, xadd, run_ops_nil, run_nil, B0, reduceIte, reduceEqDiff]
      have e39 := some_inj hF34
      exact hN13 _ _ _ e39.symm ⟨by simp only [f21, B0, reduceIte, reduceEqDiff], by simp only [f22, B0, reduceIte, reduceEqDiff], by simp only [B0, reduceIte, reduceEqDiff], hS20⟩
    rw [iteF hc25] at hF10
    simp only [run_exit, out_code, out_nil, B0, reduceIte, reduceEqDiff]
    have e40 := some_inj hF10
    exact hK14 _ _ _ e40.symm ⟨by simp only [f21, B0, reduceIte, reduceEqDiff], by simp only [f22, B0, reduceIte, reduceEqDiff], by simp only [f23, B0, reduceIte, reduceEqDiff],
        hS20⟩
  rintro s42 fr43 h44 rfl ⟨f46, f47, f48, hS45⟩
  dsimp only [jnO] at hk9
  unfold laws_eqSnapStepS_j1 at hk9
  simp only [run_seq, run_reg, run_mv, run_ops_nil, run_ret, B0, reduceIte, reduceEqDiff]
  have he := some_inj hk9
  subst he
  simp only [end_ret1, B0, reduceIte, reduceEqDiff]
  exact rfl
theorem laws_markSnapStepS_x {W : Nat → Bool} {h : Heap} {lo : Nat} {S0 : List Obj} (hW : ∀ b,
    lo ≤ b → W b = true) (k : Nat) (pv0 : XV) (pc0 : List Obj) (a_0 : List SnapStep) (ph0 : SlF SnapStep.cells 3 51 pv0 a_0 pc0) (k_1 : Int) (r : Int × (List SnapStep))
    (hF : laws_markSnapStepS k a_0 k_1 = some r) (hS : Sep h lo (pc0 ++ (S0))) : Ret E W 20 [pv0, .int .i64 k_1] h (fun v h' => ∃ ic0,
    v = .int .i64 r.1 ∧ SlF SnapStep.cells 3 51 pv0 r.2 ic0 ∧ Sep h' lo (ic0 ++ (S0))) := by
  refine Ret.of (fn := x20) rfl (Run.of ?_)
  unfold laws_markSnapStepS at hF
  have zf0 : argFr [pv0, .int .i64 k_1] 0 = pv0 := rfl
  have zf1 : argFr [pv0, .int .i64 k_1] 1 = .int .i64 k_1 := rfl
  generalize argFr [pv0, .int .i64 k_1] = fr0 at zf0 zf1 ⊢
  simp only [x20, run_seq, run_reg, run_mv, run_ops_nil, x20_10, B0, reduceIte, reduceEqDiff]
  obtain ⟨oc13, hX15, hk16⟩ := jn_some hF
  simp only [x20_9]
  refine loopF_j (σ := Int × Int × (List SnapStep)) (fun s55 => laws_markSnapStepS_b1 s55.1 s55.2.1 s55.2.2) (fun s fr' h' => ∃ c9,
      fr' 0 = pv0 ∧ fr' 1 = .int .i64 s.1 ∧ fr' 5 = .int .i64 s.2.1 ∧ SlF SnapStep.cells 3 51 pv0 s.2.2 c9 ∧ Sep h' lo (c9 ++ (S0))) hX15 ⟨pc0, by simp only [zf0, B0, reduceIte,
      reduceEqDiff], by simp only [zf1, B0, reduceIte, reduceEqDiff], by simp only [B0, reduceIte, reduceEqDiff], ph0, hS⟩ (fun _ _ _ h => h) ?_ ?_
  · rintro ⟨s6, s7, s8⟩ fr25 h26 ⟨c9, f28, f29, f30, hv10, hS27⟩ oc14 hF17 hr18 Q19 hN20 hK21 hR22 hE23
    dsimp only at *
    unfold laws_markSnapStepS_b1 at hF17
    simp only [x20_7, run_seq, run_reg, f30, run_mv, f28, run_len, put1_some, SlF.plen hv10, run_bin, xlss, run_ops_nil, run_cond, B0, reduceIte, reduceEqDiff]
    refine cond_split (t := (decide (s7 < (List.length s8 : Int)))) (fun hc32 => ?_) (fun hc32 => ?_)
    · rw [iteT hc32] at hF17
      obtain ⟨x33, hx34, hF35⟩ := bind_some' hF17
      simp only [run_skip, x20_6, run_seq, run_block, x20_5, run_reg, f28, run_mv, f30, f29, run_ia, B0, reduceIte, reduceEqDiff]
      obtain ⟨b36, hb37⟩ := SlF.isrow hv10 (geti_ne hx34)
      refine put1_eq (SlF.ia hv10 hb37 hx34) ?_
      simp only [run_fa, put1_some, Nat.reduceAdd, Nat.zero_add, Nat.add_zero, xfa_ptr, run_st, B0, reduceIte, reduceEqDiff]
      refine put2_stF (f := SnapStep.cells) (x' := (SnapStep.mk s6 x33.K x33.N)) (o := 0) hv10 hS27 hW hb37 hx34 (fun _ => rfl) rfl rfl (Nat.le_of_ble_eq_true rfl) rfl
          (fun c40 h38 hv41 hS39 => ?_)
      have hx42 := geti_set (x' := (SnapStep.mk s6 x33.K x33.N)) hx34
      simp only [run_ops_nil, x20_4, run_seq, run_reg, f29, run_mv, run_bin, put1_some, xadd, x20_3, f28, f30, run_ia, B0, reduceIte, reduceEqDiff]
      refine put1_eq (SlF.ia hv41 hb37 hx42) ?_
      simp only [run_fa, put1_some, Nat.reduceAdd, Nat.zero_add, Nat.add_zero, xfa_ptr, run_st, B0, reduceIte, reduceEqDiff]
      refine put2_stF (f := SnapStep.cells) (x' := (SnapStep.mk s6 (IntKind.wrap .i64 (s6 + 1)) x33.N)) (o := 1) hv41 hS39 hW hb37 hx42 (fun _ => rfl) rfl rfl
          (Nat.le_of_ble_eq_true rfl) rfl (fun c45 h43 hv46 hS44 => ?_)
      rw [List.set_set] at hv46
      have hx47 := geti_set (x' := (SnapStep.mk s6 (IntKind.wrap .i64 (s6 + 1)) x33.N)) hx34
      simp only [run_ops_nil, x20_2, run_seq, run_reg, run_mv, run_bin, put1_some, xadd, x20_1, f28, f30, run_ia, B0, reduceIte, reduceEqDiff]
      refine put1_eq (SlF.ia hv46 hb37 hx47) ?_
      simp only [run_fa, put1_some, Nat.reduceAdd, Nat.zero_add, Nat.add_zero, xfa_ptr, run_st, B0, reduceIte, reduceEqDiff]
      refine put2_stF (f := SnapStep.cells) (x' := (SnapStep.mk s6 (IntKind.wrap .i64 (s6 + 1)) (IntKind.wrap .i64 ((IntKind.wrap .i64 (s6 + 1)) + 1))))
          (o := 2) hv46 hS44 hW hb37 hx47 (fun _ => rfl) rfl rfl (Nat.le_of_ble_eq_true rfl) rfl (fun c50 h48 hv51 hS49 => ?_)
      rw [List.set_set] at hv51
      have hx52 := geti_set (x' := (SnapStep.mk s6 (IntKind.wrap .i64 (s6 + 1)) (IntKind.wrap .i64 ((IntKind.wrap .i64 (s6 + 1)) + 1)))) hx34
      simp only [run_ops_nil, run_reg, run_mv, run_bin, put1_some, xadd, run_blk, f30, run_nil, B0, reduceIte, reduceEqDiff]
      have e53 := some_inj hF35
      exact hN20 _ _ _ e53.symm ⟨c50, by simp only [f28, B0, reduceIte, reduceEqDiff], by simp only [B0, reduceIte, reduceEqDiff], by simp only [B0, reduceIte, reduceEqDiff],
          hv51, hS49⟩
    rw [iteF hc32] at hF17
    simp only [run_exit, out_code, out_nil, B0, reduceIte, reduceEqDiff]
    have e54 := some_inj hF17
    exact hK21 _ _ _ e54.symm ⟨c9, by simp only [f28, B0, reduceIte, reduceEqDiff], by simp only [f29, B0, reduceIte, reduceEqDiff], by simp only [f30, B0, reduceIte,
        reduceEqDiff], hv10, hS27⟩
  rintro ⟨s56, s57, s58⟩ fr61 h62 rfl ⟨c59, f64, f65, f66, hv60, hS63⟩
  dsimp only [jnO] at hk16
  dsimp only at *
  unfold laws_markSnapStepS_j1 at hk16
  simp only [run_seq, run_reg, f65, run_mv, run_ops_nil, run_ret, B0, reduceIte, reduceEqDiff]
  have he := some_inj hk16
  subst he
  simp only [end_ret1, B0, reduceIte, reduceEqDiff]
  exact ⟨c59, by first | trivial | rfl, hv60, hS63⟩
theorem laws_markIntS_x {W : Nat → Bool} {h : Heap} {lo : Nat} {S0 : List Obj} (hW : ∀ b,
    lo ≤ b → W b = true) (k : Nat) (pv0 : XV) (pc0 : List Obj) (a_0 : List Int) (ph0 : SlF cI 1 3 pv0 a_0 pc0) (k_1 : Int) (r : Int × (List Int))
    (hF : laws_markIntS k a_0 k_1 = some r) (hS : Sep h lo (pc0 ++ (S0))) : Ret E W 58 [pv0, .int .i64 k_1] h (fun v h' => ∃ ic0,
    v = .int .i64 r.1 ∧ SlF cI 1 3 pv0 r.2 ic0 ∧ Sep h' lo (ic0 ++ (S0))) := by
  refine Ret.of (fn := x58) rfl (Run.of ?_)
  unfold laws_markIntS at hF
  have zf0 : argFr [pv0, .int .i64 k_1] 0 = pv0 := rfl
  have zf1 : argFr [pv0, .int .i64 k_1] 1 = .int .i64 k_1 := rfl
  generalize argFr [pv0, .int .i64 k_1] = fr0 at zf0 zf1 ⊢
  simp only [x58, run_seq, run_reg, run_mv, run_ops_nil, x58_6, B0, reduceIte, reduceEqDiff]
  obtain ⟨oc13, hX15, hk16⟩ := jn_some hF
  simp only [x58_5]
  refine loopF_j (σ := Int × Int × (List Int)) (fun s45 => laws_markIntS_b1 s45.1 s45.2.1 s45.2.2) (fun s fr' h' => ∃ c9,
      fr' 0 = pv0 ∧ fr' 1 = .int .i64 s.1 ∧ fr' 5 = .int .i64 s.2.1 ∧ SlF cI 1 3 pv0 s.2.2 c9 ∧ Sep h' lo (c9 ++ (S0))) hX15 ⟨pc0, by simp only [zf0, B0, reduceIte, reduceEqDiff],
      by simp only [zf1, B0, reduceIte, reduceEqDiff], by simp only [B0, reduceIte, reduceEqDiff], ph0, hS⟩ (fun _ _ _ h => h) ?_ ?_
  · rintro ⟨s6, s7, s8⟩ fr25 h26 ⟨c9, f28, f29, f30, hv10, hS27⟩ oc14 hF17 hr18 Q19 hN20 hK21 hR22 hE23
    dsimp only at *
    unfold laws_markIntS_b1 at hF17
    simp only [x58_3, run_seq, run_reg, f30, run_mv, f28, run_len, put1_some, SlF.plen hv10, run_bin, xlss, run_ops_nil, run_cond, B0, reduceIte, reduceEqDiff]
    refine cond_split (t := (decide (s7 < (List.length s8 : Int)))) (fun hc32 => ?_) (fun hc32 => ?_)
    · rw [iteT hc32] at hF17
      obtain ⟨x33, hx34, hF35⟩ := bind_some' hF17
      simp only [run_skip, x58_2, run_seq, run_block, x58_1, run_reg, f28, run_mv, f30, f29, run_ia, B0, reduceIte, reduceEqDiff]
      obtain ⟨b36, hb37⟩ := SlF.isrow hv10 (geti_ne hx34)
      refine put1_eq (SlF.ia hv10 hb37 hx34) ?_
      simp only [run_st, B0, reduceIte, reduceEqDiff]
      refine put2_stF (f := cI) (x' := s6) (o := 0) hv10 hS27 hW hb37 hx34 (fun _ => rfl) rfl rfl (Nat.le_of_ble_eq_true rfl) rfl (fun c40 h38 hv41 hS39 => ?_)
      have hx42 := geti_set (x' := s6) hx34
      simp only [run_ops_nil, run_reg, f29, run_mv, run_bin, put1_some, xadd, run_blk, f30, run_nil, B0, reduceIte, reduceEqDiff]
      have e43 := some_inj hF35
      exact hN20 _ _ _ e43.symm ⟨c40, by simp only [f28, B0, reduceIte, reduceEqDiff], by simp only [B0, reduceIte, reduceEqDiff], by simp only [B0, reduceIte, reduceEqDiff],
          hv41, hS39⟩
    rw [iteF hc32] at hF17
    simp only [run_exit, out_code, out_nil, B0, reduceIte, reduceEqDiff]
    have e44 := some_inj hF17
    exact hK21 _ _ _ e44.symm ⟨c9, by simp only [f28, B0, reduceIte, reduceEqDiff], by simp only [f29, B0, reduceIte, reduceEqDiff], by simp only [f30, B0, reduceIte,
        reduceEqDiff], hv10, hS27⟩
  rintro ⟨s46, s47, s48⟩ fr51 h52 rfl ⟨c49, f54, f55, f56, hv50, hS53⟩
  dsimp only [jnO] at hk16
  dsimp only at *
  unfold laws_markIntS_j1 at hk16
  simp only [run_seq, run_reg, f55, run_mv, run_ops_nil, run_ret, B0, reduceIte, reduceEqDiff]
  have he := some_inj hk16
  subst he
  simp only [end_ret1, B0, reduceIte, reduceEqDiff]
  exact ⟨c49, by first | trivial | rfl, hv50, hS53⟩
theorem laws_markChanS_x {W : Nat → Bool} {h : Heap} {lo : Nat} {S0 : List Obj} (hW : ∀ b,
    lo ≤ b → W b = true) (k : Nat) (pv0 : XV) (pc0 : List Obj) (a_0 : List Chan) (ph0 : SlN Chan.R 3 74 pv0 a_0 pc0) (k_1 : Int) (r : Int × (List Chan))
    (hF : laws_markChanS k a_0 k_1 = some r) (hS : Sep h lo (pc0 ++ (S0))) : Ret E W 59 [pv0, .int .i64 k_1] h (fun v h' => ∃ ic0,
    v = .int .i64 r.1 ∧ SlN Chan.R 3 74 pv0 r.2 ic0 ∧ Sep h' lo (ic0 ++ (S0))) := by
  refine Ret.of (fn := x59) rfl (Run.of ?_)
  unfold laws_markChanS at hF
  have zf0 : argFr [pv0, .int .i64 k_1] 0 = pv0 := rfl
  have zf1 : argFr [pv0, .int .i64 k_1] 1 = .int .i64 k_1 := rfl
  generalize argFr [pv0, .int .i64 k_1] = fr0 at zf0 zf1 ⊢
  simp only [x59, run_seq, run_reg, run_mv, run_ops_nil, x59_10, B0, reduceIte, reduceEqDiff]
  obtain ⟨oc13, hX15, hk16⟩ := jn_some hF
  simp only [x59_9]
  refine loopF_j (σ := Int × Int × (List Chan)) (fun s71 => laws_markChanS_b1 k s71.1 s71.2.1 s71.2.2) (fun s fr' h' => ∃ c9,
      fr' 0 = pv0 ∧ fr' 1 = .int .i64 s.1 ∧ fr' 5 = .int .i64 s.2.1 ∧ SlN Chan.R 3 74 pv0 s.2.2 c9 ∧ Sep h' lo (c9 ++ (S0))) hX15 ⟨pc0, by simp only [zf0, B0, reduceIte,
      reduceEqDiff], by simp only [zf1, B0, reduceIte, reduceEqDiff], by simp only [B0, reduceIte, reduceEqDiff], ph0, hS⟩ (fun _ _ _ h => h) ?_ ?_
  · rintro ⟨s6, s7, s8⟩ fr25 h26 ⟨c9, f28, f29, f30, hv10, hS27⟩ oc14 hF17 hr18 Q19 hN20 hK21 hR22 hE23
    dsimp only at *
    unfold laws_markChanS_b1 at hF17
    simp only [x59_7, run_seq, run_reg, f30, run_mv, f28, run_len, put1_some, SlN.len hv10, run_bin, xlss, run_ops_nil, run_cond, B0, reduceIte, reduceEqDiff]
    refine cond_split (t := (decide (s7 < (List.length s8 : Int)))) (fun hc32 => ?_) (fun hc32 => ?_)
    · rw [iteT hc32] at hF17
      obtain ⟨x33, hx34, hF35⟩ := bind_some' hF17
      simp only [run_skip, x59_6, run_seq, run_block, x59_5, run_reg, f28, run_mv, f30, f29, run_ia, B0, reduceIte, reduceEqDiff]
      obtain ⟨b36, hb37⟩ := SlN.isrow hv10 (geti_ne hx34)
      refine put1_eq (SlN.ia hv10 hb37 hx34) ?_
      obtain ⟨c40, cs41, os42, hv43, hR44, hS45⟩ := SlG.opn (SlN.toG hv10 hb37 Chan.RO.len) hx34 hk_nil Chan.RO.len hS27
      obtain ⟨v47, c48, hv49, rfl, rfl⟩ := hR44
      have hS46 := Sep.no1 hS45
      simp only [run_fa, put1_some, Nat.reduceAdd, Nat.zero_add, Nat.add_zero, xfa_ptr, run_st, B0, reduceIte, reduceEqDiff]
      refine put2_stGx (us := [.int .i64 s6]) (o := 0) (cs' := [.int .i64 s6, .int .i64 x33.To,
          v47]) rfl hv43 rfl hx34 hS46 hW rfl rfl (Nat.le_of_ble_eq_true rfl) rfl (fun c51 h38 hv52 hS39 => ?_)
      simp only [run_ops_nil, x59_4, run_seq, run_reg, f29, run_mv, run_bin, put1_some, xadd, x59_3, f28, f30, run_ia, B0, reduceIte, reduceEqDiff]
      refine put1_eq (SlG.ia hv52 hx34) ?_
      simp only [run_fa, put1_some, Nat.reduceAdd, Nat.zero_add, Nat.add_zero, xfa_ptr, run_st, B0, reduceIte, reduceEqDiff]
      refine put2_stGx (us := [.int .i64 (IntKind.wrap .i64 (s6 + 1))]) (o := 1) (cs' := [.int .i64 s6, .int .i64 (IntKind.wrap .i64 (s6 + 1)),
          v47]) rfl hv52 rfl hx34 hS39 hW rfl rfl (Nat.le_of_ble_eq_true rfl) rfl (fun c55 h53 hv56 hS54 => ?_)
      simp only [run_ops_nil, x59_2, run_seq, run_reg, run_mv, run_bin, put1_some, xadd, x59_1, f28, f30, run_ia, B0, reduceIte, reduceEqDiff]
      refine put1_eq (SlG.ia hv56 hx34) ?_
      simp only [run_fa, put1_some, Nat.reduceAdd, Nat.zero_add, Nat.add_zero, xfa_ptr, run_ld, B0, reduceIte, reduceEqDiff]
      refine put1_eq (v := v47) ((SlG.ld (o := 2) hv56 rfl hx34 hS54 (Nat.le_of_ble_eq_true rfl)).trans rfl) ?_
      obtain ⟨v57, hx58, hF59⟩ := bind_some' hF35
      simp only [run_mv, run_call, B0, reduceIte, reduceEqDiff]
      refine call0 rfl (laws_markIntS_x hW k v47 c48 x33.Way hv49 (IntKind.wrap .i64 ((IntKind.wrap .i64 (s6 + 1)) + 1)) v57 hx58 (Sep.m1 hS54)) ?_
      rintro _ h62 ⟨c60, rfl, hv61, hS63⟩
      simp only [run_mv, run_ops_nil, run_blk, run_reg, f30, run_bin, put1_some, xadd, run_nil, B0, reduceIte, reduceEqDiff]
      obtain ⟨c64, hv65, hS66⟩ := SlG.cls (e' := (Chan.mk s6 (IntKind.wrap .i64 (s6 + 1)) v57.2)) (c := c55) (os := c60) hv56 rfl hx34 hk_nil (Chan.RI (x := (Chan.mk s6
          (IntKind.wrap .i64 (s6 + 1)) v57.2)) hv61) (Sep.m1 hS63)
      have hx67 := geti_set (x' := (Chan.mk s6 (IntKind.wrap .i64 (s6 + 1)) v57.2)) hx34
      have hv68 := SlG.toN hv65
      have e69 := some_inj hF59
      exact hN20 _ _ _ e69.symm ⟨c64, by simp only [f28, B0, reduceIte, reduceEqDiff], by simp only [B0, reduceIte, reduceEqDiff], by simp only [B0, reduceIte, reduceEqDiff],
          hv68, hS66⟩
    rw [iteF hc32] at hF17
    simp only [run_exit, out_code, out_nil, B0, reduceIte, reduceEqDiff]
    have e70 := some_inj hF17
    exact hK21 _ _ _ e70.symm ⟨c9, by simp only [f28, B0, reduceIte, reduceEqDiff], by simp only [f29, B0, reduceIte, reduceEqDiff], by simp only [f30, B0, reduceIte,
        reduceEqDiff], hv10, hS27⟩
  rintro ⟨s72, s73, s74⟩ fr77 h78 rfl ⟨c75, f80, f81, f82, hv76, hS79⟩
  dsimp only [jnO] at hk16
  dsimp only at *
  unfold laws_markChanS_j1 at hk16
  simp only [run_seq, run_reg, f81, run_mv, run_ops_nil, run_ret, B0, reduceIte, reduceEqDiff]
  have he := some_inj hk16
  subst he
  simp only [end_ret1, B0, reduceIte, reduceEqDiff]
  exact ⟨c75, by first | trivial | rfl, hv76, hS79⟩
theorem laws_markBoolS_x {W : Nat → Bool} {h : Heap} {lo : Nat} {S0 : List Obj} (hW : ∀ b,
    lo ≤ b → W b = true) (k : Nat) (pv0 : XV) (pc0 : List Obj) (a_0 : List Bool) (ph0 : SlF cB 1 4 pv0 a_0 pc0) (k_1 : Int) (r : Int × (List Bool))
    (hF : laws_markBoolS k a_0 k_1 = some r) (hS : Sep h lo (pc0 ++ (S0))) : Ret E W 22 [pv0, .int .i64 k_1] h (fun v h' => ∃ ic0,
    v = .int .i64 r.1 ∧ SlF cB 1 4 pv0 r.2 ic0 ∧ Sep h' lo (ic0 ++ (S0))) := by
  refine Ret.of (fn := x22) rfl (Run.of ?_)
  unfold laws_markBoolS at hF
  have zf0 : argFr [pv0, .int .i64 k_1] 0 = pv0 := rfl
  have zf1 : argFr [pv0, .int .i64 k_1] 1 = .int .i64 k_1 := rfl
  generalize argFr [pv0, .int .i64 k_1] = fr0 at zf0 zf1 ⊢
  simp only [x22, run_seq, run_reg, run_mv, run_ops_nil, x22_6, B0, reduceIte, reduceEqDiff]
  obtain ⟨oc13, hX15, hk16⟩ := jn_some hF
  simp only [x22_5]
  refine loopF_j (σ := Int × Int × (List Bool)) (fun s45 => laws_markBoolS_b1 s45.1 s45.2.1 s45.2.2) (fun s fr' h' => ∃ c9,
      fr' 0 = pv0 ∧ fr' 1 = .int .i64 s.1 ∧ fr' 5 = .int .i64 s.2.1 ∧ SlF cB 1 4 pv0 s.2.2 c9 ∧ Sep h' lo (c9 ++ (S0))) hX15 ⟨pc0, by simp only [zf0, B0, reduceIte, reduceEqDiff],
      by simp only [zf1, B0, reduceIte, reduceEqDiff], by simp only [B0, reduceIte, reduceEqDiff], ph0, hS⟩ (fun _ _ _ h => h) ?_ ?_
  · rintro ⟨s6, s7, s8⟩ fr25 h26 ⟨c9, f28, f29, f30, hv10, hS27⟩ oc14 hF17 hr18 Q19 hN20 hK21 hR22 hE23
    dsimp only at *
    unfold laws_markBoolS_b1 at hF17
    simp only [x22_3, run_seq, run_reg, f30, run_mv, f28, run_len, put1_some, SlF.plen hv10, run_bin, xlss, run_ops_nil, run_cond, B0, reduceIte, reduceEqDiff]
    refine cond_split (t := (decide (s7 < (List.length s8 : Int)))) (fun hc32 => ?_) (fun hc32 => ?_)
    · rw [iteT hc32] at hF17
      obtain ⟨x33, hx34, hF35⟩ := bind_some' hF17
      simp only [run_skip, x22_2, run_seq, run_block, x22_1, run_reg, f28, run_mv, f30, f29, run_bin, put1_some, xrem_nz (n := 3) (by decide), xeql, run_ia, B0, reduceIte,
          reduceEqDiff]
      obtain ⟨b36, hb37⟩ := SlF.isrow hv10 (geti_ne hx34)
      refine put1_eq (SlF.ia hv10 hb37 hx34) ?_
      simp only [run_st, B0, reduceIte, reduceEqDiff]
      refine put2_stF (f := cB) (x' := (decide ((Int.tmod s6 3) = 0))) (o := 0) hv10 hS27 hW hb37 hx34 (fun _ => rfl) rfl rfl (Nat.le_of_ble_eq_true rfl) rfl
          (fun c40 h38 hv41 hS39 => ?_)
      have hx42 := geti_set (x' := (decide ((Int.tmod s6 3) = 0))) hx34
      simp only [run_ops_nil, run_reg, f29, run_mv, run_bin, put1_some, xadd, run_blk, f30, run_nil, B0, reduceIte, reduceEqDiff]
      have e43 := some_inj hF35
      exact hN20 _ _ _ e43.symm ⟨c40, by simp only [f28, B0, reduceIte, reduceEqDiff], by simp only [B0, reduceIte, reduceEqDiff], by simp only [B0, reduceIte, reduceEqDiff],
          hv41, hS39⟩
    rw [iteF hc32] at hF17
    simp only [run_exit, out_code, out_nil, B0, reduceIte, reduceEqDiff]
    have e44 := some_inj hF17
    exact hK21 _ _ _ e44.symm ⟨c9, by simp only [f28, B0, reduceIte, reduceEqDiff], by simp only [f29, B0, reduceIte, reduceEqDiff], by simp only [f30, B0, reduceIte,
        reduceEqDiff], hv10, hS27⟩
  rintro ⟨s46, s47, s48⟩ fr51 h52 rfl ⟨c49, f54, f55, f56, hv50, hS53⟩
  dsimp only [jnO] at hk16
  dsimp only at *
  unfold laws_markBoolS_j1 at hk16
  simp only [run_seq, run_reg, f55, run_mv, run_ops_nil, run_ret, B0, reduceIte, reduceEqDiff]
  have he := some_inj hk16
  subst he
  simp only [end_ret1, B0, reduceIte, reduceEqDiff]
  exact ⟨c49, by first | trivial | rfl, hv50, hS53⟩
theorem laws_markPictureS_x {W : Nat → Bool} {h : Heap} {lo : Nat} {S0 : List Obj} (hW : ∀ b,
    lo ≤ b → W b = true) (k : Nat) (pv0 : XV) (pc0 : List Obj) (a_0 : List Picture) (ph0 : SlN Picture.R 4 76 pv0 a_0 pc0) (k_1 : Int) (r : Int × (List Picture))
    (hF : laws_markPictureS k a_0 k_1 = some r) (hS : Sep h lo (pc0 ++ (S0))) : Ret E W 60 [pv0, .int .i64 k_1] h (fun v h' => ∃ ic0,
    v = .int .i64 r.1 ∧ SlN Picture.R 4 76 pv0 r.2 ic0 ∧ Sep h' lo (ic0 ++ (S0))) := by
  refine Ret.of (fn := x60) rfl (Run.of ?_)
  unfold laws_markPictureS at hF
  have zf0 : argFr [pv0, .int .i64 k_1] 0 = pv0 := rfl
  have zf1 : argFr [pv0, .int .i64 k_1] 1 = .int .i64 k_1 := rfl
  generalize argFr [pv0, .int .i64 k_1] = fr0 at zf0 zf1 ⊢
  simp only [x60, run_seq, run_reg, run_mv, run_ops_nil, x60_11, B0, reduceIte, reduceEqDiff]
  obtain ⟨oc13, hX15, hk16⟩ := jn_some hF
  simp only [x60_10]
  refine loopF_j (σ := Int × Int × (List Picture)) (fun s82 => laws_markPictureS_b1 k s82.1 s82.2.1 s82.2.2) (fun s fr' h' => ∃ c9,
      fr' 0 = pv0 ∧ fr' 1 = .int .i64 s.1 ∧ fr' 5 = .int .i64 s.2.1 ∧ SlN Picture.R 4 76 pv0 s.2.2 c9 ∧ Sep h' lo (c9 ++ (S0))) hX15 ⟨pc0, by simp only [zf0, B0, reduceIte,
      reduceEqDiff], by simp only [zf1, B0, reduceIte, reduceEqDiff], by simp only [B0, reduceIte, reduceEqDiff], ph0, hS⟩ (fun _ _ _ h => h) ?_ ?_
  · rintro ⟨s6, s7, s8⟩ fr25 h26 ⟨c9, f28, f29, f30, hv10, hS27⟩ oc14 hF17 hr18 Q19 hN20 hK21 hR22 hE23
    dsimp only at *
    unfold laws_markPictureS_b1 at hF17
    simp only [x60_8, run_seq, run_reg, f30, run_mv, f28, run_len, put1_some, SlN.len hv10, run_bin, xlss, run_ops_nil, run_cond, B0, reduceIte, reduceEqDiff]
    refine cond_split (t := (decide (s7 < (List.length s8 : Int)))) (fun hc32 => ?_) (fun hc32 => ?_)
    · rw [iteT hc32] at hF17
      obtain ⟨x33, hx34, hF35⟩ := bind_some' hF17
      simp only [run_skip, x60_7, run_seq, run_block, x60_6, run_reg, f28, run_mv, f30, f29, run_bin, put1_some, xrem_nz (n := 3) (by decide), xeql, run_ia, B0, reduceIte,
          reduceEqDiff]
      obtain ⟨b36, hb37⟩ := SlN.isrow hv10 (geti_ne hx34)
      refine put1_eq (SlN.ia hv10 hb37 hx34) ?_
      obtain ⟨c40, cs41, os42, hv43, hR44, hS45⟩ := SlG.opn (SlN.toG hv10 hb37 Picture.RO.len) hx34 hk_nil Picture.RO.len hS27
      obtain ⟨v47, c48, v51, c52, hv49, hv53, rfl, rfl⟩ := hR44
      have hS46 := Sep.no2 hS45
      simp only [run_fa, put1_some, Nat.reduceAdd, Nat.zero_add, Nat.add_zero, xfa_ptr, run_st, B0, reduceIte, reduceEqDiff]
      refine put2_stGx (us := [.bool (decide ((Int.tmod s6 3) = 0))]) (o := 0) (cs' := [.bool (decide ((Int.tmod s6 3) = 0)), .int .i64 x33.Amount, v47,
          v51]) rfl hv43 rfl hx34 hS46 hW rfl rfl (Nat.le_of_ble_eq_true rfl) rfl (fun c55 h38 hv56 hS39 => ?_)
      simp only [run_ops_nil, x60_5, run_seq, run_reg, f29, run_mv, run_bin, put1_some, xadd, x60_4, f28, f30, run_ia, B0, reduceIte, reduceEqDiff]
      refine put1_eq (SlG.ia hv56 hx34) ?_
      simp only [run_fa, put1_some, Nat.reduceAdd, Nat.zero_add, Nat.add_zero, xfa_ptr, run_st, B0, reduceIte, reduceEqDiff]
      refine put2_stGx (us := [.int .i64 (IntKind.wrap .i64 (s6 + 1))]) (o := 1) (cs' := [.bool (decide ((Int.tmod s6 3) = 0)), .int .i64 (IntKind.wrap .i64 (s6 + 1)), v47,
          v51]) rfl hv56 rfl hx34 hS39 hW rfl rfl (Nat.le_of_ble_eq_true rfl) rfl (fun c59 h57 hv60 hS58 => ?_)
      simp only [run_ops_nil, x60_3, run_seq, run_reg, run_mv, run_bin, put1_some, xadd, x60_2, f28, f30, run_ia, B0, reduceIte, reduceEqDiff]
      refine put1_eq (SlG.ia hv60 hx34) ?_
      simp only [run_fa, put1_some, Nat.reduceAdd, Nat.zero_add, Nat.add_zero, xfa_ptr, run_ld, B0, reduceIte, reduceEqDiff]
      refine put1_eq (v := v47) ((SlG.ld (o := 2) hv60 rfl hx34 hS58 (Nat.le_of_ble_eq_true rfl)).trans rfl) ?_
      obtain ⟨v61, hx62, hF63⟩ := bind_some' hF35
      simp only [run_mv, run_call, B0, reduceIte, reduceEqDiff]
      refine call0 rfl (laws_markIntS_x hW k v47 c48 x33.In hv49 (IntKind.wrap .i64 ((IntKind.wrap .i64 (s6 + 1)) + 1)) v61 hx62 (Sep.m1 hS58)) ?_
      rintro _ h66 ⟨c64, rfl, hv65, hS67⟩
      simp only [run_mv, run_ops_nil, x60_1, run_reg, f28, f30, run_ia, B0, reduceIte, reduceEqDiff]
      refine put1_eq (SlG.ia hv60 hx34) ?_
      simp only [run_fa, put1_some, Nat.reduceAdd, Nat.zero_add, Nat.add_zero, xfa_ptr, run_ld, B0, reduceIte, reduceEqDiff]
      refine put1_eq (v := v51) ((SlG.ld (o := 3) hv60 rfl hx34 (Sep.m1 hS67) (Nat.le_of_ble_eq_true rfl)).trans rfl) ?_
      obtain ⟨v68, hx69, hF70⟩ := bind_some' hF63
      simp only [run_mv, run_call, B0, reduceIte, reduceEqDiff]
      refine call0 rfl (laws_markBoolS_x hW k v51 c52 x33.Closed hv53 v61.1 v68 hx69 (Sep.m2 hS67)) ?_
      rintro _ h73 ⟨c71, rfl, hv72, hS74⟩
      simp only [run_mv, run_ops_nil, run_blk, run_reg, f30, run_bin, put1_some, xadd, run_nil, B0, reduceIte, reduceEqDiff]
      obtain ⟨c75, hv76, hS77⟩ := SlG.cls (e' := (Picture.mk (decide ((Int.tmod s6 3) = 0)) (IntKind.wrap .i64 (s6 + 1)) v61.2 v68.2)) (c := c59) (os := c64 ++
          (c71)) hv60 rfl hx34 hk_nil (Picture.RI (x := (Picture.mk (decide ((Int.tmod s6 3) = 0)) (IntKind.wrap .i64 (s6 + 1)) v61.2 v68.2)) hv65 hv72) (Sep.ni2 (c1 := c64)
          (c2 := c71) (Sep.m2 (Sep.m1 hS74)))
      have hx78 := geti_set (x' := (Picture.mk (decide ((Int.tmod s6 3) = 0)) (IntKind.wrap .i64 (s6 + 1)) v61.2 v68.2)) hx34
      have hv79 := SlG.toN hv76
      have e80 := some_inj hF70
      exact hN20 _ _ _ e80.symm ⟨c75, by simp only [f28, B0, reduceIte, reduceEqDiff], by simp only [B0, reduceIte, reduceEqDiff], by simp only [B0, reduceIte, reduceEqDiff],
          hv79, hS77⟩
    rw [iteF hc32] at hF17
    simp only [run_exit, out_code, out_nil, B0, reduceIte, reduceEqDiff]
    have e81 := some_inj hF17
    exact hK21 _ _ _ e81.symm ⟨c9, by simp only [f28, B0, reduceIte, reduceEqDiff], by simp only [f29, B0, reduceIte, reduceEqDiff], by simp only [f30, B0, reduceIte,
        reduceEqDiff], hv10, hS27⟩
  rintro ⟨s83, s84, s85⟩ fr88 h89 rfl ⟨c86, f91, f92, f93, hv87, hS90⟩
  dsimp only [jnO] at hk16
  dsimp only at *
  unfold laws_markPictureS_j1 at hk16
  simp only [run_seq, run_reg, f92, run_mv, run_ops_nil, run_ret, B0, reduceIte, reduceEqDiff]
  have he := some_inj hk16
  subst he
  simp only [end_ret1, B0, reduceIte, reduceEqDiff]
  exact ⟨c86, by first | trivial | rfl, hv87, hS90⟩
theorem laws_markSnap_x {W : Nat → Bool} {h : Heap} {lo : Nat} {S0 : List Obj} (hW : ∀ b,
    lo ≤ b → W b = true) (k : Nat) (a_0 : Snap) (pv0_0 : XV) (pc0_0 : List Obj) (ph0_0 : SlF cI 1 3 pv0_0 a_0.Amounts pc0_0) (pv0_1 : XV) (pc0_1 : List Obj)
    (ph0_1 : SlN Chan.R 3 74 pv0_1 a_0.Chans pc0_1) (pv0_2 : XV) (pc0_2 : List Obj) (ph0_2 : SlN Picture.R 4 76 pv0_2 a_0.Pictures pc0_2) (k_1 : Int) (r : Int × Snap)
    (hF : laws_markSnap k a_0 k_1 = some r) (hS : Sep h lo (pc0_0 ++ (pc0_1 ++ (pc0_2 ++ (S0))))) : Ret E W 21 [.agg [pv0_0, pv0_1, pv0_2, .int .i64 a_0.Sent,
    .int .i64 a_0.Total], .int .i64 k_1] h (fun v h' => ∃ ic0_0 ic0_1 ic0_2,
    v = .int .i64 r.1 ∧ SlF cI 1 3 pv0_0 r.2.Amounts ic0_0 ∧ SlN Chan.R 3 74 pv0_1 r.2.Chans ic0_1 ∧ SlN Picture.R 4 76 pv0_2 r.2.Pictures ic0_2 ∧ Sep h' lo (ic0_0 ++ (ic0_1 ++
    (ic0_2 ++ (S0))))) := by
  refine Ret.of (fn := x21) rfl (Run.of ?_)
  unfold laws_markSnap at hF
  have zf0 : argFr [.agg [pv0_0, pv0_1, pv0_2, .int .i64 a_0.Sent, .int .i64 a_0.Total], .int .i64 k_1] 0 = .agg [pv0_0, pv0_1, pv0_2, .int .i64 a_0.Sent,
      .int .i64 a_0.Total] := rfl
  have zf1 : argFr [.agg [pv0_0, pv0_1, pv0_2, .int .i64 a_0.Sent, .int .i64 a_0.Total], .int .i64 k_1] 1 = .int .i64 k_1 := rfl
  generalize argFr [.agg [pv0_0, pv0_1, pv0_2, .int .i64 a_0.Sent, .int .i64 a_0.Total], .int .i64 k_1] = fr0 at zf0 zf1 ⊢
  simp only [x21, run_seq, run_reg, run_box, zf0, B0, reduceIte, reduceEqDiff]
  refine put2_boxC (cs := [pv0_0, pv0_1, pv0_2, .int .i64 a_0.Sent,
      .int .i64 a_0.Total]) hS rfl rfl (all_c (SlF.one ph0_0) (all_c (SlN.one ph0_1) (all_c (SlN.one ph0_2) (all_c rfl (all_c rfl all_n))))) (fun b1 h2 hS3 => ?_)
  simp only [run_mv, run_ops_nil, B0, reduceIte, reduceEqDiff]
  refine frz_stepC hS3 hW (by simp only [B0, reduceIte, reduceEqDiff]) (fun h5 hS6 => ?_)
  simp only [run_frz_nil, x21_3, run_seq, run_reg, run_fa, put1_some, Nat.reduceAdd, Nat.zero_add, Nat.add_zero, xfa_ref, run_ld, B0, reduceIte, reduceEqDiff]
  refine put1_eq (v := pv0_0) rfl ?_
  obtain ⟨v7, hx8, hF9⟩ := bind_some' hF
  simp only [zf1, run_mv, run_call, B0, reduceIte, reduceEqDiff]
  refine call0 rfl (laws_markIntS_x hW k pv0_0 pc0_0 a_0.Amounts ph0_0 k_1 v7 hx8 hS6) ?_
  rintro _ h12 ⟨c10, rfl, hv11, hS13⟩
  simp only [run_mv, run_ops_nil, x21_2, run_seq, run_reg, run_fa, put1_some, Nat.reduceAdd, Nat.zero_add, Nat.add_zero, xfa_ref, run_ld, B0, reduceIte, reduceEqDiff]
  refine put1_eq (v := pv0_1) rfl ?_
  obtain ⟨v14, hx15, hF16⟩ := bind_some' hF9
  simp only [run_mv, run_call, B0, reduceIte, reduceEqDiff]
  refine call0 rfl (laws_markChanS_x hW k pv0_1 pc0_1 a_0.Chans ph0_1 v7.1 v14 hx15 (Sep.m1 hS13)) ?_
  rintro _ h19 ⟨c17, rfl, hv18, hS20⟩
  simp only [run_mv, run_ops_nil, x21_1, run_seq, run_reg, run_fa, put1_some, Nat.reduceAdd, Nat.zero_add, Nat.add_zero, xfa_ref, run_ld, B0, reduceIte, reduceEqDiff]
  refine put1_eq (v := pv0_2) rfl ?_
  obtain ⟨v21, hx22, hF23⟩ := bind_some' hF16
  simp only [run_mv, run_call, B0, reduceIte, reduceEqDiff]
  refine call0 rfl (laws_markPictureS_x hW k pv0_2 pc0_2 a_0.Pictures ph0_2 v14.1 v21 hx22 (Sep.m2 hS20)) ?_
  rintro _ h26 ⟨c24, rfl, hv25, hS27⟩
  simp only [run_mv, run_ops_nil, run_seq, run_reg, run_ret, B0, reduceIte, reduceEqDiff]
  have he := some_inj hF23
  subst he
  simp only [end_ret1, B0, reduceIte, reduceEqDiff]
  exact ⟨c10, c17, c24, by first | trivial | rfl, hv11, hv18, hv25, (Sep.m2 (Sep.m1 hS27))⟩
theorem laws_heldIntS_x {W : Nat → Bool} {h : Heap} (hW : ∀ b,
    h.length ≤ b → W b = true) (k : Nat) (a_0 : List Int) (k_1 : Int) (r : Int) (hF : laws_heldIntS k a_0 k_1 = some r) : Ret E W 61 [lst cI a_0,
    .int .i64 k_1] h (fun v h' => cut h.length h' E.sz false 9 v = some (.int .i64 r)) := by
  refine Ret.of (fn := x61) rfl (Run.of ?_)
  unfold laws_heldIntS at hF
  have zf0 : argFr [lst cI a_0, .int .i64 k_1] 0 = lst cI a_0 := rfl
  have zf1 : argFr [lst cI a_0, .int .i64 k_1] 1 = .int .i64 k_1 := rfl
  generalize argFr [lst cI a_0, .int .i64 k_1] = fr0 at zf0 zf1 ⊢
  have hS : Sep h h.length [] := Sep.nil h
  simp only [x61, run_seq, run_reg, run_mv, run_ops_nil, x61_6, B0, reduceIte, reduceEqDiff]
  obtain ⟨oc7, hX9, hk10⟩ := jn_some hF
  simp only [x61_5]
  refine loopF_j (σ := Int × Int) (fun s36 => laws_heldIntS_b1 a_0 s36.1 s36.2)
      (fun s fr' h' => fr' 0 = lst cI a_0 ∧ fr' 1 = .int .i64 s.1 ∧ fr' 5 = .int .i64 s.2 ∧ Sep h' h.length ([])) hX9 ⟨by simp only [zf0, B0, reduceIte, reduceEqDiff],
      by simp only [zf1, B0, reduceIte, reduceEqDiff], by simp only [B0, reduceIte, reduceEqDiff], hS⟩ (fun _ _ _ h => h) ?_ ?_
  · rintro ⟨s3, s4⟩ fr19 h20 ⟨f22, f23, f24, hS21⟩ oc8 hF11 hr12 Q13 hN14 hK15 hR16 hE17
    dsimp only at *
    unfold laws_heldIntS_b1 at hF11
    simp only [x61_3, run_seq, run_reg, f24, run_mv, f22, run_len, put1_some, xlen_lst, run_bin, xlss, run_ops_nil, run_cond, B0, reduceIte, reduceEqDiff]
    refine cond_split (t := (decide (s4 < (List.length a_0 : Int)))) (fun hc26 => ?_) (fun hc26 => ?_)
    · rw [iteT hc26] at hF11
      obtain ⟨x27, hx28, hF29⟩ := bind_some' hF11
      simp only [run_skip, x61_2, run_seq, run_block, x61_1, run_reg, f22, run_mv, f24, run_ia, B0, reduceIte, reduceEqDiff]
      refine put1_eq (v := .ref (cI x27) 0) (xia_lst hx28 rfl) ?_
      simp only [run_ld, B0, reduceIte, reduceEqDiff]
      refine put1_eq (v := .int .i64 x27) rfl ?_
      simp only [f23, run_mv, run_bin, put1_some, xneq, run_ops_nil, run_cond, B0, reduceIte, reduceEqDiff]
      refine cond_split (t := (decide (x27 ≠ s3))) (fun hc30 => ?_) (fun hc30 => ?_)
      · rw [iteT hc30] at hF29
        simp only [run_seq, run_reg, run_mv, run_ops_nil, run_ret, B0, reduceIte, reduceEqDiff]
        have e31 := some_inj hF29
        subst e31
        have ho32 := hr12 _ rfl
        have hk33 := hk10
        rw [ho32] at hk33
        dsimp only [jnO] at hk33
        apply hR16
        have he := some_inj hk33
        subst he
        simp only [end_ret1, B0, reduceIte, reduceEqDiff]
        exact rfl
      rw [iteF hc30] at hF29
      simp only [run_skip, run_reg, f23, run_mv, run_bin, put1_some, xadd, run_ops_nil, run_blk, f24, run_nil, B0, reduceIte, reduceEqDiff]
      have e34 := some_inj hF29
      exact hN14 _ _ _ e34.symm ⟨by simp only [f22, B0, reduceIte, reduceEqDiff], by simp only [B0, reduceIte, reduceEqDiff], by simp only [B0, reduceIte, reduceEqDiff], hS21⟩
    rw [iteF hc26] at hF11
    simp only [run_exit, out_code, out_nil, B0, reduceIte, reduceEqDiff]
    have e35 := some_inj hF11
    exact hK15 _ _ _ e35.symm ⟨by simp only [f22, B0, reduceIte, reduceEqDiff], by simp only [f23, B0, reduceIte, reduceEqDiff], by simp only [f24, B0, reduceIte, reduceEqDiff],
        hS21⟩
  rintro ⟨s37, s38⟩ fr39 h40 rfl ⟨f42, f43, f44, hS41⟩
  dsimp only [jnO] at hk10
  dsimp only at *
  unfold laws_heldIntS_j1 at hk10
  simp only [run_seq, run_reg, f43, run_mv, run_ops_nil, run_ret, B0, reduceIte, reduceEqDiff]
  have he := some_inj hk10
  subst he
  simp only [end_ret1, B0, reduceIte, reduceEqDiff]
  exact rfl
theorem laws_heldChanS_x {W : Nat → Bool} {h : Heap} (hW : ∀ b,
    h.length ≤ b → W b = true) (k : Nat) (a_0 : List Chan) (k_1 : Int) (r : Int) (hF : laws_heldChanS k a_0 k_1 = some r) : Ret E W 62 [lst Chan.cells a_0,
    .int .i64 k_1] h (fun v h' => cut h.length h' E.sz false 9 v = some (.int .i64 r)) := by
  refine Ret.of (fn := x62) rfl (Run.of ?_)
  unfold laws_heldChanS at hF
  have zf0 : argFr [lst Chan.cells a_0, .int .i64 k_1] 0 = lst Chan.cells a_0 := rfl
  have zf1 : argFr [lst Chan.cells a_0, .int .i64 k_1] 1 = .int .i64 k_1 := rfl
  generalize argFr [lst Chan.cells a_0, .int .i64 k_1] = fr0 at zf0 zf1 ⊢
  have hS : Sep h h.length [] := Sep.nil h
  simp only [x62, run_seq, run_reg, run_mv, run_ops_nil, x62_11, B0, reduceIte, reduceEqDiff]
  obtain ⟨oc7, hX9, hk10⟩ := jn_some hF
  simp only [x62_10]
  refine loopF_j (σ := Int × Int) (fun s53 => laws_heldChanS_b1 k a_0 s53.1 s53.2)
      (fun s fr' h' => fr' 0 = lst Chan.cells a_0 ∧ fr' 1 = .int .i64 s.1 ∧ fr' 5 = .int .i64 s.2 ∧ Sep h' h.length ([])) hX9 ⟨by simp only [zf0, B0, reduceIte, reduceEqDiff],
      by simp only [zf1, B0, reduceIte, reduceEqDiff], by simp only [B0, reduceIte, reduceEqDiff], hS⟩ (fun _ _ _ h => h) ?_ ?_
  · rintro ⟨s3, s4⟩ fr19 h20 ⟨f22, f23, f24, hS21⟩ oc8 hF11 hr12 Q13 hN14 hK15 hR16 hE17
    dsimp only at *
    unfold laws_heldChanS_b1 at hF11
    simp only [x62_8, run_seq, run_reg, f24, run_mv, f22, run_len, put1_some, xlen_lst, run_bin, xlss, run_ops_nil, run_cond, B0, reduceIte, reduceEqDiff]
    refine cond_split (t := (decide (s4 < (List.length a_0 : Int)))) (fun hc26 => ?_) (fun hc26 => ?_)
    · rw [iteT hc26] at hF11
      obtain ⟨x27, hx28, hF29⟩ := bind_some' hF11
      simp only [run_skip, x62_7, run_seq, run_block, x62_6, run_reg, f22, run_mv, f24, run_ia, B0, reduceIte, reduceEqDiff]
      refine put1_eq (v := .ref (Chan.cells x27) 0) (xia_lst hx28 rfl) ?_
      simp only [run_fa, put1_some, Nat.reduceAdd, Nat.zero_add, Nat.add_zero, xfa_ref, run_ld, B0, reduceIte, reduceEqDiff]
      refine put1_eq (v := .int .i64 x27.From) rfl ?_
      simp only [f23, run_mv, run_bin, put1_some, xneq, run_ops_nil, run_cond, B0, reduceIte, reduceEqDiff]
      refine cond_split (t := (decide (x27.From ≠ s3))) (fun hc30 => ?_) (fun hc30 => ?_)
      · rw [iteT hc30] at hF29
        simp only [run_seq, run_reg, run_mv, run_ops_nil, run_ret, B0, reduceIte, reduceEqDiff]
        have e31 := some_inj hF29
        subst e31
        have ho32 := hr12 _ rfl
        have hk33 := hk10
        rw [ho32] at hk33
        dsimp only [jnO] at hk33
        apply hR16
        have he := some_inj hk33
        subst he
        simp only [end_ret1, B0, reduceIte, reduceEqDiff]
        exact rfl
      rw [iteF hc30] at hF29
      obtain ⟨x34, hx35, hF36⟩ := bind_some' hF29
      simp only [run_skip, x62_5, run_seq, run_reg, f23, run_mv, run_bin, put1_some, xadd, run_ops_nil, x62_4, f22, f24, run_ia, B0, reduceIte, reduceEqDiff]
      refine put1_eq (v := .ref (Chan.cells x34) 0) (xia_lst hx35 rfl) ?_
      simp only [run_fa, put1_some, Nat.reduceAdd, Nat.zero_add, Nat.add_zero, xfa_ref, run_ld, B0, reduceIte, reduceEqDiff]
      refine put1_eq (v := .int .i64 x34.To) rfl ?_
      simp only [run_mv, run_bin, put1_some, xneq, run_ops_nil, run_cond, B0, reduceIte, reduceEqDiff]
      refine cond_split (t := (decide (x34.To ≠ (IntKind.wrap .i64 (s3 + 1))))) (fun hc37 => ?_) (fun hc37 => ?_)
      · rw [iteT hc37] at hF36
        simp only [run_seq, run_reg, run_mv, run_ops_nil, run_ret, B0, reduceIte, reduceEqDiff]
        have e38 := some_inj hF36
        subst e38
        have ho39 := hr12 _ rfl
        have hk40 := hk10
        rw [ho39] at hk40
        dsimp only [jnO] at hk40
        apply hR16
        have he := some_inj hk40
        subst he
        simp only [end_ret1, B0, reduceIte, reduceEqDiff]
        exact rfl
      rw [iteF hc37] at hF36
      obtain ⟨x41, hx42, hF43⟩ := bind_some' hF36
      simp only [run_skip, x62_3, run_seq, run_reg, run_mv, run_bin, put1_some, xadd, run_ops_nil, x62_2, f22, f24, run_ia, B0, reduceIte, reduceEqDiff]
      refine put1_eq (v := .ref (Chan.cells x41) 0) (xia_lst hx42 rfl) ?_
      simp only [run_fa, put1_some, Nat.reduceAdd, Nat.zero_add, Nat.add_zero, xfa_ref, run_ld, B0, reduceIte, reduceEqDiff]
      refine put1_eq (v := lst cI x41.Way) rfl ?_
      obtain ⟨v44, hx45, hF46⟩ := bind_some' hF43
      simp only [run_mv, run_call, B0, reduceIte, reduceEqDiff]
      refine call1 rfl (mapM1 snap_lst (mapM1 snap_int mapM0)) (laws_heldIntS_x (fun b hb => decide_eq_true hb) k x41.Way (IntKind.wrap .i64 ((IntKind.wrap .i64
          (s3 + 1)) + 1)) v44 hx45) ?_
      simp only [run_mv, run_ops_nil, x62_1, run_seq, run_reg, run_bin, put1_some, xlss, run_cond, B0, reduceIte, reduceEqDiff]
      refine cond_split (t := (decide (v44 < 0))) (fun hc47 => ?_) (fun hc47 => ?_)
      · rw [iteT hc47] at hF46
        simp only [run_seq, run_reg, run_mv, run_ops_nil, run_ret, B0, reduceIte, reduceEqDiff]
        have e48 := some_inj hF46
        subst e48
        have ho49 := hr12 _ rfl
        have hk50 := hk10
        rw [ho49] at hk50
        dsimp only [jnO] at hk50
        apply hR16
        have he := some_inj hk50
        subst he
        simp only [end_ret1, B0, reduceIte, reduceEqDiff]
        exact rfl
      rw [iteF hc47] at hF46
      simp only [run_skip, run_blk, run_reg, f24, run_mv, run_bin, put1_some, xadd, run_ops_nil, run_nil, B0, reduceIte, reduceEqDiff]
      have e51 := some_inj hF46
      exact hN14 _ _ _ e51.symm ⟨by simp only [f22, B0, reduceIte, reduceEqDiff], by simp only [B0, reduceIte, reduceEqDiff], by simp only [B0, reduceIte, reduceEqDiff], hS21⟩
    rw [iteF hc26] at hF11
    simp only [run_exit, out_code, out_nil, B0, reduceIte, reduceEqDiff]
    have e52 := some_inj hF11
    exact hK15 _ _ _ e52.symm ⟨by simp only [f22, B0, reduceIte, reduceEqDiff], by simp only [f23, B0, reduceIte, reduceEqDiff], by simp only [f24, B0, reduceIte, reduceEqDiff],
        hS21⟩
  rintro ⟨s54, s55⟩ fr56 h57 rfl ⟨f59, f60, f61, hS58⟩
  dsimp only [jnO] at hk10
  dsimp only at *
  unfold laws_heldChanS_j1 at hk10
  simp only [run_seq, run_reg, f60, run_mv, run_ops_nil, run_ret, B0, reduceIte, reduceEqDiff]
  have he := some_inj hk10
  subst he
  simp only [end_ret1, B0, reduceIte, reduceEqDiff]
  exact rfl
theorem laws_heldBoolS_x {W : Nat → Bool} {h : Heap} (hW : ∀ b,
    h.length ≤ b → W b = true) (k : Nat) (a_0 : List Bool) (k_1 : Int) (r : Int) (hF : laws_heldBoolS k a_0 k_1 = some r) : Ret E W 24 [lst cB a_0,
    .int .i64 k_1] h (fun v h' => cut h.length h' E.sz false 9 v = some (.int .i64 r)) := by
  refine Ret.of (fn := x24) rfl (Run.of ?_)
  unfold laws_heldBoolS at hF
  have zf0 : argFr [lst cB a_0, .int .i64 k_1] 0 = lst cB a_0 := rfl
  have zf1 : argFr [lst cB a_0, .int .i64 k_1] 1 = .int .i64 k_1 := rfl
  generalize argFr [lst cB a_0, .int .i64 k_1] = fr0 at zf0 zf1 ⊢
  have hS : Sep h h.length [] := Sep.nil h
  simp only [x24, run_seq, run_reg, run_mv, run_ops_nil, x24_6, B0, reduceIte, reduceEqDiff]
  obtain ⟨oc7, hX9, hk10⟩ := jn_some hF
  simp only [x24_5]
  refine loopF_j (σ := Int × Int) (fun s36 => laws_heldBoolS_b1 a_0 s36.1 s36.2)
      (fun s fr' h' => fr' 0 = lst cB a_0 ∧ fr' 1 = .int .i64 s.1 ∧ fr' 5 = .int .i64 s.2 ∧ Sep h' h.length ([])) hX9 ⟨by simp only [zf0, B0, reduceIte, reduceEqDiff],
      by simp only [zf1, B0, reduceIte, reduceEqDiff], by simp only [B0, reduceIte, reduceEqDiff], hS⟩ (fun _ _ _ h => h) ?_ ?_
  · rintro ⟨s3, s4⟩ fr19 h20 ⟨f22, f23, f24, hS21⟩ oc8 hF11 hr12 Q13 hN14 hK15 hR16 hE17
    dsimp only at *
    unfold laws_heldBoolS_b1 at hF11
    simp only [x24_3, run_seq, run_reg, f24, run_mv, f22, run_len, put1_some, xlen_lst, run_bin, xlss, run_ops_nil, run_cond, B0, reduceIte, reduceEqDiff]
    refine cond_split (t := (decide (s4 < (List.length a_0 : Int)))) (fun hc26 => ?_) (fun hc26 => ?_)
    · rw [iteT hc26] at hF11
      obtain ⟨x27, hx28, hF29⟩ := bind_some' hF11
      simp only [run_skip, x24_2, run_seq, run_block, x24_1, run_reg, f22, run_mv, f24, run_ia, B0, reduceIte, reduceEqDiff]
      refine put1_eq (v := .ref (cB x27) 0) (xia_lst hx28 rfl) ?_
      simp only [run_ld, B0, reduceIte, reduceEqDiff]
      refine put1_eq (v := .bool x27) rfl ?_
      simp only [f23, run_mv, run_bin, put1_some, xrem_nz (n := 3) (by decide), xeql, run_eqb, xeqb_t, run_ops_nil, run_cond, B0, reduceIte, reduceEqDiff]
      refine cond_split (t := (!(x27 == (decide ((Int.tmod s3 3) = 0))))) (fun hc30 => ?_) (fun hc30 => ?_)
      · rw [iteT hc30] at hF29
        simp only [run_seq, run_reg, run_mv, run_ops_nil, run_ret, B0, reduceIte, reduceEqDiff]
        have e31 := some_inj hF29
        subst e31
        have ho32 := hr12 _ rfl
        have hk33 := hk10
        rw [ho32] at hk33
        dsimp only [jnO] at hk33
        apply hR16
        have he := some_inj hk33
        subst he
        simp only [end_ret1, B0, reduceIte, reduceEqDiff]
        exact rfl
      rw [iteF hc30] at hF29
      simp only [run_skip, run_reg, f23, run_mv, run_bin, put1_some, xadd, run_ops_nil, run_blk, f24, run_nil, B0, reduceIte, reduceEqDiff]
      have e34 := some_inj hF29
      exact hN14 _ _ _ e34.symm ⟨by simp only [f22, B0, reduceIte, reduceEqDiff], by simp only [B0, reduceIte, reduceEqDiff], by simp only [B0, reduceIte, reduceEqDiff], hS21⟩
    rw [iteF hc26] at hF11
    simp only [run_exit, out_code, out_nil, B0, reduceIte, reduceEqDiff]
    have e35 := some_inj hF11
    exact hK15 _ _ _ e35.symm ⟨by simp only [f22, B0, reduceIte, reduceEqDiff], by simp only [f23, B0, reduceIte, reduceEqDiff], by simp only [f24, B0, reduceIte, reduceEqDiff],
        hS21⟩
  rintro ⟨s37, s38⟩ fr39 h40 rfl ⟨f42, f43, f44, hS41⟩
  dsimp only [jnO] at hk10
  dsimp only at *
  unfold laws_heldBoolS_j1 at hk10
  simp only [run_seq, run_reg, f43, run_mv, run_ops_nil, run_ret, B0, reduceIte, reduceEqDiff]
  have he := some_inj hk10
  subst he
  simp only [end_ret1, B0, reduceIte, reduceEqDiff]
  exact rfl
end Go.Proofs.Ytpkiieniipenjaa.X
namespace Go.Proofs.Ytpkiieniipenjaa.X
open Go
open Nat (reduceEqDiff)
theorem laws_heldPictureS_x {W : Nat → Bool} {h : Heap} (hW : ∀ b,
    h.length ≤ b → W b = true) (k : Nat) (a_0 : List Picture) (k_1 : Int) (r : Int) (hF : laws_heldPictureS k a_0 k_1 = some r) : Ret E W 63 [lst Picture.cells a_0,
    .int .i64 k_1] h (fun v h' => cut h.length h' E.sz false 9 v = some (.int .i64 r)) := by
  refine Ret.of (fn := x63) rfl (Run.of ?_)
  unfold laws_heldPictureS at hF
  have zf0 : argFr [lst Picture.cells a_0, .int .i64 k_1] 0 = lst Picture.cells a_0 := rfl
  have zf1 : argFr [lst Picture.cells a_0, .int .i64 k_1] 1 = .int .i64 k_1 := rfl
  generalize argFr [lst Picture.cells a_0, .int .i64 k_1] = fr0 at zf0 zf1 ⊢
  have hS : Sep h h.length [] := Sep.nil h
  simp only [x63, run_seq, run_reg, run_mv, run_ops_nil, x63_13, B0, reduceIte, reduceEqDiff]
  obtain ⟨oc7, hX9, hk10⟩ := jn_some hF
  simp only [x63_12]
  refine loopF_j (σ := Int × Int) (fun s63 => laws_heldPictureS_b1 k a_0 s63.1 s63.2)
      (fun s fr' h' => fr' 0 = lst Picture.cells a_0 ∧ fr' 1 = .int .i64 s.1 ∧ fr' 5 = .int .i64 s.2 ∧ Sep h' h.length ([])) hX9 ⟨by simp only [zf0, B0, reduceIte, reduceEqDiff],
      by simp only [zf1, B0, reduceIte, reduceEqDiff], by simp only [B0, reduceIte, reduceEqDiff], hS⟩ (fun _ _ _ h => h) ?_ ?_
  · rintro ⟨s3, s4⟩ fr19 h20 ⟨f22, f23, f24, hS21⟩ oc8 hF11 hr12 Q13 hN14 hK15 hR16 hE17
    dsimp only at *
    unfold laws_heldPictureS_b1 at hF11
    simp only [x63_10, run_seq, run_reg, f24, run_mv, f22, run_len, put1_some, xlen_lst, run_bin, xlss, run_ops_nil, run_cond, B0, reduceIte, reduceEqDiff]
    refine cond_split (t := (decide (s4 < (List.length a_0 : Int)))) (fun hc26 => ?_) (fun hc26 => ?_)
    · rw [iteT hc26] at hF11
      obtain ⟨x27, hx28, hF29⟩ := bind_some' hF11
      simp only [run_skip, x63_9, run_seq, run_block, x63_8, run_reg, f22, run_mv, f24, run_ia, B0, reduceIte, reduceEqDiff]
      refine put1_eq (v := .ref (Picture.cells x27) 0) (xia_lst hx28 rfl) ?_
      simp only [run_fa, put1_some, Nat.reduceAdd, Nat.zero_add, Nat.add_zero, xfa_ref, run_ld, B0, reduceIte, reduceEqDiff]
      refine put1_eq (v := .bool x27.Taken) rfl ?_
      simp only [f23, run_mv, run_bin, put1_some, xrem_nz (n := 3) (by decide), xeql, run_eqb, xeqb_t, run_ops_nil, run_cond, B0, reduceIte, reduceEqDiff]
      refine cond_split (t := (!(x27.Taken == (decide ((Int.tmod s3 3) = 0))))) (fun hc30 => ?_) (fun hc30 => ?_)
      · rw [iteT hc30] at hF29
        simp only [run_seq, run_reg, run_mv, run_ops_nil, run_ret, B0, reduceIte, reduceEqDiff]
        have e31 := some_inj hF29
        subst e31
        have ho32 := hr12 _ rfl
        have hk33 := hk10
        rw [ho32] at hk33
        dsimp only [jnO] at hk33
        apply hR16
        have he := some_inj hk33
        subst he
        simp only [end_ret1, B0, reduceIte, reduceEqDiff]
        exact rfl
      rw [iteF hc30] at hF29
      obtain ⟨x34, hx35, hF36⟩ := bind_some' hF29
      simp only [run_skip, x63_7, run_seq, run_reg, f23, run_mv, run_bin, put1_some, xadd, run_ops_nil, x63_6, f22, f24, run_ia, B0, reduceIte, reduceEqDiff]
      refine put1_eq (v := .ref (Picture.cells x34) 0) (xia_lst hx35 rfl) ?_
      simp only [run_fa, put1_some, Nat.reduceAdd, Nat.zero_add, Nat.add_zero, xfa_ref, run_ld, B0, reduceIte, reduceEqDiff]
      refine put1_eq (v := .int .i64 x34.Amount) rfl ?_
      simp only [run_mv, run_bin, put1_some, xneq, run_ops_nil, run_cond, B0, reduceIte, reduceEqDiff]
      refine cond_split (t := (decide (x34.Amount ≠ (IntKind.wrap .i64 (s3 + 1))))) (fun hc37 => ?_) (fun hc37 => ?_)
      · rw [iteT hc37] at hF36
        simp only [run_seq, run_reg, run_mv, run_ops_nil, run_ret, B0, reduceIte, reduceEqDiff]
        have e38 := some_inj hF36
        subst e38
        have ho39 := hr12 _ rfl
        have hk40 := hk10
        rw [ho39] at hk40
        dsimp only [jnO] at hk40
        apply hR16
        have he := some_inj hk40
        subst he
        simp only [end_ret1, B0, reduceIte, reduceEqDiff]
        exact rfl
      rw [iteF hc37] at hF36
      obtain ⟨x41, hx42, hF43⟩ := bind_some' hF36
      simp only [run_skip, x63_5, run_seq, run_reg, run_mv, run_bin, put1_some, xadd, run_ops_nil, x63_4, f22, f24, run_ia, B0, reduceIte, reduceEqDiff]
      refine put1_eq (v := .ref (Picture.cells x41) 0) (xia_lst hx42 rfl) ?_
      simp only [run_fa, put1_some, Nat.reduceAdd, Nat.zero_add, Nat.add_zero, xfa_ref, run_ld, B0, reduceIte, reduceEqDiff]
      refine put1_eq (v := lst cI x41.In) rfl ?_
      obtain ⟨v44, hx45, hF46⟩ := bind_some' hF43
      simp only [run_mv, run_call, B0, reduceIte, reduceEqDiff]
      refine call1 rfl (mapM1 snap_lst (mapM1 snap_int mapM0)) (laws_heldIntS_x (fun b hb => decide_eq_true hb) k x41.In (IntKind.wrap .i64 ((IntKind.wrap .i64
          (s3 + 1)) + 1)) v44 hx45) ?_
      simp only [run_mv, run_ops_nil, x63_3, run_seq, run_reg, run_bin, put1_some, xlss, run_cond, B0, reduceIte, reduceEqDiff]
      refine cond_split (t := (decide (v44 < 0))) (fun hc47 => ?_) (fun hc47 => ?_)
      · rw [iteT hc47] at hF46
        simp only [run_seq, run_reg, run_mv, run_ops_nil, run_ret, B0, reduceIte, reduceEqDiff]
        have e48 := some_inj hF46
        subst e48
        have ho49 := hr12 _ rfl
        have hk50 := hk10
        rw [ho49] at hk50
        dsimp only [jnO] at hk50
        apply hR16
        have he := some_inj hk50
        subst he
        simp only [end_ret1, B0, reduceIte, reduceEqDiff]
        exact rfl
      rw [iteF hc47] at hF46
      obtain ⟨x51, hx52, hF53⟩ := bind_some' hF46
      simp only [run_skip, x63_2, run_seq, run_reg, f22, run_mv, f24, run_ia, B0, reduceIte, reduceEqDiff]
      refine put1_eq (v := .ref (Picture.cells x51) 0) (xia_lst hx52 rfl) ?_
      simp only [run_fa, put1_some, Nat.reduceAdd, Nat.zero_add, Nat.add_zero, xfa_ref, run_ld, B0, reduceIte, reduceEqDiff]
      refine put1_eq (v := lst cB x51.Closed) rfl ?_
      obtain ⟨v54, hx55, hF56⟩ := bind_some' hF53
      simp only [run_mv, run_call, B0, reduceIte, reduceEqDiff]
      refine call1 rfl (mapM1 snap_lst (mapM1 snap_int mapM0)) (laws_heldBoolS_x (fun b hb => decide_eq_true hb) k x51.Closed v44 v54 hx55) ?_
      simp only [run_mv, run_ops_nil, x63_1, run_seq, run_reg, run_bin, put1_some, xlss, run_cond, B0, reduceIte, reduceEqDiff]
      refine cond_split (t := (decide (v54 < 0))) (fun hc57 => ?_) (fun hc57 => ?_)
      · rw [iteT hc57] at hF56
        simp only [run_seq, run_reg, run_mv, run_ops_nil, run_ret, B0, reduceIte, reduceEqDiff]
        have e58 := some_inj hF56
        subst e58
        have ho59 := hr12 _ rfl
        have hk60 := hk10
        rw [ho59] at hk60
        dsimp only [jnO] at hk60
        apply hR16
        have he := some_inj hk60
        subst he
        simp only [end_ret1, B0, reduceIte, reduceEqDiff]
        exact rfl
      rw [iteF hc57] at hF56
      simp only [run_skip, run_blk, run_reg, f24, run_mv, run_bin, put1_some, xadd, run_ops_nil, run_nil, B0, reduceIte, reduceEqDiff]
      have e61 := some_inj hF56
      exact hN14 _ _ _ e61.symm ⟨by simp only [f22, B0, reduceIte, reduceEqDiff], by simp only [B0, reduceIte, reduceEqDiff], by simp only [B0, reduceIte, reduceEqDiff], hS21⟩
    rw [iteF hc26] at hF11
    simp only [run_exit, out_code, out_nil, B0, reduceIte, reduceEqDiff]
    have e62 := some_inj hF11
    exact hK15 _ _ _ e62.symm ⟨by simp only [f22, B0, reduceIte, reduceEqDiff], by simp only [f23, B0, reduceIte, reduceEqDiff], by simp only [f24, B0, reduceIte, reduceEqDiff],
        hS21⟩
  rintro ⟨s64, s65⟩ fr66 h67 rfl ⟨f69, f70, f71, hS68⟩
  dsimp only [jnO] at hk10
  dsimp only at *
  unfold laws_heldPictureS_j1 at hk10
  simp only [run_seq, run_reg, f70, run_mv, run_ops_nil, run_ret, B0, reduceIte, reduceEqDiff]
  have he := some_inj hk10
  subst he
  simp only [end_ret1, B0, reduceIte, reduceEqDiff]
  exact rfl
theorem laws_heldSnap_x {W : Nat → Bool} {h : Heap} (hW : ∀ b,
    h.length ≤ b → W b = true) (k : Nat) (a_0 : Snap) (k_1 : Int) (r : Int) (hF : laws_heldSnap k a_0 k_1 = some r) : Ret E W 23 [.agg [lst cI a_0.Amounts,
    lst Chan.cells a_0.Chans, lst Picture.cells a_0.Pictures, .int .i64 a_0.Sent, .int .i64 a_0.Total],
    .int .i64 k_1] h (fun v h' => cut h.length h' E.sz false 9 v = some (.int .i64 r)) := by
  refine Ret.of (fn := x23) rfl (Run.of ?_)
  unfold laws_heldSnap at hF
  have zf0 : argFr [.agg [lst cI a_0.Amounts, lst Chan.cells a_0.Chans, lst Picture.cells a_0.Pictures, .int .i64 a_0.Sent, .int .i64 a_0.Total],
      .int .i64 k_1] 0 = .agg [lst cI a_0.Amounts, lst Chan.cells a_0.Chans, lst Picture.cells a_0.Pictures, .int .i64 a_0.Sent, .int .i64 a_0.Total] := rfl
  have zf1 : argFr [.agg [lst cI a_0.Amounts, lst Chan.cells a_0.Chans, lst Picture.cells a_0.Pictures, .int .i64 a_0.Sent, .int .i64 a_0.Total],
      .int .i64 k_1] 1 = .int .i64 k_1 := rfl
  generalize argFr [.agg [lst cI a_0.Amounts, lst Chan.cells a_0.Chans, lst Picture.cells a_0.Pictures, .int .i64 a_0.Sent, .int .i64 a_0.Total], .int .i64 k_1] = fr0 at zf0 zf1 ⊢
  have hS : Sep h h.length [] := Sep.nil h
  simp only [x23, run_seq, run_reg, run_box, zf0, B0, reduceIte, reduceEqDiff]
  refine put2_boxC (cs := [lst cI a_0.Amounts, lst Chan.cells a_0.Chans, lst Picture.cells a_0.Pictures, .int .i64 a_0.Sent,
      .int .i64 a_0.Total]) hS rfl rfl rfl (fun b1 h2 hS3 => ?_)
  simp only [run_mv, run_ops_nil, B0, reduceIte, reduceEqDiff]
  refine frz_stepC hS3 hW (by simp only [B0, reduceIte, reduceEqDiff]) (fun h5 hS6 => ?_)
  simp only [run_frz_nil, x23_6, run_seq, run_reg, run_fa, put1_some, Nat.reduceAdd, Nat.zero_add, Nat.add_zero, xfa_ref, run_ld, B0, reduceIte, reduceEqDiff]
  refine put1_eq (v := lst cI a_0.Amounts) rfl ?_
  obtain ⟨v7, hx8, hF9⟩ := bind_some' hF
  simp only [zf1, run_mv, run_call, B0, reduceIte, reduceEqDiff]
  refine call1 rfl (mapM1 snap_lst (mapM1 snap_int mapM0)) (laws_heldIntS_x (fun b hb => decide_eq_true hb) k a_0.Amounts k_1 v7 hx8) ?_
  simp only [run_mv, run_ops_nil, x23_5, run_seq, run_reg, run_bin, put1_some, xlss, run_cond, B0, reduceIte, reduceEqDiff]
  refine cond_split (t := (decide (v7 < 0))) (fun hc10 => ?_) (fun hc10 => ?_)
  · rw [iteT hc10] at hF9
    simp only [run_seq, run_reg, run_mv, run_ops_nil, run_ret, B0, reduceIte, reduceEqDiff]
    have he := some_inj hF9
    subst he
    simp only [end_ret1, B0, reduceIte, reduceEqDiff]
    exact rfl
  rw [iteF hc10] at hF9
  simp only [run_skip, x23_4, run_seq, run_reg, run_fa, put1_some, Nat.reduceAdd, Nat.zero_add, Nat.add_zero, xfa_ref, run_ld, B0, reduceIte, reduceEqDiff]
  refine put1_eq (v := lst Chan.cells a_0.Chans) rfl ?_
  obtain ⟨v11, hx12, hF13⟩ := bind_some' hF9
  simp only [run_mv, run_call, B0, reduceIte, reduceEqDiff]
  refine call1 rfl (mapM1 snap_lst (mapM1 snap_int mapM0)) (laws_heldChanS_x (fun b hb => decide_eq_true hb) k a_0.Chans v7 v11 hx12) ?_
  simp only [run_mv, run_ops_nil, x23_3, run_seq, run_reg, run_bin, put1_some, xlss, run_cond, B0, reduceIte, reduceEqDiff]
  refine cond_split (t := (decide (v11 < 0))) (fun hc14 => ?_) (fun hc14 => ?_)
  · rw [iteT hc14] at hF13
    simp only [run_seq, run_reg, run_mv, run_ops_nil, run_ret, B0, reduceIte, reduceEqDiff]
    have he := some_inj hF13
    subst he
    simp only [end_ret1, B0, reduceIte, reduceEqDiff]
    exact rfl
  rw [iteF hc14] at hF13
  simp only [run_skip, x23_2, run_seq, run_reg, run_fa, put1_some, Nat.reduceAdd, Nat.zero_add, Nat.add_zero, xfa_ref, run_ld, B0, reduceIte, reduceEqDiff]
  refine put1_eq (v := lst Picture.cells a_0.Pictures) rfl ?_
  obtain ⟨v15, hx16, hF17⟩ := bind_some' hF13
  simp only [run_mv, run_call, B0, reduceIte, reduceEqDiff]
  refine call1 rfl (mapM1 snap_lst (mapM1 snap_int mapM0)) (laws_heldPictureS_x (fun b hb => decide_eq_true hb) k a_0.Pictures v11 v15 hx16) ?_
  simp only [run_mv, run_ops_nil, x23_1, run_seq, run_reg, run_bin, put1_some, xlss, run_cond, B0, reduceIte, reduceEqDiff]
  refine cond_split (t := (decide (v15 < 0))) (fun hc18 => ?_) (fun hc18 => ?_)
  · rw [iteT hc18] at hF17
    simp only [run_seq, run_reg, run_mv, run_ops_nil, run_ret, B0, reduceIte, reduceEqDiff]
    have he := some_inj hF17
    subst he
    simp only [end_ret1, B0, reduceIte, reduceEqDiff]
    exact rfl
  rw [iteF hc18] at hF17
  simp only [run_skip, run_seq, run_reg, run_mv, run_ops_nil, run_ret, B0, reduceIte, reduceEqDiff]
  have he := some_inj hF17
  subst he
  simp only [end_ret1, B0, reduceIte, reduceEqDiff]
  exact rfl
theorem laws_FnExactPlaySnap_x {W : Nat → Bool} {h : Heap} (hW : ∀ b,
    h.length ≤ b → W b = true) (k : Nat) (v_0 : Int) (v_1 : Int) (v_2 : List SnapStep) (r : Bool) (hF : laws_FnExactPlaySnap k v_0 v_1 v_2 = some r) : Ret E W 4 [.int .i64 v_0,
    .int .i64 v_1, lst SnapStep.cells v_2] h (fun v h' => cut h.length h' E.sz false 9 v = some (.bool r)) := by
  refine Ret.of (fn := x4) rfl (Run.of ?_)
  unfold laws_FnExactPlaySnap at hF
  have zf0 : argFr [.int .i64 v_0, .int .i64 v_1, lst SnapStep.cells v_2] 0 = .int .i64 v_0 := rfl
  have zf1 : argFr [.int .i64 v_0, .int .i64 v_1, lst SnapStep.cells v_2] 1 = .int .i64 v_1 := rfl
  have zf2 : argFr [.int .i64 v_0, .int .i64 v_1, lst SnapStep.cells v_2] 2 = lst SnapStep.cells v_2 := rfl
  generalize argFr [.int .i64 v_0, .int .i64 v_1, lst SnapStep.cells v_2] = fr0 at zf0 zf1 zf2 ⊢
  have hS : Sep h h.length [] := Sep.nil h
  obtain ⟨v1, hx2, hF3⟩ := bind_some' hF
  simp only [x4, run_seq, run_reg, run_mv, run_ops_nil, x4_28, x4_27, zf2, run_call, B0, reduceIte, reduceEqDiff]
  refine call1 rfl (mapM1 snap_lst (mapM1 snap_int mapM0)) (laws_szSnapStepS_x (fun b hb => decide_eq_true hb) v_2 1048576 v1 hx2) ?_
  simp only [run_mv, run_ops_nil, x4_26, run_seq, run_reg, run_bin, put1_some, xlss, run_cond, B0, reduceIte, reduceEqDiff]
  refine cond_split (t := (decide (v1 < 0))) (fun hc4 => ?_) (fun hc4 => ?_)
  · rw [iteT hc4] at hF3
    simp only [run_seq, run_reg, run_mv, run_ops_nil, run_ret, B0, reduceIte, reduceEqDiff]
    have he := some_inj hF3
    subst he
    simp only [end_ret1, B0, reduceIte, reduceEqDiff]
    exact rfl
  rw [iteF hc4] at hF3
  obtain ⟨v5, hx6, hF7⟩ := bind_some' hF3
  simp only [run_skip, x4_25, run_seq, run_reg, zf0, run_mv, zf1, zf2, run_call, B0, reduceIte, reduceEqDiff]
  refine call2 rfl hS (mapM1 snap_lst mapM0) (laws_toSnapStepS_x (fun b hb => decide_eq_true hb) k v_2 v5 hx6) ?_
  rintro v8 h12 ⟨_, c9, rfl, hv10, hS13⟩
  refine ⟨_, free_1 (SlF.free1 hv10), hS13, (pf_app (SlF.pf hv10 (fun _ => rfl)) pf_nil), fun h14 hS15 => ?_⟩
  have hS16 : Sep h14 h.length (c9 ++ ([])) := by simpa only [List.append_assoc, List.nil_append] using hS15
  obtain ⟨v17, hx18, hF19⟩ := bind_some' hF7
  simp only [run_call, B0, reduceIte, reduceEqDiff]
  refine call2 rfl hS16 (mapM1 snap_int (mapM1 snap_int (mapM1 (SlF.snap hv10 hS16 rfl (fun _ => rfl) (fun _ => rfl)) mapM0))) (spec_PlaySnap_x
      (fun b hb => decide_eq_true hb) k v_0 v_1 v5 v17 hx18) ?_
  rintro _ h36 ⟨v20, c21, v24, c25, v28, c29, v32, c33, rfl, hv22, hv26, hv30, hv34, hS37⟩
  refine ⟨_, free_t (all_c (free2_a (all_c (SlF.free1 hv22) (all_c (SlN.free1 hv26) (all_c (SlN.free1 hv30) (all_c rfl (all_c rfl all_n)))))) (all_c (free2_1 (SlF.free1 hv34))
      (all_c rfl all_n))), hS37, (pf_app (SlF.pf hv22 (fun _ => rfl)) (pf_app (SlN.pf hv26 Chan.RO) (pf_app (SlN.pf hv30 Picture.RO) (pf_app (SlF.pf hv34
      (fun _ => rfl)) pf_nil)))), fun h38 hS39 => ?_⟩
  have hS40 : Sep h38 h.length (c21 ++ (c25 ++ (c29 ++ (c33 ++ (c9 ++ ([])))))) := by simpa only [List.append_assoc, List.nil_append] using hS39
  simp only [run_mv, run_ext, put1_some, xext_0, xext_1, xext_2, run_new, B0, reduceIte, reduceEqDiff]
  refine put2_newC hS40 (fun b41 h42 hS43 => ?_)
  simp only [run_st, B0, reduceIte, reduceEqDiff]
  refine put2_stCx (us := [v20, v24, v28, .int .i64 v17.1.Sent, .int .i64 v17.1.Total]) rfl (cs' := [v20, v24, v28, .int .i64 v17.1.Sent,
      .int .i64 v17.1.Total]) hS43 hW rfl (all_c (SlF.one hv22) (all_c (SlN.one hv26) (all_c (SlN.one hv30) (all_c rfl (all_c rfl all_n))))) (Nat.le_of_ble_eq_true rfl) rfl
      (fun h45 hS46 => ?_)
  simp only [run_mv, run_ops_nil, B0, reduceIte, reduceEqDiff]
  refine frz_stepC hS46 hW (by simp only [B0, reduceIte, reduceEqDiff]) (fun h47 hS48 => ?_)
  obtain ⟨v49, hx50, hF51⟩ := bind_some' hF19
  simp only [run_frz_nil, x4_24, run_seq, run_reg, zf2, run_mv, run_call, B0, reduceIte, reduceEqDiff]
  refine call2 rfl hS48 (mapM1 snap_lst mapM0) (laws_toSnapStepS_x (fun b hb => decide_eq_true hb) k v_2 v49 hx50) ?_
  rintro v52 h56 ⟨_, c53, rfl, hv54, hS57⟩
  refine ⟨_, free_1 (SlF.free1 hv54), hS57, (pf_app (SlF.pf hv54 (fun _ => rfl)) pf_nil), fun h58 hS59 => ?_⟩
  have hS60 : Sep h58 h.length (c53 ++ (c21 ++ (c25 ++ (c29 ++ (c33 ++ (c9 ++ ([]))))))) := by simpa only [List.append_assoc, List.nil_append] using hS59
  obtain ⟨v61, hx62, hF63⟩ := bind_some' hF51
  simp only [run_mv, run_ops_nil, x4_23, run_seq, run_reg, zf0, zf1, run_call, B0, reduceIte, reduceEqDiff]
  refine call2 rfl hS60 (mapM1 snap_int (mapM1 snap_int (mapM1 (SlF.snap hv54 hS60 rfl (fun _ => rfl) (fun _ => rfl)) mapM0))) (impl_PlaySnap_x
      (fun b hb => decide_eq_true hb) v_0 v_1 v49 v61 hx62) ?_
  rintro _ h80 ⟨v64, c65, v68, c69, v72, c73, v76, c77, rfl, hv66, hv70, hv74, hv78, hS81⟩
  refine ⟨_, free_t (all_c (free2_a (all_c (SlF.free1 hv66) (all_c (SlN.free1 hv70) (all_c (SlN.free1 hv74) (all_c rfl (all_c rfl all_n)))))) (all_c (free2_1 (SlF.free1 hv78))
      (all_c rfl all_n))), hS81, (pf_app (SlF.pf hv66 (fun _ => rfl)) (pf_app (SlN.pf hv70 Chan.RO) (pf_app (SlN.pf hv74 Picture.RO) (pf_app (SlF.pf hv78
      (fun _ => rfl)) pf_nil)))), fun h82 hS83 => ?_⟩
  have hS84 : Sep h82 h.length (c65 ++ (c69 ++ (c73 ++ (c77 ++ (c53 ++ (c21 ++ (c25 ++ (c29 ++ (c33 ++ (c9 ++ ([]))))))))))) := by simpa only [List.append_assoc,
      List.nil_append] using hS83
  simp only [run_mv, run_ext, put1_some, xext_0, xext_1, xext_2, run_new, B0, reduceIte, reduceEqDiff]
  refine put2_newC hS84 (fun b85 h86 hS87 => ?_)
  simp only [run_st, B0, reduceIte, reduceEqDiff]
  refine put2_stCx (us := [v64, v68, v72, .int .i64 v61.1.Sent, .int .i64 v61.1.Total]) rfl (cs' := [v64, v68, v72, .int .i64 v61.1.Sent,
      .int .i64 v61.1.Total]) hS87 hW rfl (all_c (SlF.one hv66) (all_c (SlN.one hv70) (all_c (SlN.one hv74) (all_c rfl (all_c rfl all_n))))) (Nat.le_of_ble_eq_true rfl) rfl
      (fun h89 hS90 => ?_)
  simp only [run_mv, run_ops_nil, B0, reduceIte, reduceEqDiff]
  refine frz_stepC hS90 hW (by simp only [B0, reduceIte, reduceEqDiff]) (fun h91 hS92 => ?_)
  simp only [run_frz_nil, x4_22, run_seq, run_reg, run_ld, B0, reduceIte, reduceEqDiff]
  refine put1_eq (v := .agg [v64, v68, v72, .int .i64 v61.1.Sent, .int .i64 v61.1.Total]) rfl ?_
  simp only [run_ld, B0, reduceIte, reduceEqDiff]
  refine put1_eq (v := .agg [v20, v24, v28, .int .i64 v17.1.Sent, .int .i64 v17.1.Total]) rfl ?_
  obtain ⟨v93, hx94, hF95⟩ := bind_some' hF63
  simp only [run_call, B0, reduceIte, reduceEqDiff]
  refine call1 rfl (mapM1 (snap_agg (mapM1 (SlF.snap hv66 hS92 rfl (fun _ => rfl) (fun _ => rfl)) (mapM1 (SlN.snap hv70 _ (Sep.m1 hS92) rfl Chan.RO) (mapM1 (SlN.snap hv74 _
      (Sep.m2 hS92) rfl Picture.RO) (mapM1 snap_int (mapM1 snap_int mapM0)))))) (mapM1 (snap_agg (mapM1 (SlF.snap hv22 (Sep.m5 hS92) rfl (fun _ => rfl) (fun _ => rfl)) (mapM1
      (SlN.snap hv26 _ (Sep.m6 hS92) rfl Chan.RO) (mapM1 (SlN.snap hv30 _ (Sep.m7 hS92) rfl Picture.RO) (mapM1 snap_int (mapM1 snap_int mapM0)))))) mapM0)) (laws_eqSnap_x
      (fun b hb => decide_eq_true hb) k v61.1 v17.1 v93 hx94) ?_
  simp only [run_un, put1_some, xnot, run_mv, B0, reduceIte, reduceEqDiff]
  obtain ⟨v99, hx100, hF101⟩ := bind_some' hF95
  refine ops_j 5 (fun fr' h' => Sep h' h.length (c21 ++ (c25 ++ (c29 ++ (c33 ++ (c53 ++ (c65 ++ (c69 ++ (c73 ++ (c77 ++
      ([])))))))))) ∧ fr' 54 = .bool v99 ∧ fr' 0 = .int .i64 v_0 ∧ fr' 1 = .int .i64 v_1 ∧ fr' 2 = lst SnapStep.cells v_2 ∧ fr' 8 = .ref [v20, v24, v28, .int .i64 v17.1.Sent,
      .int .i64 v17.1.Total] 0 ∧ fr' 9 = v32 ∧ fr' 10 = .bool v17.2.2 ∧ fr' 11 = v52 ∧ fr' 12 = .ref [v64, v68, v72, .int .i64 v61.1.Sent,
      .int .i64 v61.1.Total] 0 ∧ fr' 13 = v76 ∧ fr' 14 = .bool v61.2.2) (fun Q96 hN97 => ?_) ?_
  · simp only [List.take_succ_cons, List.take_zero]
    simp only [run_guard (g := 49), B0, reduceIte, reduceEqDiff]
    refine guard_split (t := (!v93)) (fun hg98 => ?_) (fun hg98 => ?_)
    · rw [iteT hg98] at hx100
      simp only [hg98, run_guard (g := 49), guard_off', run_pick, put1_some, xpick_t, run_ops_nil, run_nil, B0, reduceIte, reduceEqDiff]
      have e102 := some_inj hx100
      exact hN97 _ _ ⟨(Sep.m8 (Sep.m8 (Sep.m8 (Sep.m8 (Sep.m4 (Sep.m3 (Sep.m3 (Sep.m3 (Sep.m3 (Sep.dc (Sep.m9 hS92))))))))))), by rw [← e102]; simp only [B0, reduceIte,
          reduceEqDiff], by simp only [zf0, B0, reduceIte, reduceEqDiff], by simp only [zf1, B0, reduceIte, reduceEqDiff], by simp only [zf2, B0, reduceIte, reduceEqDiff],
          by simp only [B0, reduceIte, reduceEqDiff], by simp only [B0, reduceIte, reduceEqDiff], by simp only [B0, reduceIte, reduceEqDiff], by simp only [B0, reduceIte,
          reduceEqDiff], by simp only [B0, reduceIte, reduceEqDiff], by simp only [B0, reduceIte, reduceEqDiff], by simp only [B0, reduceIte, reduceEqDiff]⟩
    · rw [iteF hg98] at hx100
      obtain ⟨v103, hx104, hF105⟩ := bind_some' hx100
      simp only [hg98, run_guard (g := 49), guard_false, run_mv, run_call, B0, reduceIte, reduceEqDiff]
      refine call1 rfl (mapM1 (SlF.snap hv78 (Sep.m3 hS92) rfl (fun _ => rfl) (fun _ => rfl)) (mapM1 (SlF.snap hv34 (Sep.m8 hS92) rfl (fun _ => rfl) (fun _ => rfl)) mapM0))
          (laws_eqBoolS_x (fun b hb => decide_eq_true hb) k v61.2.1 v17.2.1 v103 hx104) ?_
      simp only [hg98, run_guard (g := 49), guard_false, run_un, put1_some, xnot, run_pick, xpick_f, run_ops_nil, run_nil, B0, reduceIte, reduceEqDiff]
      have e106 := some_inj hF105
      exact hN97 _ _ ⟨(Sep.m8 (Sep.m8 (Sep.m8 (Sep.m8 (Sep.m4 (Sep.m3 (Sep.m3 (Sep.m3 (Sep.m3 (Sep.dc (Sep.m9 hS92))))))))))), by rw [← e106]; simp only [B0, reduceIte,
          reduceEqDiff], by simp only [zf0, B0, reduceIte, reduceEqDiff], by simp only [zf1, B0, reduceIte, reduceEqDiff], by simp only [zf2, B0, reduceIte, reduceEqDiff],
          by simp only [B0, reduceIte, reduceEqDiff], by simp only [B0, reduceIte, reduceEqDiff], by simp only [B0, reduceIte, reduceEqDiff], by simp only [B0, reduceIte,
          reduceEqDiff], by simp only [B0, reduceIte, reduceEqDiff], by simp only [B0, reduceIte, reduceEqDiff], by simp only [B0, reduceIte, reduceEqDiff]⟩
  rintro fr107 h119 ⟨hS120, f108, f109, f110, f111, f112, f113, f114, f115, f116, f117, f118⟩
  simp only [List.drop_succ_cons, List.drop_zero]
  simp only [f108, run_mv, B0, reduceIte, reduceEqDiff]
  refine ops_j 4 (fun fr' h' => Sep h' h.length (c21 ++ (c25 ++ (c29 ++ (c33 ++ (c53 ++ (c65 ++ (c69 ++ (c73 ++ (c77 ++ ([])))))))))) ∧ fr' 59 = .bool (v99 ||
      (!(v61.2.2 == v17.2.2))) ∧ fr' 0 = .int .i64 v_0 ∧ fr' 1 = .int .i64 v_1 ∧ fr' 2 = lst SnapStep.cells v_2 ∧ fr' 8 = .ref [v20, v24, v28, .int .i64 v17.1.Sent,
      .int .i64 v17.1.Total] 0 ∧ fr' 9 = v32 ∧ fr' 10 = .bool v17.2.2 ∧ fr' 11 = v52 ∧ fr' 12 = .ref [v64, v68, v72, .int .i64 v61.1.Sent,
      .int .i64 v61.1.Total] 0 ∧ fr' 13 = v76 ∧ fr' 14 = .bool v61.2.2) (fun Q121 hN122 => ?_) ?_
  · simp only [List.take_succ_cons, List.take_zero]
    simp only [run_guard (g := 55), B0, reduceIte, reduceEqDiff]
    refine guard_split (t := v99) (fun hg123 => ?_) (fun hg123 => ?_)
    · simp only [hg123, run_guard (g := 55), guard_off', run_pick, put1_some, xpick_t, run_ops_nil, run_nil, B0, reduceIte, reduceEqDiff]
      exact hN122 _ _ ⟨(Sep.m8 (Sep.m8 (Sep.m8 (Sep.m8 (Sep.m8 (Sep.m8 (Sep.m8 (Sep.m8 (Sep.m8 hS120))))))))), by rw [orT hg123]; simp only [B0, reduceIte, reduceEqDiff],
          by simp only [f109, B0, reduceIte, reduceEqDiff], by simp only [f110, B0, reduceIte, reduceEqDiff], by simp only [f111, B0, reduceIte, reduceEqDiff], by simp only [f112,
          B0, reduceIte, reduceEqDiff], by simp only [f113, B0, reduceIte, reduceEqDiff], by simp only [f114, B0, reduceIte, reduceEqDiff], by simp only [f115, B0, reduceIte,
          reduceEqDiff], by simp only [f116, B0, reduceIte, reduceEqDiff], by simp only [f117, B0, reduceIte, reduceEqDiff], by simp only [f118, B0, reduceIte, reduceEqDiff]⟩
    · simp only [hg123, run_guard (g := 55), guard_false, f118, run_mv, f114, run_eqb, put1_some, xeqb_t, run_pick, xpick_f, run_ops_nil, run_nil, B0, reduceIte, reduceEqDiff]
      exact hN122 _ _ ⟨(Sep.m8 (Sep.m8 (Sep.m8 (Sep.m8 (Sep.m8 (Sep.m8 (Sep.m8 (Sep.m8 (Sep.m8 hS120))))))))), by rw [orF hg123]; simp only [B0, reduceIte, reduceEqDiff],
          by simp only [f109, B0, reduceIte, reduceEqDiff], by simp only [f110, B0, reduceIte, reduceEqDiff], by simp only [f111, B0, reduceIte, reduceEqDiff], by simp only [f112,
          B0, reduceIte, reduceEqDiff], by simp only [f113, B0, reduceIte, reduceEqDiff], by simp only [f114, B0, reduceIte, reduceEqDiff], by simp only [f115, B0, reduceIte,
          reduceEqDiff], by simp only [f116, B0, reduceIte, reduceEqDiff], by simp only [f117, B0, reduceIte, reduceEqDiff], by simp only [f118, B0, reduceIte, reduceEqDiff]⟩
  rintro fr124 h136 ⟨hS137, f125, f126, f127, f128, f129, f130, f131, f132, f133, f134, f135⟩
  simp only [List.drop_succ_cons, List.drop_zero]
  simp only [run_ops_nil, f125, run_cond, B0, reduceIte, reduceEqDiff]
  refine cond_split (t := (v99 || (!(v61.2.2 == v17.2.2)))) (fun hc138 => ?_) (fun hc138 => ?_)
  · rw [iteT hc138] at hF101
    simp only [run_seq, run_reg, run_mv, run_ops_nil, run_ret, B0, reduceIte, reduceEqDiff]
    have he := some_inj hF101
    subst he
    simp only [end_ret1, B0, reduceIte, reduceEqDiff]
    exact rfl
  rw [iteF hc138] at hF101
  obtain ⟨v139, hx140, hF141⟩ := bind_some' hF101
  simp only [run_skip, x4_21, run_seq, run_reg, f132, run_mv, f128, run_call, B0, reduceIte, reduceEqDiff]
  refine call2 rfl hS137 (mapM1 snap_lst mapM0) (laws_toSnapStepS_x (fun b hb => decide_eq_true hb) k v_2 v139 hx140) ?_
  rintro v142 h146 ⟨_, c143, rfl, hv144, hS147⟩
  refine ⟨_, free_1 (SlF.free1 hv144), hS147, (pf_app (SlF.pf hv144 (fun _ => rfl)) pf_nil), fun h148 hS149 => ?_⟩
  have hS150 : Sep h148 h.length (c143 ++ (c21 ++ (c25 ++ (c29 ++ (c33 ++ (c53 ++ (c65 ++ (c69 ++ (c73 ++ (c77 ++ ([]))))))))))) := by simpa only [List.append_assoc,
      List.nil_append] using hS149
  obtain ⟨v151, hx152, hF153⟩ := bind_some' hF141
  simp only [run_call, B0, reduceIte, reduceEqDiff]
  refine call1 rfl (mapM1 (SlF.snap hv54 (Sep.m5 hS150) rfl (fun _ => rfl) (fun _ => rfl)) (mapM1 (SlF.snap hv144 hS150 rfl (fun _ => rfl) (fun _ => rfl)) mapM0))
      (laws_eqSnapStepS_x (fun b hb => decide_eq_true hb) k v49 v139 v151 hx152) ?_
  simp only [run_un, put1_some, xnot, run_ops_nil, run_cond, B0, reduceIte, reduceEqDiff]
  refine cond_split (t := (!v151)) (fun hc154 => ?_) (fun hc154 => ?_)
  · rw [iteT hc154] at hF153
    simp only [run_seq, run_reg, run_mv, run_ops_nil, run_ret, B0, reduceIte, reduceEqDiff]
    have he := some_inj hF153
    subst he
    simp only [end_ret1, B0, reduceIte, reduceEqDiff]
    exact rfl
  rw [iteF hc154] at hF153
  obtain ⟨v155, hx156, hF157⟩ := bind_some' hF153
  simp only [run_skip, x4_20, run_seq, run_reg, run_mv, run_ops_nil, x4_19, f132, run_call, B0, reduceIte, reduceEqDiff]
  refine call0 rfl (laws_markSnapStepS_x hW k v52 c53 v49 hv54 1 v155 hx156 (Sep.m5 hS150)) ?_
  rintro _ h160 ⟨c158, rfl, hv159, hS161⟩
  simp only [run_mv, run_ops_nil, x4_18, run_seq, run_reg, run_bin, put1_some, xlss, B0, reduceIte, reduceEqDiff]
  obtain ⟨v165, hx166, hF167⟩ := bind_some' hF157
  refine ops_j 5 (fun fr' h' => Sep h' h.length (c21 ++ (c25 ++ (c29 ++ (c33 ++ (c65 ++ (c69 ++ (c73 ++ (c77 ++
      ([]))))))))) ∧ fr' 75 = .bool v165 ∧ fr' 0 = .int .i64 v_0 ∧ fr' 1 = .int .i64 v_1 ∧ fr' 2 = lst SnapStep.cells v_2 ∧ fr' 8 = .ref [v20, v24, v28, .int .i64 v17.1.Sent,
      .int .i64 v17.1.Total] 0 ∧ fr' 9 = v32 ∧ fr' 10 = .bool v17.2.2 ∧ fr' 12 = .ref [v64, v68, v72, .int .i64 v61.1.Sent,
      .int .i64 v61.1.Total] 0 ∧ fr' 13 = v76 ∧ fr' 14 = .bool v61.2.2) (fun Q162 hN163 => ?_) ?_
  · simp only [List.take_succ_cons, List.take_zero]
    simp only [run_guard (g := 70), B0, reduceIte, reduceEqDiff]
    refine guard_split (t := (decide (v155.1 < 0))) (fun hg164 => ?_) (fun hg164 => ?_)
    · rw [iteT hg164] at hx166
      simp only [hg164, run_guard (g := 70), guard_off', run_pick, put1_some, xpick_t, run_ops_nil, run_nil, B0, reduceIte, reduceEqDiff]
      have e168 := some_inj hx166
      exact hN163 _ _ ⟨(Sep.m7 (Sep.m7 (Sep.m7 (Sep.m7 (Sep.m7 (Sep.m7 (Sep.m7 (Sep.m7 (Sep.dc ((Sep.dc (hS161)))))))))))), by rw [← e168]; simp only [B0, reduceIte,
          reduceEqDiff], by simp only [f126, B0, reduceIte, reduceEqDiff], by simp only [f127, B0, reduceIte, reduceEqDiff], by simp only [f128, B0, reduceIte, reduceEqDiff],
          by simp only [f129, B0, reduceIte, reduceEqDiff], by simp only [f130, B0, reduceIte, reduceEqDiff], by simp only [f131, B0, reduceIte, reduceEqDiff], by simp only [f133,
          B0, reduceIte, reduceEqDiff], by simp only [f134, B0, reduceIte, reduceEqDiff], by simp only [f135, B0, reduceIte, reduceEqDiff]⟩
    · rw [iteF hg164] at hx166
      simp only [hg164, run_guard (g := 70), guard_false, f133, run_ld, B0, reduceIte, reduceEqDiff]
      refine put1_eq (v := .agg [v64, v68, v72, .int .i64 v61.1.Sent, .int .i64 v61.1.Total]) rfl ?_
      simp only [hg164, run_guard (g := 70), guard_false, f129, run_ld, B0, reduceIte, reduceEqDiff]
      refine put1_eq (v := .agg [v20, v24, v28, .int .i64 v17.1.Sent, .int .i64 v17.1.Total]) rfl ?_
      obtain ⟨v169, hx170, hF171⟩ := bind_some' hx166
      simp only [hg164, run_guard (g := 70), guard_false, run_call, B0, reduceIte, reduceEqDiff]
      refine call1 rfl (mapM1 (snap_agg (mapM1 (SlF.snap hv66 (Sep.m6 hS161) rfl (fun _ => rfl) (fun _ => rfl)) (mapM1 (SlN.snap hv70 _ (Sep.m7 hS161) rfl Chan.RO) (mapM1
          (SlN.snap hv74 _ (Sep.m8 hS161) rfl Picture.RO) (mapM1 snap_int (mapM1 snap_int mapM0)))))) (mapM1 (snap_agg (mapM1 (SlF.snap hv22 (Sep.m2 hS161) rfl (fun _ => rfl)
          (fun _ => rfl)) (mapM1 (SlN.snap hv26 _ (Sep.m3 hS161) rfl Chan.RO) (mapM1 (SlN.snap hv30 _ (Sep.m4 hS161) rfl Picture.RO) (mapM1 snap_int
          (mapM1 snap_int mapM0)))))) mapM0)) (laws_eqSnap_x (fun b hb => decide_eq_true hb) k v61.1 v17.1 v169 hx170) ?_
      simp only [hg164, run_guard (g := 70), guard_false, run_un, put1_some, xnot, run_pick, xpick_f, run_ops_nil, run_nil, B0, reduceIte, reduceEqDiff]
      have e172 := some_inj hF171
      exact hN163 _ _ ⟨(Sep.m7 (Sep.m7 (Sep.m7 (Sep.m7 (Sep.m7 (Sep.m7 (Sep.m7 (Sep.m7 (Sep.dc ((Sep.dc (hS161)))))))))))), by rw [← e172]; simp only [B0, reduceIte,
          reduceEqDiff], by simp only [f126, B0, reduceIte, reduceEqDiff], by simp only [f127, B0, reduceIte, reduceEqDiff], by simp only [f128, B0, reduceIte, reduceEqDiff],
          by simp only [f129, B0, reduceIte, reduceEqDiff], by simp only [f130, B0, reduceIte, reduceEqDiff], by simp only [f131, B0, reduceIte, reduceEqDiff], by simp only [f133,
          B0, reduceIte, reduceEqDiff], by simp only [f134, B0, reduceIte, reduceEqDiff], by simp only [f135, B0, reduceIte, reduceEqDiff]⟩
  rintro fr173 h184 ⟨hS185, f174, f175, f176, f177, f178, f179, f180, f181, f182, f183⟩
  simp only [List.drop_succ_cons, List.drop_zero]
  simp only [f174, run_mv, B0, reduceIte, reduceEqDiff]
  obtain ⟨v189, hx190, hF191⟩ := bind_some' hF167
  refine ops_j 5 (fun fr' h' => Sep h' h.length (c21 ++ (c25 ++ (c29 ++ (c33 ++ (c65 ++ (c69 ++ (c73 ++ (c77 ++
      ([]))))))))) ∧ fr' 81 = .bool v189 ∧ fr' 0 = .int .i64 v_0 ∧ fr' 1 = .int .i64 v_1 ∧ fr' 2 = lst SnapStep.cells v_2 ∧ fr' 8 = .ref [v20, v24, v28, .int .i64 v17.1.Sent,
      .int .i64 v17.1.Total] 0 ∧ fr' 9 = v32 ∧ fr' 10 = .bool v17.2.2 ∧ fr' 12 = .ref [v64, v68, v72, .int .i64 v61.1.Sent,
      .int .i64 v61.1.Total] 0 ∧ fr' 13 = v76 ∧ fr' 14 = .bool v61.2.2) (fun Q186 hN187 => ?_) ?_
  · simp only [List.take_succ_cons, List.take_zero]
    simp only [run_guard (g := 76), B0, reduceIte, reduceEqDiff]
    refine guard_split (t := v165) (fun hg188 => ?_) (fun hg188 => ?_)
    · rw [iteT hg188] at hx190
      simp only [hg188, run_guard (g := 76), guard_off', run_pick, put1_some, xpick_t, run_ops_nil, run_nil, B0, reduceIte, reduceEqDiff]
      have e192 := some_inj hx190
      exact hN187 _ _ ⟨(Sep.m7 (Sep.m7 (Sep.m7 (Sep.m7 (Sep.m7 (Sep.m7 (Sep.m7 (Sep.m7 hS185)))))))), by rw [← e192]; simp only [B0, reduceIte, reduceEqDiff], by simp only [f175,
          B0, reduceIte, reduceEqDiff], by simp only [f176, B0, reduceIte, reduceEqDiff], by simp only [f177, B0, reduceIte, reduceEqDiff], by simp only [f178, B0, reduceIte,
          reduceEqDiff], by simp only [f179, B0, reduceIte, reduceEqDiff], by simp only [f180, B0, reduceIte, reduceEqDiff], by simp only [f181, B0, reduceIte, reduceEqDiff],
          by simp only [f182, B0, reduceIte, reduceEqDiff], by simp only [f183, B0, reduceIte, reduceEqDiff]⟩
    · rw [iteF hg188] at hx190
      obtain ⟨v193, hx194, hF195⟩ := bind_some' hx190
      simp only [hg188, run_guard (g := 76), guard_false, f182, run_mv, f179, run_call, B0, reduceIte, reduceEqDiff]
      refine call1 rfl (mapM1 (SlF.snap hv78 (Sep.m7 hS185) rfl (fun _ => rfl) (fun _ => rfl)) (mapM1 (SlF.snap hv34 (Sep.m3 hS185) rfl (fun _ => rfl) (fun _ => rfl)) mapM0))
          (laws_eqBoolS_x (fun b hb => decide_eq_true hb) k v61.2.1 v17.2.1 v193 hx194) ?_
      simp only [hg188, run_guard (g := 76), guard_false, run_un, put1_some, xnot, run_pick, xpick_f, run_ops_nil, run_nil, B0, reduceIte, reduceEqDiff]
      have e196 := some_inj hF195
      exact hN187 _ _ ⟨(Sep.m7 (Sep.m7 (Sep.m7 (Sep.m7 (Sep.m7 (Sep.m7 (Sep.m7 (Sep.m7 hS185)))))))), by rw [← e196]; simp only [B0, reduceIte, reduceEqDiff], by simp only [f175,
          B0, reduceIte, reduceEqDiff], by simp only [f176, B0, reduceIte, reduceEqDiff], by simp only [f177, B0, reduceIte, reduceEqDiff], by simp only [f178, B0, reduceIte,
          reduceEqDiff], by simp only [f179, B0, reduceIte, reduceEqDiff], by simp only [f180, B0, reduceIte, reduceEqDiff], by simp only [f181, B0, reduceIte, reduceEqDiff],
          by simp only [f182, B0, reduceIte, reduceEqDiff], by simp only [f183, B0, reduceIte, reduceEqDiff]⟩
  rintro fr197 h208 ⟨hS209, f198, f199, f200, f201, f202, f203, f204, f205, f206, f207⟩
  simp only [List.drop_succ_cons, List.drop_zero]
  simp only [f198, run_mv, B0, reduceIte, reduceEqDiff]
  refine ops_j 4 (fun fr' h' => Sep h' h.length (c21 ++ (c25 ++ (c29 ++ (c33 ++ (c65 ++ (c69 ++ (c73 ++ (c77 ++ ([]))))))))) ∧ fr' 86 = .bool (v189 ||
      (!(v61.2.2 == v17.2.2))) ∧ fr' 0 = .int .i64 v_0 ∧ fr' 1 = .int .i64 v_1 ∧ fr' 2 = lst SnapStep.cells v_2 ∧ fr' 8 = .ref [v20, v24, v28, .int .i64 v17.1.Sent,
      .int .i64 v17.1.Total] 0 ∧ fr' 9 = v32 ∧ fr' 10 = .bool v17.2.2 ∧ fr' 12 = .ref [v64, v68, v72, .int .i64 v61.1.Sent,
      .int .i64 v61.1.Total] 0 ∧ fr' 13 = v76) (fun Q210 hN211 => ?_) ?_
  · simp only [List.take_succ_cons, List.take_zero]
    simp only [run_guard (g := 82), B0, reduceIte, reduceEqDiff]
    refine guard_split (t := v189) (fun hg212 => ?_) (fun hg212 => ?_)
    · simp only [hg212, run_guard (g := 82), guard_off', run_pick, put1_some, xpick_t, run_ops_nil, run_nil, B0, reduceIte, reduceEqDiff]
      exact hN211 _ _ ⟨(Sep.m7 (Sep.m7 (Sep.m7 (Sep.m7 (Sep.m7 (Sep.m7 (Sep.m7 (Sep.m7 hS209)))))))), by rw [orT hg212]; simp only [B0, reduceIte, reduceEqDiff],
          by simp only [f199, B0, reduceIte, reduceEqDiff], by simp only [f200, B0, reduceIte, reduceEqDiff], by simp only [f201, B0, reduceIte, reduceEqDiff], by simp only [f202,
          B0, reduceIte, reduceEqDiff], by simp only [f203, B0, reduceIte, reduceEqDiff], by simp only [f204, B0, reduceIte, reduceEqDiff], by simp only [f205, B0, reduceIte,
          reduceEqDiff], by simp only [f206, B0, reduceIte, reduceEqDiff]⟩
    · simp only [hg212, run_guard (g := 82), guard_false, f207, run_mv, f204, run_eqb, put1_some, xeqb_t, run_pick, xpick_f, run_ops_nil, run_nil, B0, reduceIte, reduceEqDiff]
      exact hN211 _ _ ⟨(Sep.m7 (Sep.m7 (Sep.m7 (Sep.m7 (Sep.m7 (Sep.m7 (Sep.m7 (Sep.m7 hS209)))))))), by rw [orF hg212]; simp only [B0, reduceIte, reduceEqDiff],
          by simp only [f199, B0, reduceIte, reduceEqDiff], by simp only [f200, B0, reduceIte, reduceEqDiff], by simp only [f201, B0, reduceIte, reduceEqDiff], by simp only [f202,
          B0, reduceIte, reduceEqDiff], by simp only [f203, B0, reduceIte, reduceEqDiff], by simp only [f204, B0, reduceIte, reduceEqDiff], by simp only [f205, B0, reduceIte,
          reduceEqDiff], by simp only [f206, B0, reduceIte, reduceEqDiff]⟩
  rintro fr213 h223 ⟨hS224, f214, f215, f216, f217, f218, f219, f220, f221, f222⟩
  simp only [List.drop_succ_cons, List.drop_zero]
  simp only [run_ops_nil, f214, run_cond, B0, reduceIte, reduceEqDiff]
  refine cond_split (t := (v189 || (!(v61.2.2 == v17.2.2)))) (fun hc225 => ?_) (fun hc225 => ?_)
  · rw [iteT hc225] at hF191
    simp only [run_seq, run_reg, run_mv, run_ops_nil, run_ret, B0, reduceIte, reduceEqDiff]
    have he := some_inj hF191
    subst he
    simp only [end_ret1, B0, reduceIte, reduceEqDiff]
    exact rfl
  rw [iteF hc225] at hF191
  simp only [run_skip, x4_17, run_seq, run_reg, run_mv, run_ops_nil, x4_16, f221, run_ld, B0, reduceIte, reduceEqDiff]
  refine put1_eq (v := .agg [v64, v68, v72, .int .i64 v61.1.Sent, .int .i64 v61.1.Total]) rfl ?_
  obtain ⟨v226, hx227, hF228⟩ := bind_some' hF191
  simp only [run_mv, run_call, B0, reduceIte, reduceEqDiff]
  refine call0 rfl (laws_markSnap_x hW k v61.1 v64 c65 hv66 v68 c69 hv70 v72 c73 hv74 1 v226 hx227 (Sep.m6 (Sep.m6 (Sep.m6 hS224)))) ?_
  rintro _ h235 ⟨c229, c231, c233, rfl, hv230, hv232, hv234, hS236⟩
  obtain ⟨v237, hx238, hF239⟩ := bind_some' hF228
  simp only [run_mv, run_ops_nil, x4_15, run_seq, run_reg, f222, run_call, B0, reduceIte, reduceEqDiff]
  refine call0 rfl (laws_markBoolS_x hW k v76 c77 v61.2.1 hv78 v226.1 v237 hx238 (Sep.m7 hS236)) ?_
  rintro _ h242 ⟨c240, rfl, hv241, hS243⟩
  simp only [run_mv, run_ops_nil, x4_14, run_seq, run_reg, x4_13, f221, run_ld, B0, reduceIte, reduceEqDiff]
  refine put1_eq (v := .agg [v64, v68, v72, .int .i64 v61.1.Sent, .int .i64 v61.1.Total]) rfl ?_
  obtain ⟨v244, hx245, hF246⟩ := bind_some' hF239
  simp only [run_mv, run_call, B0, reduceIte, reduceEqDiff]
  refine call1 rfl (mapM1 (snap_agg (mapM1 (SlF.snap hv230 (Sep.m1 hS243) rfl (fun _ => rfl) (fun _ => rfl)) (mapM1 (SlN.snap hv232 _ (Sep.m2 hS243) rfl Chan.RO) (mapM1
      (SlN.snap hv234 _ (Sep.m3 hS243) rfl Picture.RO) (mapM1 snap_int (mapM1 snap_int mapM0)))))) (mapM1 snap_int mapM0)) (laws_heldSnap_x (fun b hb => decide_eq_true hb) k
      (Snap.mk v226.2.Amounts v226.2.Chans v226.2.Pictures v61.1.Sent v61.1.Total) 1 v244 hx245) ?_
  simp only [run_mv, run_ops_nil, x4_12, run_seq, run_reg, run_bin, put1_some, xlss, run_cond, B0, reduceIte, reduceEqDiff]
  refine cond_split (t := (decide (v244 < 0))) (fun hc247 => ?_) (fun hc247 => ?_)
  · rw [iteT hc247] at hF246
    simp only [run_seq, run_reg, run_mv, run_ops_nil, run_ret, B0, reduceIte, reduceEqDiff]
    have he := some_inj hF246
    subst he
    simp only [end_ret1, B0, reduceIte, reduceEqDiff]
    exact rfl
  rw [iteF hc247] at hF246
  obtain ⟨v248, hx249, hF250⟩ := bind_some' hF246
  simp only [run_skip, x4_11, run_seq, run_reg, f222, run_mv, run_call, B0, reduceIte, reduceEqDiff]
  refine call1 rfl (mapM1 (SlF.snap hv241 hS243 rfl (fun _ => rfl) (fun _ => rfl)) (mapM1 snap_int mapM0)) (laws_heldBoolS_x
      (fun b hb => decide_eq_true hb) k v237.2 v244 v248 hx249) ?_
  simp only [run_mv, run_ops_nil, x4_10, run_seq, run_reg, run_bin, put1_some, xlss, run_cond, B0, reduceIte, reduceEqDiff]
  refine cond_split (t := (decide (v248 < 0))) (fun hc251 => ?_) (fun hc251 => ?_)
  · rw [iteT hc251] at hF250
    simp only [run_seq, run_reg, run_mv, run_ops_nil, run_ret, B0, reduceIte, reduceEqDiff]
    have he := some_inj hF250
    subst he
    simp only [end_ret1, B0, reduceIte, reduceEqDiff]
    exact rfl
  rw [iteF hc251] at hF250
  simp only [run_skip, x4_9, run_seq, run_reg, run_mv, run_bin, put1_some, xneq, run_ops_nil, run_cond, B0, reduceIte, reduceEqDiff]
  refine cond_split (t := (decide (v248 ≠ v237.1))) (fun hc252 => ?_) (fun hc252 => ?_)
  · rw [iteT hc252] at hF250
    simp only [run_seq, run_reg, run_mv, run_ops_nil, run_ret, B0, reduceIte, reduceEqDiff]
    have he := some_inj hF250
    subst he
    simp only [end_ret1, B0, reduceIte, reduceEqDiff]
    exact rfl
  rw [iteF hc252] at hF250
  obtain ⟨v253, hx254, hF255⟩ := bind_some' hF250
  simp only [run_skip, x4_8, run_seq, run_reg, f215, run_mv, f216, f217, run_call, B0, reduceIte, reduceEqDiff]
  refine call2 rfl hS243 (mapM1 snap_lst mapM0) (laws_toSnapStepS_x (fun b hb => decide_eq_true hb) k v_2 v253 hx254) ?_
  rintro v256 h260 ⟨_, c257, rfl, hv258, hS261⟩
  refine ⟨_, free_1 (SlF.free1 hv258), hS261, (pf_app (SlF.pf hv258 (fun _ => rfl)) pf_nil), fun h262 hS263 => ?_⟩
  have hS264 : Sep h262 h.length (c257 ++ (c240 ++ (c229 ++ (c231 ++ (c233 ++ (c21 ++ (c25 ++ (c29 ++ (c33 ++ ([])))))))))) := by simpa only [List.append_assoc,
      List.nil_append] using hS263
  obtain ⟨v265, hx266, hF267⟩ := bind_some' hF255
  simp only [run_call, B0, reduceIte, reduceEqDiff]
  refine call2 rfl hS264 (mapM1 snap_int (mapM1 snap_int (mapM1 (SlF.snap hv258 hS264 rfl (fun _ => rfl) (fun _ => rfl)) mapM0))) (impl_PlaySnap_x
      (fun b hb => decide_eq_true hb) v_0 v_1 v253 v265 hx266) ?_
  rintro _ h284 ⟨v268, c269, v272, c273, v276, c277, v280, c281, rfl, hv270, hv274, hv278, hv282, hS285⟩
  refine ⟨_, free_t (all_c (free2_a (all_c (SlF.free1 hv270) (all_c (SlN.free1 hv274) (all_c (SlN.free1 hv278) (all_c rfl (all_c rfl all_n)))))) (all_c (free2_1
      (SlF.free1 hv282)) (all_c rfl all_n))), hS285,
      (pf_app (SlF.pf hv270 (fun _ => rfl)) (pf_app (SlN.pf hv274 Chan.RO) (pf_app (SlN.pf hv278 Picture.RO) (pf_app (SlF.pf hv282 (fun _ => rfl)) pf_nil)))), fun h286 hS287 => ?_⟩
  have hS288 : Sep h286 h.length (c269 ++ (c273 ++ (c277 ++ (c281 ++ (c257 ++ (c240 ++ (c229 ++ (c231 ++ (c233 ++ (c21 ++ (c25 ++ (c29 ++ (c33 ++
      ([])))))))))))))) := by simpa only [List.append_assoc, List.nil_append] using hS287
  simp only [run_mv, run_ext, put1_some, xext_0, xext_1, xext_2, run_new, B0, reduceIte, reduceEqDiff]
  refine put2_newC hS288 (fun b289 h290 hS291 => ?_)
  simp only [run_st, B0, reduceIte, reduceEqDiff]
  refine put2_stCx (us := [v268, v272, v276, .int .i64 v265.1.Sent, .int .i64 v265.1.Total]) rfl (cs' := [v268, v272, v276, .int .i64 v265.1.Sent,
      .int .i64 v265.1.Total]) hS291 hW rfl (all_c (SlF.one hv270) (all_c (SlN.one hv274) (all_c (SlN.one hv278) (all_c rfl (all_c rfl all_n))))) (Nat.le_of_ble_eq_true rfl) rfl
      (fun h293 hS294 => ?_)
  simp only [run_mv, run_ops_nil, B0, reduceIte, reduceEqDiff]
  refine frz_stepC hS294 hW (by simp only [B0, reduceIte, reduceEqDiff]) (fun h295 hS296 => ?_)
  simp only [run_frz_nil, x4_7, run_seq, run_reg, run_ld, B0, reduceIte, reduceEqDiff]
  refine put1_eq (v := .agg [v268, v272, v276, .int .i64 v265.1.Sent, .int .i64 v265.1.Total]) rfl ?_
  simp only [f218, run_ld, B0, reduceIte, reduceEqDiff]
  refine put1_eq (v := .agg [v20, v24, v28, .int .i64 v17.1.Sent, .int .i64 v17.1.Total]) rfl ?_
  obtain ⟨v297, hx298, hF299⟩ := bind_some' hF267
  simp only [run_call, B0, reduceIte, reduceEqDiff]
  refine call1 rfl (mapM1 (snap_agg (mapM1 (SlF.snap hv270 hS296 rfl (fun _ => rfl) (fun _ => rfl)) (mapM1 (SlN.snap hv274 _ (Sep.m1 hS296) rfl Chan.RO) (mapM1 (SlN.snap hv278 _
      (Sep.m2 hS296) rfl Picture.RO) (mapM1 snap_int (mapM1 snap_int mapM0)))))) (mapM1 (snap_agg (mapM1 (SlF.snap hv22 (Sep.m9 hS296) rfl (fun _ => rfl) (fun _ => rfl)) (mapM1
      (SlN.snap hv26 _ (Sep.m10 hS296) rfl Chan.RO) (mapM1 (SlN.snap hv30 _ (Sep.m11 hS296) rfl Picture.RO) (mapM1 snap_int (mapM1 snap_int mapM0)))))) mapM0)) (laws_eqSnap_x
      (fun b hb => decide_eq_true hb) k v265.1 v17.1 v297 hx298) ?_
  simp only [run_un, put1_some, xnot, run_mv, B0, reduceIte, reduceEqDiff]
  obtain ⟨v303, hx304, hF305⟩ := bind_some' hF299
  refine ops_j 5 (fun fr' h' => Sep h' h.length (c229 ++ (c231 ++ (c233 ++ (c240 ++ ([]))))) ∧ fr' 124 = .bool v303 ∧ fr' 10 = .bool v17.2.2 ∧ fr' 12 = .ref [v64, v68, v72,
      .int .i64 v61.1.Sent, .int .i64 v61.1.Total] 0 ∧ fr' 13 = v76 ∧ fr' 16 = .int .i64 v237.1 ∧ fr' 20 = .bool v265.2.2) (fun Q300 hN301 => ?_) ?_
  · simp only [List.take_succ_cons, List.take_zero]
    simp only [run_guard (g := 119), B0, reduceIte, reduceEqDiff]
    refine guard_split (t := (!v297)) (fun hg302 => ?_) (fun hg302 => ?_)
    · rw [iteT hg302] at hx304
      simp only [hg302, run_guard (g := 119), guard_off', run_pick, put1_some, xpick_t, run_ops_nil, run_nil, B0, reduceIte, reduceEqDiff]
      have e306 := some_inj hx304
      exact hN301 _ _ ⟨(Sep.m3 (Sep.m3 (Sep.m3 (Sep.dc (Sep.m4 (Sep.dc (Sep.m4 (Sep.dc (Sep.m4 (Sep.dc (Sep.m4 (Sep.dc ((Sep.dc ((Sep.dc ((Sep.dc ((Sep.dc
          (hS296))))))))))))))))))))), by rw [← e306]; simp only [B0, reduceIte, reduceEqDiff], by simp only [f220, B0, reduceIte, reduceEqDiff], by simp only [f221, B0,
          reduceIte, reduceEqDiff], by simp only [f222, B0, reduceIte, reduceEqDiff], by simp only [B0, reduceIte, reduceEqDiff], by simp only [B0, reduceIte, reduceEqDiff]⟩
    · rw [iteF hg302] at hx304
      obtain ⟨v307, hx308, hF309⟩ := bind_some' hx304
      simp only [hg302, run_guard (g := 119), guard_false, run_mv, f219, run_call, B0, reduceIte, reduceEqDiff]
      refine call1 rfl (mapM1 (SlF.snap hv282 (Sep.m3 hS296) rfl (fun _ => rfl) (fun _ => rfl)) (mapM1 (SlF.snap hv34 (Sep.m12 hS296) rfl (fun _ => rfl) (fun _ => rfl)) mapM0))
          (laws_eqBoolS_x (fun b hb => decide_eq_true hb) k v265.2.1 v17.2.1 v307 hx308) ?_
      simp only [hg302, run_guard (g := 119), guard_false, run_un, put1_some, xnot, run_pick, xpick_f, run_ops_nil, run_nil, B0, reduceIte, reduceEqDiff]
      have e310 := some_inj hF309
      exact hN301 _ _ ⟨(Sep.m3 (Sep.m3 (Sep.m3 (Sep.dc (Sep.m4 (Sep.dc (Sep.m4 (Sep.dc (Sep.m4 (Sep.dc (Sep.m4 (Sep.dc ((Sep.dc ((Sep.dc ((Sep.dc ((Sep.dc
          (hS296))))))))))))))))))))), by rw [← e310]; simp only [B0, reduceIte, reduceEqDiff], by simp only [f220, B0, reduceIte, reduceEqDiff], by simp only [f221, B0,
          reduceIte, reduceEqDiff], by simp only [f222, B0, reduceIte, reduceEqDiff], by simp only [B0, reduceIte, reduceEqDiff], by simp only [B0, reduceIte, reduceEqDiff]⟩
  rintro fr311 h318 ⟨hS319, f312, f313, f314, f315, f316, f317⟩
  simp only [List.drop_succ_cons, List.drop_zero]
  simp only [f312, run_mv, B0, reduceIte, reduceEqDiff]
  refine ops_j 4 (fun fr' h' => Sep h' h.length (c229 ++ (c231 ++ (c233 ++ (c240 ++ ([]))))) ∧ fr' 129 = .bool (v303 || (!(v265.2.2 == v17.2.2))) ∧ fr' 12 = .ref [v64, v68, v72,
      .int .i64 v61.1.Sent, .int .i64 v61.1.Total] 0 ∧ fr' 13 = v76 ∧ fr' 16 = .int .i64 v237.1) (fun Q320 hN321 => ?_) ?_
  · simp only [List.take_succ_cons, List.take_zero]
    simp only [run_guard (g := 125), B0, reduceIte, reduceEqDiff]
    refine guard_split (t := v303) (fun hg322 => ?_) (fun hg322 => ?_)
    · simp only [hg322, run_guard (g := 125), guard_off', run_pick, put1_some, xpick_t, run_ops_nil, run_nil, B0, reduceIte, reduceEqDiff]
      exact hN321 _ _ ⟨(Sep.m3 (Sep.m3 (Sep.m3 (Sep.m3 hS319)))), by rw [orT hg322]; simp only [B0, reduceIte, reduceEqDiff], by simp only [f314, B0, reduceIte, reduceEqDiff],
          by simp only [f315, B0, reduceIte, reduceEqDiff], by simp only [f316, B0, reduceIte, reduceEqDiff]⟩
    · simp only [hg322, run_guard (g := 125), guard_false, f317, run_mv, f313, run_eqb, put1_some, xeqb_t, run_pick, xpick_f, run_ops_nil, run_nil, B0, reduceIte, reduceEqDiff]
      exact hN321 _ _ ⟨(Sep.m3 (Sep.m3 (Sep.m3 (Sep.m3 hS319)))), by rw [orF hg322]; simp only [B0, reduceIte, reduceEqDiff], by simp only [f314, B0, reduceIte, reduceEqDiff],
          by simp only [f315, B0, reduceIte, reduceEqDiff], by simp only [f316, B0, reduceIte, reduceEqDiff]⟩
  rintro fr323 h328 ⟨hS329, f324, f325, f326, f327⟩
  simp only [List.drop_succ_cons, List.drop_zero]
  simp only [run_ops_nil, f324, run_cond, B0, reduceIte, reduceEqDiff]
  refine cond_split (t := (v303 || (!(v265.2.2 == v17.2.2)))) (fun hc330 => ?_) (fun hc330 => ?_)
  · rw [iteT hc330] at hF305
    simp only [run_seq, run_reg, run_mv, run_ops_nil, run_ret, B0, reduceIte, reduceEqDiff]
    have he := some_inj hF305
    subst he
    simp only [end_ret1, B0, reduceIte, reduceEqDiff]
    exact rfl
  rw [iteF hc330] at hF305
  simp only [run_skip, x4_6, run_seq, run_reg, run_mv, run_ops_nil, x4_5, f325, run_ld, B0, reduceIte, reduceEqDiff]
  refine put1_eq (v := .agg [v64, v68, v72, .int .i64 v61.1.Sent, .int .i64 v61.1.Total]) rfl ?_
  obtain ⟨v331, hx332, hF333⟩ := bind_some' hF305
  simp only [run_mv, run_call, B0, reduceIte, reduceEqDiff]
  refine call1 rfl (mapM1 (snap_agg (mapM1 (SlF.snap hv230 hS329 rfl (fun _ => rfl) (fun _ => rfl)) (mapM1 (SlN.snap hv232 _ (Sep.m1 hS329) rfl Chan.RO) (mapM1 (SlN.snap hv234 _
      (Sep.m2 hS329) rfl Picture.RO) (mapM1 snap_int (mapM1 snap_int mapM0)))))) (mapM1 snap_int mapM0)) (laws_heldSnap_x (fun b hb => decide_eq_true hb) k
      (Snap.mk v226.2.Amounts v226.2.Chans v226.2.Pictures v61.1.Sent v61.1.Total) 1 v331 hx332) ?_
  simp only [run_mv, run_ops_nil, x4_4, run_seq, run_reg, run_bin, put1_some, xlss, run_cond, B0, reduceIte, reduceEqDiff]
  refine cond_split (t := (decide (v331 < 0))) (fun hc334 => ?_) (fun hc334 => ?_)
  · rw [iteT hc334] at hF333
    simp only [run_seq, run_reg, run_mv, run_ops_nil, run_ret, B0, reduceIte, reduceEqDiff]
    have he := some_inj hF333
    subst he
    simp only [end_ret1, B0, reduceIte, reduceEqDiff]
    exact rfl
  rw [iteF hc334] at hF333
  obtain ⟨v335, hx336, hF337⟩ := bind_some' hF333
  simp only [run_skip, x4_3, run_seq, run_reg, f326, run_mv, run_call, B0, reduceIte, reduceEqDiff]
  refine call1 rfl (mapM1 (SlF.snap hv241 (Sep.m3 hS329) rfl (fun _ => rfl) (fun _ => rfl)) (mapM1 snap_int mapM0)) (laws_heldBoolS_x
      (fun b hb => decide_eq_true hb) k v237.2 v331 v335 hx336) ?_
  simp only [run_mv, run_ops_nil, x4_2, run_seq, run_reg, run_bin, put1_some, xlss, run_cond, B0, reduceIte, reduceEqDiff]
  refine cond_split (t := (decide (v335 < 0))) (fun hc338 => ?_) (fun hc338 => ?_)
  · rw [iteT hc338] at hF337
    simp only [run_seq, run_reg, run_mv, run_ops_nil, run_ret, B0, reduceIte, reduceEqDiff]
    have he := some_inj hF337
    subst he
    simp only [end_ret1, B0, reduceIte, reduceEqDiff]
    exact rfl
  rw [iteF hc338] at hF337
  simp only [run_skip, x4_1, run_seq, run_reg, run_mv, f327, run_bin, put1_some, xneq, run_ops_nil, run_cond, B0, reduceIte, reduceEqDiff]
  refine cond_split (t := (decide (v335 ≠ v237.1))) (fun hc339 => ?_) (fun hc339 => ?_)
  · rw [iteT hc339] at hF337
    simp only [run_seq, run_reg, run_mv, run_ops_nil, run_ret, B0, reduceIte, reduceEqDiff]
    have he := some_inj hF337
    subst he
    simp only [end_ret1, B0, reduceIte, reduceEqDiff]
    exact rfl
  rw [iteF hc339] at hF337
  simp only [run_skip, run_seq, run_reg, run_mv, run_ops_nil, run_ret, B0, reduceIte, reduceEqDiff]
  have he := some_inj hF337
  subst he
  simp only [end_ret1, B0, reduceIte, reduceEqDiff]
  exact rfl
end Go.Proofs.Ytpkiieniipenjaa.X
