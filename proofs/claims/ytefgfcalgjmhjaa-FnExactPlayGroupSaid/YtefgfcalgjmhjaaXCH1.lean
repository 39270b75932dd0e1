/- The functions' code comes to what the plain functions say (1). -/
import Derived.Test.YtefgfcalgjmhjaaXCF
import Derived.Test.YtefgfcalgjmhjaaXCD
set_option linter.unusedVariables false
set_option linter.unusedSimpArgs false
set_option maxRecDepth 100000
namespace Go.Proofs.Ytefgfcalgjmhjaa.X
open Go
open Nat (reduceEqDiff)
def Replica.R : Rep Replica := fun x cs os => ∃ (v0 : XV) (c0 : List Obj), SlF Row.cells 2 98 v0 x.Log c0 ∧ cs = [v0, .int .i64 x.Epoch, .int .i64 x.Known] ∧ c0 = os
theorem Replica.RI {x : Replica} {v0 : XV} {c0 : List Obj} (h0 : SlF Row.cells 2 98 v0 x.Log c0) : Replica.R x [v0, .int .i64 x.Epoch, .int .i64 x.Known] (c0) := ⟨v0, c0, h0, rfl,
    rfl⟩
theorem Replica.RO : RepOk E.sz Replica.R Replica.cells 3 where
  len := fun {x cs os} H => by
    obtain ⟨v0, c0, h0, rfl, rfl⟩ := H
    rfl
  flen := fun _ => rfl
  one := fun {x cs os} H => by
    obtain ⟨v0, c0, h0, rfl, rfl⟩ := H
    exact (all_c (SlF.one h0) (all_c rfl (all_c rfl all_n)))
  snap := fun {x cs os h lo S} m H hS => by
    obtain ⟨v0, c0, h0, rfl, rfl⟩ := H
    have hS2 : Sep h lo (c0 ++ S) := (by simpa only [List.append_assoc] using hS)
    exact (mapM1 (SlF.snap h0 hS2 rfl (fun _ => rfl) (fun _ => rfl)) (mapM1 snap_int (mapM1 snap_int mapM0)))
  cut := fun {x cs os h lo n0 keep S} m H hS hge => by
    obtain ⟨v0, c0, h0, rfl, rfl⟩ := H
    have hS2 : Sep h lo (c0 ++ S) := (by simpa only [List.append_assoc] using hS)
    exact (mapM1 (SlF.cut h0 hS2 hge rfl (fun _ => rfl) (fun _ => rfl)) (mapM1 rfl (mapM1 rfl mapM0)))
  free := fun {x cs os} H => by
    obtain ⟨v0, c0, h0, rfl, rfl⟩ := H
    exact (all_c (SlF.free1 h0) (all_c rfl (all_c rfl all_n)))
  pf := fun {x cs os} H => by
    obtain ⟨v0, c0, h0, rfl, rfl⟩ := H
    exact (SlF.pf h0 (fun _ => rfl))
theorem slices_Insert_int_x {W : Nat → Bool} {h : Heap} {lo : Nat → Prop} {S0 : List Obj} (hW : ∀ b,
    lo b → W b = true) (pv0 : XV) (pc0 : List Obj) (s_0 : List Int) (ph0 : SlF cI 1 3 pv0 s_0 pc0) (i_1 : Int) (pv2 : XV) (pc2 : List Obj) (v_2 : List Int)
    (ph2 : SlF cI 1 3 pv2 v_2 pc2) (r : List Int × List Int) (hF : slices_Insert_int s_0 i_1 v_2 = some r) (hS : Sep h lo (pc0 ++ (pc2 ++ S0))) : Ret E W 91 [pv0, .int .i64 i_1,
    pv2] h (fun v h' => ∃ rv0 rc0 ic2, v = rv0 ∧ SlF cI 1 3 rv0 r.1 rc0 ∧ SlF cI 1 3 pv2 r.2 ic2 ∧ Sep h' lo (rc0 ++ (ic2 ++ S0))) := ins_x rfl rfl hW ph0 ph2 hF hS
theorem laws_eqIntS_x {W : Nat → Bool} {h : Heap} (hW : ∀ b,
    (geL h.length) b → W b = true) (k : Nat) (a_0 : List Int) (b_1 : List Int) (r : Bool) (hF : laws_eqIntS k a_0 b_1 = some r) : Ret E W 56 [lst cI a_0,
    lst cI b_1] h (fun v h' => cut h.length h' E.sz false 9 v = some (.bool r)) := by
  refine Ret.of (fn := x56) rfl (Run.of ?_)
  unfold laws_eqIntS at hF
  have zf0 : argFr [lst cI a_0, lst cI b_1] 0 = lst cI a_0 := rfl
  have zf1 : argFr [lst cI a_0, lst cI b_1] 1 = lst cI b_1 := rfl
  generalize argFr [lst cI a_0, lst cI b_1] = fr0 at zf0 zf1 ⊢
  have hS : Sep h (geL h.length) [] := Sep.nil h
  simp only [x56, run_seq, run_reg, run_mv, run_ops_nil, x56_7, zf0, run_len, put1_some, xlen_lst, zf1, run_bin, xneq, run_cond, B0, reduceIte, reduceEqDiff]
  refine cond_split (t := (decide ((List.length a_0 : Int) ≠ (List.length b_1 : Int)))) (fun hc1 => ?_) (fun hc1 => ?_)
  · rw [iteT hc1] at hF
    simp only [run_seq, run_reg, run_mv, run_ops_nil, run_ret, B0, reduceIte, reduceEqDiff]
    have he := some_inj hF
    subst he
    simp only [end_ret1, B0, reduceIte, reduceEqDiff]
    exact rfl
  rw [iteF hc1] at hF
  simp only [run_skip, x56_6, run_seq, run_reg, run_mv, run_ops_nil, B0, reduceIte, reduceEqDiff]
  obtain ⟨oc6, hX8, hk9⟩ := jn_some hF
  simp only [x56_5]
  refine loopF_j (σ := Int) (fun s38 => laws_eqIntS_b1 a_0 b_1 s38) (fun s fr' h' => fr' 0 = lst cI a_0 ∧ fr' 1 = lst cI b_1 ∧ fr' 5 = .int .i64 s ∧ Sep h' (geL h.length)
      ([])) hX8 ⟨zf0, zf1, rfl, hS⟩ (fun _ _ _ h => h) ?_ ?_
  · rintro s3 fr18 h19 ⟨f21, f22, f23, hS20⟩ oc7 hF10 hr11 Q12 hN13 hK14 hR15 hE16
    unfold laws_eqIntS_b1 at hF10
    simp only [x56_3, run_seq, run_reg, f23, run_mv, f21, run_len, put1_some, xlen_lst, run_bin, xlss, run_ops_nil, run_cond, B0, reduceIte, reduceEqDiff]
    refine cond_split (t := (decide (s3 < (List.length a_0 : Int)))) (fun hc25 => ?_) (fun hc25 => ?_)
    · rw [iteT hc25] at hF10
      obtain ⟨x26, hx27, hF28⟩ := bind_some' hF10
      simp only [run_skip, x56_2, run_seq, run_block, x56_1, run_draw, f21, d4_mv, put1d_some, f23, d4_ia, B0, reduceIte, reduceEqDiff]
      refine put1d_eq (v := .ref (cI x26) 0) (xia_lst hx27 rfl) ?_
      simp only [d4_ld, B0, reduceIte, reduceEqDiff]
      refine put1d_eq (v := .int .i64 x26) rfl ?_
      obtain ⟨x29, hx30, hF31⟩ := bind_some' hF28
      simp only [f22, d4_mv, put1d_some, f23, d4_ia, B0, reduceIte, reduceEqDiff]
      refine put1d_eq (v := .ref (cI x29) 0) (xia_lst hx30 rfl) ?_
      simp only [d4_ld, B0, reduceIte, reduceEqDiff]
      refine put1d_eq (v := .int .i64 x29) rfl ?_
      simp only [d4_bin, put1d_some, xneq, run_draw_nil, run_cond, B0, reduceIte, reduceEqDiff]
      refine cond_split (t := (decide (x26 ≠ x29))) (fun hc32 => ?_) (fun hc32 => ?_)
      · rw [iteT hc32] at hF31
        simp only [run_seq, run_reg, run_mv, run_ops_nil, run_ret, B0, reduceIte, reduceEqDiff]
        have e33 := some_inj hF31
        subst e33
        have ho34 := hr11 _ rfl
        have hk35 := hk9
        rw [ho34] at hk35
        dsimp only [jnO] at hk35
        apply hR15
        have he := some_inj hk35
        subst he
        simp only [end_ret1, B0, reduceIte, reduceEqDiff]
        exact rfl
      rw [iteF hc32] at hF31
      simp only [run_skip, run_blk, run_reg, f23, run_mv, run_bin, put1_some, xadd, run_ops_nil, run_nil, B0, reduceIte, reduceEqDiff]
      have e36 := some_inj hF31
      exact hN13 _ _ _ e36.symm ⟨f21, f22, rfl, hS20⟩
    rw [iteF hc25] at hF10
    simp only [run_exit, out_code, out_nil, B0, reduceIte, reduceEqDiff]
    have e37 := some_inj hF10
    exact hK14 _ _ _ e37.symm ⟨f21, f22, f23, hS20⟩
  rintro s39 fr40 h41 rfl ⟨f43, f44, f45, hS42⟩
  dsimp only [jnO] at hk9
  unfold laws_eqIntS_j1 at hk9
  simp only [run_seq, run_reg, run_mv, run_ops_nil, run_ret, B0, reduceIte, reduceEqDiff]
  have he := some_inj hk9
  subst he
  simp only [end_ret1, B0, reduceIte, reduceEqDiff]
  exact rfl
theorem laws_eqRow_x {W : Nat → Bool} {h : Heap} (hW : ∀ b,
    (geL h.length) b → W b = true) (a_0 : Row) (b_1 : Row) (r : Bool) (hF : laws_eqRow a_0 b_1 = some r) : Ret E W 101 [.agg [.int .i64 a_0.Epoch, .int .i64 a_0.Value],
    .agg [.int .i64 b_1.Epoch, .int .i64 b_1.Value]] h (fun v h' => cut h.length h' E.sz false 9 v = some (.bool r)) := by
  refine Ret.of (fn := x101) rfl (Run.of ?_)
  unfold laws_eqRow at hF
  have zf0 : argFr [.agg [.int .i64 a_0.Epoch, .int .i64 a_0.Value], .agg [.int .i64 b_1.Epoch, .int .i64 b_1.Value]] 0 = .agg [.int .i64 a_0.Epoch, .int .i64 a_0.Value] := rfl
  have zf1 : argFr [.agg [.int .i64 a_0.Epoch, .int .i64 a_0.Value], .agg [.int .i64 b_1.Epoch, .int .i64 b_1.Value]] 1 = .agg [.int .i64 b_1.Epoch, .int .i64 b_1.Value] := rfl
  generalize argFr [.agg [.int .i64 a_0.Epoch, .int .i64 a_0.Value], .agg [.int .i64 b_1.Epoch, .int .i64 b_1.Value]] = fr0 at zf0 zf1 ⊢
  have hS : Sep h (geL h.length) [] := Sep.nil h
  simp only [x101, run_seq, run_reg, run_box, zf0, B0, reduceIte, reduceEqDiff]
  refine put2_boxC (cs := [.int .i64 a_0.Epoch, .int .i64 a_0.Value]) hS rfl rfl rfl (fun b1 h2 hS3 => ?_)
  simp only [run_box, zf1, B0, reduceIte, reduceEqDiff]
  refine put2_boxC (cs := [.int .i64 b_1.Epoch, .int .i64 b_1.Value]) hS3 rfl rfl rfl (fun b5 h6 hS7 => ?_)
  simp only [run_mv, run_ops_nil, B0, reduceIte, reduceEqDiff]
  refine frz_stepC (Sep.m1 hS7) hW (by simp only [B0, reduceIte, reduceEqDiff]) (fun h9 hS10 => ?_)
  refine frz_stepC hS10 hW (by simp only [B0, reduceIte, reduceEqDiff]) (fun h11 hS12 => ?_)
  simp only [run_frz_nil, x101_2, run_seq, run_reg, run_fa, put1_some, Nat.reduceAdd, Nat.zero_add, Nat.add_zero, xfa_ref, run_ld, B0, reduceIte, reduceEqDiff]
  refine put1_eq (v := .int .i64 a_0.Epoch) rfl ?_
  simp only [run_fa, put1_some, Nat.reduceAdd, Nat.zero_add, Nat.add_zero, xfa_ref, run_ld, B0, reduceIte, reduceEqDiff]
  refine put1_eq (v := .int .i64 b_1.Epoch) rfl ?_
  simp only [run_bin, put1_some, xneq, run_ops_nil, run_cond, B0, reduceIte, reduceEqDiff]
  refine cond_split (t := (decide (a_0.Epoch ≠ b_1.Epoch))) (fun hc13 => ?_) (fun hc13 => ?_)
  · rw [iteT hc13] at hF
    simp only [run_seq, run_reg, run_mv, run_ops_nil, run_ret, B0, reduceIte, reduceEqDiff]
    have he := some_inj hF
    subst he
    simp only [end_ret1, B0, reduceIte, reduceEqDiff]
    exact rfl
  rw [iteF hc13] at hF
  simp only [run_skip, x101_1, run_seq, run_reg, run_fa, put1_some, Nat.reduceAdd, Nat.zero_add, Nat.add_zero, xfa_ref, run_ld, B0, reduceIte, reduceEqDiff]
  refine put1_eq (v := .int .i64 a_0.Value) rfl ?_
  simp only [run_fa, put1_some, Nat.reduceAdd, Nat.zero_add, Nat.add_zero, xfa_ref, run_ld, B0, reduceIte, reduceEqDiff]
  refine put1_eq (v := .int .i64 b_1.Value) rfl ?_
  simp only [run_bin, put1_some, xneq, run_ops_nil, run_cond, B0, reduceIte, reduceEqDiff]
  refine cond_split (t := (decide (a_0.Value ≠ b_1.Value))) (fun hc14 => ?_) (fun hc14 => ?_)
  · rw [iteT hc14] at hF
    simp only [run_seq, run_reg, run_mv, run_ops_nil, run_ret, B0, reduceIte, reduceEqDiff]
    have he := some_inj hF
    subst he
    simp only [end_ret1, B0, reduceIte, reduceEqDiff]
    exact rfl
  rw [iteF hc14] at hF
  simp only [run_skip, run_seq, run_reg, run_mv, run_ops_nil, run_ret, B0, reduceIte, reduceEqDiff]
  have he := some_inj hF
  subst he
  simp only [end_ret1, B0, reduceIte, reduceEqDiff]
  exact rfl
theorem laws_eqRowS_x {W : Nat → Bool} {h : Heap} (hW : ∀ b,
    (geL h.length) b → W b = true) (k : Nat) (a_0 : List Row) (b_1 : List Row) (r : Bool) (hF : laws_eqRowS k a_0 b_1 = some r) : Ret E W 95 [lst Row.cells a_0,
    lst Row.cells b_1] h (fun v h' => cut h.length h' E.sz false 9 v = some (.bool r)) := by
  refine Ret.of (fn := x95) rfl (Run.of ?_)
  unfold laws_eqRowS at hF
  have zf0 : argFr [lst Row.cells a_0, lst Row.cells b_1] 0 = lst Row.cells a_0 := rfl
  have zf1 : argFr [lst Row.cells a_0, lst Row.cells b_1] 1 = lst Row.cells b_1 := rfl
  generalize argFr [lst Row.cells a_0, lst Row.cells b_1] = fr0 at zf0 zf1 ⊢
  have hS : Sep h (geL h.length) [] := Sep.nil h
  simp only [x95, run_seq, run_reg, run_mv, run_ops_nil, x95_7, zf0, run_len, put1_some, xlen_lst, zf1, run_bin, xneq, run_cond, B0, reduceIte, reduceEqDiff]
  refine cond_split (t := (decide ((List.length a_0 : Int) ≠ (List.length b_1 : Int)))) (fun hc1 => ?_) (fun hc1 => ?_)
  · rw [iteT hc1] at hF
    simp only [run_seq, run_reg, run_mv, run_ops_nil, run_ret, B0, reduceIte, reduceEqDiff]
    have he := some_inj hF
    subst he
    simp only [end_ret1, B0, reduceIte, reduceEqDiff]
    exact rfl
  rw [iteF hc1] at hF
  simp only [run_skip, x95_6, run_seq, run_reg, run_mv, run_ops_nil, B0, reduceIte, reduceEqDiff]
  obtain ⟨oc6, hX8, hk9⟩ := jn_some hF
  simp only [x95_5]
  refine loopF_j (σ := Int) (fun s41 => laws_eqRowS_b1 a_0 b_1 s41) (fun s fr' h' => fr' 0 = lst Row.cells a_0 ∧ fr' 1 = lst Row.cells b_1 ∧ fr' 5 = .int .i64 s ∧ Sep h'
      (geL h.length) ([])) hX8 ⟨zf0, zf1, rfl, hS⟩ (fun _ _ _ h => h) ?_ ?_
  · rintro s3 fr18 h19 ⟨f21, f22, f23, hS20⟩ oc7 hF10 hr11 Q12 hN13 hK14 hR15 hE16
    unfold laws_eqRowS_b1 at hF10
    simp only [x95_3, run_seq, run_reg, f23, run_mv, f21, run_len, put1_some, xlen_lst, run_bin, xlss, run_ops_nil, run_cond, B0, reduceIte, reduceEqDiff]
    refine cond_split (t := (decide (s3 < (List.length a_0 : Int)))) (fun hc25 => ?_) (fun hc25 => ?_)
    · rw [iteT hc25] at hF10
      obtain ⟨x26, hx27, hF28⟩ := bind_some' hF10
      simp only [run_skip, x95_2, run_seq, run_block, x95_1, run_draw, f21, d4_mv, put1d_some, f23, d4_ia, B0, reduceIte, reduceEqDiff]
      refine put1d_eq (v := .ref (Row.cells x26) 0) (xia_lst hx27 rfl) ?_
      simp only [d4_ld, B0, reduceIte, reduceEqDiff]
      refine put1d_eq (v := .agg [.int .i64 x26.Epoch, .int .i64 x26.Value]) rfl ?_
      obtain ⟨x29, hx30, hF31⟩ := bind_some' hF28
      simp only [f22, d4_mv, put1d_some, f23, d4_ia, B0, reduceIte, reduceEqDiff]
      refine put1d_eq (v := .ref (Row.cells x29) 0) (xia_lst hx30 rfl) ?_
      simp only [d4_ld, B0, reduceIte, reduceEqDiff]
      refine put1d_eq (v := .agg [.int .i64 x29.Epoch, .int .i64 x29.Value]) rfl ?_
      obtain ⟨v32, hx33, hF34⟩ := bind_some' hF31
      simp only [run_d3_call, B0, reduceIte, reduceEqDiff]
      refine call1d rfl (mapM1 (snap_agg (mapM1 snap_int (mapM1 snap_int mapM0))) (mapM1 (snap_agg (mapM1 snap_int (mapM1 snap_int mapM0))) mapM0)) (laws_eqRow_x
          (fun b hb => decide_eq_true hb) x26 x29 v32 hx33) ?_
      simp only [d4_un, put1d_some, xnot, run_draw_nil, run_cond, B0, reduceIte, reduceEqDiff]
      refine cond_split (t := (!v32)) (fun hc35 => ?_) (fun hc35 => ?_)
      · rw [iteT hc35] at hF34
        simp only [run_seq, run_reg, run_mv, run_ops_nil, run_ret, B0, reduceIte, reduceEqDiff]
        have e36 := some_inj hF34
        subst e36
        have ho37 := hr11 _ rfl
        have hk38 := hk9
        rw [ho37] at hk38
        dsimp only [jnO] at hk38
        apply hR15
        have he := some_inj hk38
        subst he
        simp only [end_ret1, B0, reduceIte, reduceEqDiff]
        exact rfl
      rw [iteF hc35] at hF34
      simp only [run_skip, run_blk, run_reg, f23, run_mv, run_bin, put1_some, xadd, run_ops_nil, run_nil, B0, reduceIte, reduceEqDiff]
      have e39 := some_inj hF34
      exact hN13 _ _ _ e39.symm ⟨f21, f22, rfl, hS20⟩
    rw [iteF hc25] at hF10
    simp only [run_exit, out_code, out_nil, B0, reduceIte, reduceEqDiff]
    have e40 := some_inj hF10
    exact hK14 _ _ _ e40.symm ⟨f21, f22, f23, hS20⟩
  rintro s42 fr43 h44 rfl ⟨f46, f47, f48, hS45⟩
  dsimp only [jnO] at hk9
  unfold laws_eqRowS_j1 at hk9
  simp only [run_seq, run_reg, run_mv, run_ops_nil, run_ret, B0, reduceIte, reduceEqDiff]
  have he := some_inj hk9
  subst he
  simp only [end_ret1, B0, reduceIte, reduceEqDiff]
  exact rfl
theorem laws_eqReplica_x {W : Nat → Bool} {h : Heap} (hW : ∀ b,
    (geL h.length) b → W b = true) (k : Nat) (a_0 : Replica) (b_1 : Replica) (r : Bool) (hF : laws_eqReplica k a_0 b_1 = some r) : Ret E W 83 [.agg [lst Row.cells a_0.Log,
    .int .i64 a_0.Epoch, .int .i64 a_0.Known], .agg [lst Row.cells b_1.Log, .int .i64 b_1.Epoch,
    .int .i64 b_1.Known]] h (fun v h' => cut h.length h' E.sz false 9 v = some (.bool r)) := by
  refine Ret.of (fn := x83) rfl (Run.of ?_)
  unfold laws_eqReplica at hF
  have zf0 : argFr [.agg [lst Row.cells a_0.Log, .int .i64 a_0.Epoch, .int .i64 a_0.Known], .agg [lst Row.cells b_1.Log, .int .i64 b_1.Epoch,
      .int .i64 b_1.Known]] 0 = .agg [lst Row.cells a_0.Log, .int .i64 a_0.Epoch, .int .i64 a_0.Known] := rfl
  have zf1 : argFr [.agg [lst Row.cells a_0.Log, .int .i64 a_0.Epoch, .int .i64 a_0.Known], .agg [lst Row.cells b_1.Log, .int .i64 b_1.Epoch,
      .int .i64 b_1.Known]] 1 = .agg [lst Row.cells b_1.Log, .int .i64 b_1.Epoch, .int .i64 b_1.Known] := rfl
  generalize argFr [.agg [lst Row.cells a_0.Log, .int .i64 a_0.Epoch, .int .i64 a_0.Known], .agg [lst Row.cells b_1.Log, .int .i64 b_1.Epoch,
      .int .i64 b_1.Known]] = fr0 at zf0 zf1 ⊢
  have hS : Sep h (geL h.length) [] := Sep.nil h
  simp only [x83, run_seq, run_reg, run_box, zf0, B0, reduceIte, reduceEqDiff]
  refine put2_boxC (cs := [lst Row.cells a_0.Log, .int .i64 a_0.Epoch, .int .i64 a_0.Known]) hS rfl rfl rfl (fun b1 h2 hS3 => ?_)
  simp only [run_box, zf1, B0, reduceIte, reduceEqDiff]
  refine put2_boxC (cs := [lst Row.cells b_1.Log, .int .i64 b_1.Epoch, .int .i64 b_1.Known]) hS3 rfl rfl rfl (fun b5 h6 hS7 => ?_)
  simp only [run_mv, run_ops_nil, B0, reduceIte, reduceEqDiff]
  refine frz_stepC (Sep.m1 hS7) hW (by simp only [B0, reduceIte, reduceEqDiff]) (fun h9 hS10 => ?_)
  refine frz_stepC hS10 hW (by simp only [B0, reduceIte, reduceEqDiff]) (fun h11 hS12 => ?_)
  simp only [run_frz_nil, x83_3, run_seq, run_reg, run_fa, put1_some, Nat.reduceAdd, Nat.zero_add, Nat.add_zero, xfa_ref, run_ld, B0, reduceIte, reduceEqDiff]
  refine put1_eq (v := lst Row.cells a_0.Log) rfl ?_
  simp only [run_fa, put1_some, Nat.reduceAdd, Nat.zero_add, Nat.add_zero, xfa_ref, run_ld, B0, reduceIte, reduceEqDiff]
  refine put1_eq (v := lst Row.cells b_1.Log) rfl ?_
  obtain ⟨v13, hx14, hF15⟩ := bind_some' hF
  simp only [run_call, B0, reduceIte, reduceEqDiff]
  refine call1 rfl (mapM1 snap_lst (mapM1 snap_lst mapM0)) (laws_eqRowS_x (fun b hb => decide_eq_true hb) k a_0.Log b_1.Log v13 hx14) ?_
  simp only [run_un, put1_some, xnot, run_ops_nil, run_cond, B0, reduceIte, reduceEqDiff]
  refine cond_split (t := (!v13)) (fun hc16 => ?_) (fun hc16 => ?_)
  · rw [iteT hc16] at hF15
    simp only [run_seq, run_reg, run_mv, run_ops_nil, run_ret, B0, reduceIte, reduceEqDiff]
    have he := some_inj hF15
    subst he
    simp only [end_ret1, B0, reduceIte, reduceEqDiff]
    exact rfl
  rw [iteF hc16] at hF15
  simp only [run_skip, x83_2, run_seq, run_reg, run_fa, put1_some, Nat.reduceAdd, Nat.zero_add, Nat.add_zero, xfa_ref, run_ld, B0, reduceIte, reduceEqDiff]
  refine put1_eq (v := .int .i64 a_0.Epoch) rfl ?_
  simp only [run_fa, put1_some, Nat.reduceAdd, Nat.zero_add, Nat.add_zero, xfa_ref, run_ld, B0, reduceIte, reduceEqDiff]
  refine put1_eq (v := .int .i64 b_1.Epoch) rfl ?_
  simp only [run_bin, put1_some, xneq, run_ops_nil, run_cond, B0, reduceIte, reduceEqDiff]
  refine cond_split (t := (decide (a_0.Epoch ≠ b_1.Epoch))) (fun hc17 => ?_) (fun hc17 => ?_)
  · rw [iteT hc17] at hF15
    simp only [run_seq, run_reg, run_mv, run_ops_nil, run_ret, B0, reduceIte, reduceEqDiff]
    have he := some_inj hF15
    subst he
    simp only [end_ret1, B0, reduceIte, reduceEqDiff]
    exact rfl
  rw [iteF hc17] at hF15
  simp only [run_skip, x83_1, run_seq, run_reg, run_fa, put1_some, Nat.reduceAdd, Nat.zero_add, Nat.add_zero, xfa_ref, run_ld, B0, reduceIte, reduceEqDiff]
  refine put1_eq (v := .int .i64 a_0.Known) rfl ?_
  simp only [run_fa, put1_some, Nat.reduceAdd, Nat.zero_add, Nat.add_zero, xfa_ref, run_ld, B0, reduceIte, reduceEqDiff]
  refine put1_eq (v := .int .i64 b_1.Known) rfl ?_
  simp only [run_bin, put1_some, xneq, run_ops_nil, run_cond, B0, reduceIte, reduceEqDiff]
  refine cond_split (t := (decide (a_0.Known ≠ b_1.Known))) (fun hc18 => ?_) (fun hc18 => ?_)
  · rw [iteT hc18] at hF15
    simp only [run_seq, run_reg, run_mv, run_ops_nil, run_ret, B0, reduceIte, reduceEqDiff]
    have he := some_inj hF15
    subst he
    simp only [end_ret1, B0, reduceIte, reduceEqDiff]
    exact rfl
  rw [iteF hc18] at hF15
  simp only [run_skip, run_seq, run_reg, run_mv, run_ops_nil, run_ret, B0, reduceIte, reduceEqDiff]
  have he := some_inj hF15
  subst he
  simp only [end_ret1, B0, reduceIte, reduceEqDiff]
  exact rfl
theorem laws_eqReplicaS_x {W : Nat → Bool} {h : Heap} (hW : ∀ b,
    (geL h.length) b → W b = true) (k : Nat) (a_0 : List Replica) (b_1 : List Replica) (r : Bool) (hF : laws_eqReplicaS k a_0 b_1 = some r) : Ret E W 57 [lst Replica.cells a_0,
    lst Replica.cells b_1] h (fun v h' => cut h.length h' E.sz false 9 v = some (.bool r)) := by
  refine Ret.of (fn := x57) rfl (Run.of ?_)
  unfold laws_eqReplicaS at hF
  have zf0 : argFr [lst Replica.cells a_0, lst Replica.cells b_1] 0 = lst Replica.cells a_0 := rfl
  have zf1 : argFr [lst Replica.cells a_0, lst Replica.cells b_1] 1 = lst Replica.cells b_1 := rfl
  generalize argFr [lst Replica.cells a_0, lst Replica.cells b_1] = fr0 at zf0 zf1 ⊢
  have hS : Sep h (geL h.length) [] := Sep.nil h
  simp only [x57, run_seq, run_reg, run_mv, run_ops_nil, x57_7, zf0, run_len, put1_some, xlen_lst, zf1, run_bin, xneq, run_cond, B0, reduceIte, reduceEqDiff]
  refine cond_split (t := (decide ((List.length a_0 : Int) ≠ (List.length b_1 : Int)))) (fun hc1 => ?_) (fun hc1 => ?_)
  · rw [iteT hc1] at hF
    simp only [run_seq, run_reg, run_mv, run_ops_nil, run_ret, B0, reduceIte, reduceEqDiff]
    have he := some_inj hF
    subst he
    simp only [end_ret1, B0, reduceIte, reduceEqDiff]
    exact rfl
  rw [iteF hc1] at hF
  simp only [run_skip, x57_6, run_seq, run_reg, run_mv, run_ops_nil, B0, reduceIte, reduceEqDiff]
  obtain ⟨oc6, hX8, hk9⟩ := jn_some hF
  simp only [x57_5]
  refine loopF_j (σ := Int) (fun s41 => laws_eqReplicaS_b1 k a_0 b_1 s41)
      (fun s fr' h' => fr' 0 = lst Replica.cells a_0 ∧ fr' 1 = lst Replica.cells b_1 ∧ fr' 5 = .int .i64 s ∧ Sep h' (geL h.length) ([])) hX8 ⟨zf0, zf1, rfl,
      hS⟩ (fun _ _ _ h => h) ?_ ?_
  · rintro s3 fr18 h19 ⟨f21, f22, f23, hS20⟩ oc7 hF10 hr11 Q12 hN13 hK14 hR15 hE16
    unfold laws_eqReplicaS_b1 at hF10
    simp only [x57_3, run_seq, run_reg, f23, run_mv, f21, run_len, put1_some, xlen_lst, run_bin, xlss, run_ops_nil, run_cond, B0, reduceIte, reduceEqDiff]
    refine cond_split (t := (decide (s3 < (List.length a_0 : Int)))) (fun hc25 => ?_) (fun hc25 => ?_)
    · rw [iteT hc25] at hF10
      obtain ⟨x26, hx27, hF28⟩ := bind_some' hF10
      simp only [run_skip, x57_2, run_seq, run_block, x57_1, run_draw, f21, d4_mv, put1d_some, f23, d4_ia, B0, reduceIte, reduceEqDiff]
      refine put1d_eq (v := .ref (Replica.cells x26) 0) (xia_lst hx27 rfl) ?_
      simp only [d4_ld, B0, reduceIte, reduceEqDiff]
      refine put1d_eq (v := .agg [lst Row.cells x26.Log, .int .i64 x26.Epoch, .int .i64 x26.Known]) rfl ?_
      obtain ⟨x29, hx30, hF31⟩ := bind_some' hF28
      simp only [f22, d4_mv, put1d_some, f23, d4_ia, B0, reduceIte, reduceEqDiff]
      refine put1d_eq (v := .ref (Replica.cells x29) 0) (xia_lst hx30 rfl) ?_
      simp only [d4_ld, B0, reduceIte, reduceEqDiff]
      refine put1d_eq (v := .agg [lst Row.cells x29.Log, .int .i64 x29.Epoch, .int .i64 x29.Known]) rfl ?_
      obtain ⟨v32, hx33, hF34⟩ := bind_some' hF31
      simp only [run_d3_call, B0, reduceIte, reduceEqDiff]
      refine call1d rfl (mapM1 (snap_agg (mapM1 snap_lst (mapM1 snap_int (mapM1 snap_int mapM0)))) (mapM1 (snap_agg (mapM1 snap_lst (mapM1 snap_int
          (mapM1 snap_int mapM0)))) mapM0)) (laws_eqReplica_x (fun b hb => decide_eq_true hb) k x26 x29 v32 hx33) ?_
      simp only [d4_un, put1d_some, xnot, run_draw_nil, run_cond, B0, reduceIte, reduceEqDiff]
      refine cond_split (t := (!v32)) (fun hc35 => ?_) (fun hc35 => ?_)
      · rw [iteT hc35] at hF34
        simp only [run_seq, run_reg, run_mv, run_ops_nil, run_ret, B0, reduceIte, reduceEqDiff]
        have e36 := some_inj hF34
        subst e36
        have ho37 := hr11 _ rfl
        have hk38 := hk9
        rw [ho37] at hk38
        dsimp only [jnO] at hk38
        apply hR15
        have he := some_inj hk38
        subst he
        simp only [end_ret1, B0, reduceIte, reduceEqDiff]
        exact rfl
      rw [iteF hc35] at hF34
      simp only [run_skip, run_blk, run_reg, f23, run_mv, run_bin, put1_some, xadd, run_ops_nil, run_nil, B0, reduceIte, reduceEqDiff]
      have e39 := some_inj hF34
      exact hN13 _ _ _ e39.symm ⟨f21, f22, rfl, hS20⟩
    rw [iteF hc25] at hF10
    simp only [run_exit, out_code, out_nil, B0, reduceIte, reduceEqDiff]
    have e40 := some_inj hF10
    exact hK14 _ _ _ e40.symm ⟨f21, f22, f23, hS20⟩
  rintro s42 fr43 h44 rfl ⟨f46, f47, f48, hS45⟩
  dsimp only [jnO] at hk9
  unfold laws_eqReplicaS_j1 at hk9
  simp only [run_seq, run_reg, run_mv, run_ops_nil, run_ret, B0, reduceIte, reduceEqDiff]
  have he := some_inj hk9
  subst he
  simp only [end_ret1, B0, reduceIte, reduceEqDiff]
  exact rfl
theorem laws_eqGroup_x {W : Nat → Bool} {h : Heap} (hW : ∀ b,
    (geL h.length) b → W b = true) (k : Nat) (a_0 : Group) (b_1 : Group) (r : Bool) (hF : laws_eqGroup k a_0 b_1 = some r) : Ret E W 12 [.agg [.int .i64 a_0.Epoch,
    .int .i64 a_0.Leader, lst cI a_0.InStep, .int .i64 a_0.High, lst Replica.cells a_0.Replicas], .agg [.int .i64 b_1.Epoch, .int .i64 b_1.Leader, lst cI b_1.InStep,
    .int .i64 b_1.High, lst Replica.cells b_1.Replicas]] h (fun v h' => cut h.length h' E.sz false 9 v = some (.bool r)) := by
  refine Ret.of (fn := x12) rfl (Run.of ?_)
  unfold laws_eqGroup at hF
  have zf0 : argFr [.agg [.int .i64 a_0.Epoch, .int .i64 a_0.Leader, lst cI a_0.InStep, .int .i64 a_0.High, lst Replica.cells a_0.Replicas], .agg [.int .i64 b_1.Epoch,
      .int .i64 b_1.Leader, lst cI b_1.InStep, .int .i64 b_1.High, lst Replica.cells b_1.Replicas]] 0 = .agg [.int .i64 a_0.Epoch, .int .i64 a_0.Leader, lst cI a_0.InStep,
      .int .i64 a_0.High, lst Replica.cells a_0.Replicas] := rfl
  have zf1 : argFr [.agg [.int .i64 a_0.Epoch, .int .i64 a_0.Leader, lst cI a_0.InStep, .int .i64 a_0.High, lst Replica.cells a_0.Replicas], .agg [.int .i64 b_1.Epoch,
      .int .i64 b_1.Leader, lst cI b_1.InStep, .int .i64 b_1.High, lst Replica.cells b_1.Replicas]] 1 = .agg [.int .i64 b_1.Epoch, .int .i64 b_1.Leader, lst cI b_1.InStep,
      .int .i64 b_1.High, lst Replica.cells b_1.Replicas] := rfl
  generalize argFr [.agg [.int .i64 a_0.Epoch, .int .i64 a_0.Leader, lst cI a_0.InStep, .int .i64 a_0.High, lst Replica.cells a_0.Replicas], .agg [.int .i64 b_1.Epoch,
      .int .i64 b_1.Leader, lst cI b_1.InStep, .int .i64 b_1.High, lst Replica.cells b_1.Replicas]] = fr0 at zf0 zf1 ⊢
  have hS : Sep h (geL h.length) [] := Sep.nil h
  simp only [x12, run_seq, run_reg, run_box, zf0, B0, reduceIte, reduceEqDiff]
  refine put2_boxC (cs := [.int .i64 a_0.Epoch, .int .i64 a_0.Leader, lst cI a_0.InStep, .int .i64 a_0.High, lst Replica.cells a_0.Replicas]) hS rfl rfl rfl (fun b1 h2 hS3 => ?_)
  simp only [run_box, zf1, B0, reduceIte, reduceEqDiff]
  refine put2_boxC (cs := [.int .i64 b_1.Epoch, .int .i64 b_1.Leader, lst cI b_1.InStep, .int .i64 b_1.High, lst Replica.cells b_1.Replicas]) hS3 rfl rfl rfl (fun b5 h6 hS7 => ?_)
  simp only [run_mv, run_ops_nil, B0, reduceIte, reduceEqDiff]
  refine frz_stepC (Sep.m1 hS7) hW (by simp only [B0, reduceIte, reduceEqDiff]) (fun h9 hS10 => ?_)
  refine frz_stepC hS10 hW (by simp only [B0, reduceIte, reduceEqDiff]) (fun h11 hS12 => ?_)
  simp only [run_frz_nil, x12_5, run_seq, run_reg, run_fa, put1_some, Nat.reduceAdd, Nat.zero_add, Nat.add_zero, xfa_ref, run_ld, B0, reduceIte, reduceEqDiff]
  refine put1_eq (v := .int .i64 a_0.Epoch) rfl ?_
  simp only [run_fa, put1_some, Nat.reduceAdd, Nat.zero_add, Nat.add_zero, xfa_ref, run_ld, B0, reduceIte, reduceEqDiff]
  refine put1_eq (v := .int .i64 b_1.Epoch) rfl ?_
  simp only [run_bin, put1_some, xneq, run_ops_nil, run_cond, B0, reduceIte, reduceEqDiff]
  refine cond_split (t := (decide (a_0.Epoch ≠ b_1.Epoch))) (fun hc13 => ?_) (fun hc13 => ?_)
  · rw [iteT hc13] at hF
    simp only [run_seq, run_reg, run_mv, run_ops_nil, run_ret, B0, reduceIte, reduceEqDiff]
    have he := some_inj hF
    subst he
    simp only [end_ret1, B0, reduceIte, reduceEqDiff]
    exact rfl
  rw [iteF hc13] at hF
  simp only [run_skip, x12_4, run_seq, run_reg, run_fa, put1_some, Nat.reduceAdd, Nat.zero_add, Nat.add_zero, xfa_ref, run_ld, B0, reduceIte, reduceEqDiff]
  refine put1_eq (v := .int .i64 a_0.Leader) rfl ?_
  simp only [run_fa, put1_some, Nat.reduceAdd, Nat.zero_add, Nat.add_zero, xfa_ref, run_ld, B0, reduceIte, reduceEqDiff]
  refine put1_eq (v := .int .i64 b_1.Leader) rfl ?_
  simp only [run_bin, put1_some, xneq, run_ops_nil, run_cond, B0, reduceIte, reduceEqDiff]
  refine cond_split (t := (decide (a_0.Leader ≠ b_1.Leader))) (fun hc14 => ?_) (fun hc14 => ?_)
  · rw [iteT hc14] at hF
    simp only [run_seq, run_reg, run_mv, run_ops_nil, run_ret, B0, reduceIte, reduceEqDiff]
    have he := some_inj hF
    subst he
    simp only [end_ret1, B0, reduceIte, reduceEqDiff]
    exact rfl
  rw [iteF hc14] at hF
  simp only [run_skip, x12_3, run_seq, run_reg, run_fa, put1_some, Nat.reduceAdd, Nat.zero_add, Nat.add_zero, xfa_ref, run_ld, B0, reduceIte, reduceEqDiff]
  refine put1_eq (v := lst cI a_0.InStep) rfl ?_
  simp only [run_fa, put1_some, Nat.reduceAdd, Nat.zero_add, Nat.add_zero, xfa_ref, run_ld, B0, reduceIte, reduceEqDiff]
  refine put1_eq (v := lst cI b_1.InStep) rfl ?_
  obtain ⟨v15, hx16, hF17⟩ := bind_some' hF
  simp only [run_call, B0, reduceIte, reduceEqDiff]
  refine call1 rfl (mapM1 snap_lst (mapM1 snap_lst mapM0)) (laws_eqIntS_x (fun b hb => decide_eq_true hb) k a_0.InStep b_1.InStep v15 hx16) ?_
  simp only [run_un, put1_some, xnot, run_ops_nil, run_cond, B0, reduceIte, reduceEqDiff]
  refine cond_split (t := (!v15)) (fun hc18 => ?_) (fun hc18 => ?_)
  · rw [iteT hc18] at hF17
    simp only [run_seq, run_reg, run_mv, run_ops_nil, run_ret, B0, reduceIte, reduceEqDiff]
    have he := some_inj hF17
    subst he
    simp only [end_ret1, B0, reduceIte, reduceEqDiff]
    exact rfl
  rw [iteF hc18] at hF17
  simp only [run_skip, x12_2, run_seq, run_reg, run_fa, put1_some, Nat.reduceAdd, Nat.zero_add, Nat.add_zero, xfa_ref, run_ld, B0, reduceIte, reduceEqDiff]
  refine put1_eq (v := .int .i64 a_0.High) rfl ?_
  simp only [run_fa, put1_some, Nat.reduceAdd, Nat.zero_add, Nat.add_zero, xfa_ref, run_ld, B0, reduceIte, reduceEqDiff]
  refine put1_eq (v := .int .i64 b_1.High) rfl ?_
  simp only [run_bin, put1_some, xneq, run_ops_nil, run_cond, B0, reduceIte, reduceEqDiff]
  refine cond_split (t := (decide (a_0.High ≠ b_1.High))) (fun hc19 => ?_) (fun hc19 => ?_)
  · rw [iteT hc19] at hF17
    simp only [run_seq, run_reg, run_mv, run_ops_nil, run_ret, B0, reduceIte, reduceEqDiff]
    have he := some_inj hF17
    subst he
    simp only [end_ret1, B0, reduceIte, reduceEqDiff]
    exact rfl
  rw [iteF hc19] at hF17
  simp only [run_skip, x12_1, run_seq, run_reg, run_fa, put1_some, Nat.reduceAdd, Nat.zero_add, Nat.add_zero, xfa_ref, run_ld, B0, reduceIte, reduceEqDiff]
  refine put1_eq (v := lst Replica.cells a_0.Replicas) rfl ?_
  simp only [run_fa, put1_some, Nat.reduceAdd, Nat.zero_add, Nat.add_zero, xfa_ref, run_ld, B0, reduceIte, reduceEqDiff]
  refine put1_eq (v := lst Replica.cells b_1.Replicas) rfl ?_
  obtain ⟨v20, hx21, hF22⟩ := bind_some' hF17
  simp only [run_call, B0, reduceIte, reduceEqDiff]
  refine call1 rfl (mapM1 snap_lst (mapM1 snap_lst mapM0)) (laws_eqReplicaS_x (fun b hb => decide_eq_true hb) k a_0.Replicas b_1.Replicas v20 hx21) ?_
  simp only [run_un, put1_some, xnot, run_ops_nil, run_cond, B0, reduceIte, reduceEqDiff]
  refine cond_split (t := (!v20)) (fun hc23 => ?_) (fun hc23 => ?_)
  · rw [iteT hc23] at hF22
    simp only [run_seq, run_reg, run_mv, run_ops_nil, run_ret, B0, reduceIte, reduceEqDiff]
    have he := some_inj hF22
    subst he
    simp only [end_ret1, B0, reduceIte, reduceEqDiff]
    exact rfl
  rw [iteF hc23] at hF22
  simp only [run_skip, run_seq, run_reg, run_mv, run_ops_nil, run_ret, B0, reduceIte, reduceEqDiff]
  have he := some_inj hF22
  subst he
  simp only [end_ret1, B0, reduceIte, reduceEqDiff]
  exact rfl
theorem laws_markIntS_x {W : Nat → Bool} {h : Heap} {lo : Nat → Prop} {S0 : List Obj} (hW : ∀ b,
    lo b → W b = true) (k : Nat) (pv0 : XV) (pc0 : List Obj) (a_0 : List Int) (ph0 : SlF cI 1 3 pv0 a_0 pc0) (k_1 : Int) (r : Int × (List Int))
    (hF : laws_markIntS k a_0 k_1 = some r) (hS : Sep h lo (pc0 ++ (S0))) : Ret E W 58 [pv0, .int .i64 k_1] h (fun v h' => ∃ ic0,
    v = .int .i64 r.1 ∧ SlF cI 1 3 pv0 r.2 ic0 ∧ Sep h' lo (ic0 ++ (S0))) := by
  refine Ret.of (fn := x58) rfl (Run.of ?_)
  unfold laws_markIntS at hF
  have zf0 : argFr [pv0, .int .i64 k_1] 0 = pv0 := rfl
  have zf1 : argFr [pv0, .int .i64 k_1] 1 = .int .i64 k_1 := rfl
  generalize argFr [pv0, .int .i64 k_1] = fr0 at zf0 zf1 ⊢
  simp only [x58, run_seq, run_reg, run_mv, run_ops_nil, x58_6, B0, reduceIte, reduceEqDiff]
  obtain ⟨oc13, hX15, hk16⟩ := jn_some hF
  simp only [x58_5]
  refine loopF_j (σ := Int × Int × (List Int)) (fun s45 => laws_markIntS_b1 s45.1 s45.2.1 s45.2.2) (fun s fr' h' => ∃ c9,
      fr' 0 = pv0 ∧ fr' 1 = .int .i64 s.1 ∧ fr' 5 = .int .i64 s.2.1 ∧ SlF cI 1 3 pv0 s.2.2 c9 ∧ Sep h' lo (c9 ++ (S0))) hX15 ⟨pc0, zf0, zf1, rfl, ph0, hS⟩ (fun _ _ _ h => h) ?_ ?_
  · rintro ⟨s6, s7, s8⟩ fr25 h26 ⟨c9, f28, f29, f30, hv10, hS27⟩ oc14 hF17 hr18 Q19 hN20 hK21 hR22 hE23
    dsimp only at *
    unfold laws_markIntS_b1 at hF17
    simp only [x58_3, run_seq, run_reg, f30, run_mv, f28, run_len, put1_some, SlF.plen hv10, run_bin, xlss, run_ops_nil, run_cond, B0, reduceIte, reduceEqDiff]
    refine cond_split (t := (decide (s7 < (List.length s8 : Int)))) (fun hc32 => ?_) (fun hc32 => ?_)
    · rw [iteT hc32] at hF17
      obtain ⟨x33, hx34, hF35⟩ := bind_some' hF17
      simp only [run_skip, x58_2, run_seq, run_block, x58_1, run_reg, f28, run_mv, f30, f29, run_ia, B0, reduceIte, reduceEqDiff]
      obtain ⟨b36, hb37⟩ := SlF.isrow hv10 (geti_ne hx34)
      refine put1_eq (SlF.ia hv10 hb37 hx34) ?_
      simp only [run_st, B0, reduceIte, reduceEqDiff]
      refine put2_stF (f := cI) (x' := s6) (o := 0) hv10 hS27 hW hb37 hx34 (fun _ => rfl) rfl rfl (Nat.le_of_ble_eq_true rfl) rfl (fun c40 h38 hv41 hS39 => ?_)
      have hx42 := geti_set (x' := s6) hx34
      simp only [run_ops_nil, run_reg, f29, run_mv, run_bin, put1_some, xadd, run_blk, f30, run_nil, B0, reduceIte, reduceEqDiff]
      have e43 := some_inj hF35
      exact hN20 _ _ _ e43.symm ⟨c40, f28, rfl, rfl, hv41, hS39⟩
    rw [iteF hc32] at hF17
    simp only [run_exit, out_code, out_nil, B0, reduceIte, reduceEqDiff]
    have e44 := some_inj hF17
    exact hK21 _ _ _ e44.symm ⟨c9, f28, f29, f30, hv10, hS27⟩
  rintro ⟨s46, s47, s48⟩ fr51 h52 rfl ⟨c49, f54, f55, f56, hv50, hS53⟩
  dsimp only [jnO] at hk16
  dsimp only at *
  unfold laws_markIntS_j1 at hk16
  simp only [run_seq, run_reg, f55, run_mv, run_ops_nil, run_ret, B0, reduceIte, reduceEqDiff]
  have he := some_inj hk16
  subst he
  simp only [end_ret1, B0, reduceIte, reduceEqDiff]
  exact ⟨c49, by first | trivial | rfl, hv50, hS53⟩
theorem laws_markRowS_x {W : Nat → Bool} {h : Heap} {lo : Nat → Prop} {S0 : List Obj} (hW : ∀ b,
    lo b → W b = true) (k : Nat) (pv0 : XV) (pc0 : List Obj) (a_0 : List Row) (ph0 : SlF Row.cells 2 98 pv0 a_0 pc0) (k_1 : Int) (r : Int × (List Row))
    (hF : laws_markRowS k a_0 k_1 = some r) (hS : Sep h lo (pc0 ++ (S0))) : Ret E W 84 [pv0, .int .i64 k_1] h (fun v h' => ∃ ic0,
    v = .int .i64 r.1 ∧ SlF Row.cells 2 98 pv0 r.2 ic0 ∧ Sep h' lo (ic0 ++ (S0))) := by
  refine Ret.of (fn := x84) rfl (Run.of ?_)
  unfold laws_markRowS at hF
  have zf0 : argFr [pv0, .int .i64 k_1] 0 = pv0 := rfl
  have zf1 : argFr [pv0, .int .i64 k_1] 1 = .int .i64 k_1 := rfl
  generalize argFr [pv0, .int .i64 k_1] = fr0 at zf0 zf1 ⊢
  simp only [x84, run_seq, run_reg, run_mv, run_ops_nil, x84_8, B0, reduceIte, reduceEqDiff]
  obtain ⟨oc13, hX15, hk16⟩ := jn_some hF
  simp only [x84_7]
  refine loopF_j (σ := Int × Int × (List Row)) (fun s50 => laws_markRowS_b1 s50.1 s50.2.1 s50.2.2) (fun s fr' h' => ∃ c9,
      fr' 0 = pv0 ∧ fr' 1 = .int .i64 s.1 ∧ fr' 5 = .int .i64 s.2.1 ∧ SlF Row.cells 2 98 pv0 s.2.2 c9 ∧ Sep h' lo (c9 ++ (S0))) hX15 ⟨pc0, zf0, zf1, rfl, ph0,
      hS⟩ (fun _ _ _ h => h) ?_ ?_
  · rintro ⟨s6, s7, s8⟩ fr25 h26 ⟨c9, f28, f29, f30, hv10, hS27⟩ oc14 hF17 hr18 Q19 hN20 hK21 hR22 hE23
    dsimp only at *
    unfold laws_markRowS_b1 at hF17
    simp only [x84_5, run_seq, run_reg, f30, run_mv, f28, run_len, put1_some, SlF.plen hv10, run_bin, xlss, run_ops_nil, run_cond, B0, reduceIte, reduceEqDiff]
    refine cond_split (t := (decide (s7 < (List.length s8 : Int)))) (fun hc32 => ?_) (fun hc32 => ?_)
    · rw [iteT hc32] at hF17
      obtain ⟨x33, hx34, hF35⟩ := bind_some' hF17
      simp only [run_skip, x84_4, run_seq, run_block, x84_3, run_reg, f28, run_mv, f30, f29, run_ia, B0, reduceIte, reduceEqDiff]
      obtain ⟨b36, hb37⟩ := SlF.isrow hv10 (geti_ne hx34)
      refine put1_eq (SlF.ia hv10 hb37 hx34) ?_
      simp only [run_fa, put1_some, Nat.reduceAdd, Nat.zero_add, Nat.add_zero, xfa_ptr, run_st, B0, reduceIte, reduceEqDiff]
      refine put2_stF (f := Row.cells) (x' := (Row.mk s6 x33.Value)) (o := 0) hv10 hS27 hW hb37 hx34 (fun _ => rfl) rfl rfl (Nat.le_of_ble_eq_true rfl) rfl
          (fun c40 h38 hv41 hS39 => ?_)
      have hx42 := geti_set (x' := (Row.mk s6 x33.Value)) hx34
      simp only [run_ops_nil, x84_2, run_seq, run_reg, f29, run_mv, run_bin, put1_some, xadd, x84_1, f28, f30, run_ia, B0, reduceIte, reduceEqDiff]
      refine put1_eq (SlF.ia hv41 hb37 hx42) ?_
      simp only [run_fa, put1_some, Nat.reduceAdd, Nat.zero_add, Nat.add_zero, xfa_ptr, run_st, B0, reduceIte, reduceEqDiff]
      refine put2_stF (f := Row.cells) (x' := (Row.mk s6 (IntKind.wrap .i64 (s6 + 1)))) (o := 1) hv41 hS39 hW hb37 hx42 (fun _ => rfl) rfl rfl (Nat.le_of_ble_eq_true rfl) rfl
          (fun c45 h43 hv46 hS44 => ?_)
      rw [List.set_set] at hv46
      have hx47 := geti_set (x' := (Row.mk s6 (IntKind.wrap .i64 (s6 + 1)))) hx34
      simp only [run_ops_nil, run_reg, run_mv, run_bin, put1_some, xadd, run_blk, f30, run_nil, B0, reduceIte, reduceEqDiff]
      have e48 := some_inj hF35
      exact hN20 _ _ _ e48.symm ⟨c45, f28, rfl, rfl, hv46, hS44⟩
    rw [iteF hc32] at hF17
    simp only [run_exit, out_code, out_nil, B0, reduceIte, reduceEqDiff]
    have e49 := some_inj hF17
    exact hK21 _ _ _ e49.symm ⟨c9, f28, f29, f30, hv10, hS27⟩
  rintro ⟨s51, s52, s53⟩ fr56 h57 rfl ⟨c54, f59, f60, f61, hv55, hS58⟩
  dsimp only [jnO] at hk16
  dsimp only at *
  unfold laws_markRowS_j1 at hk16
  simp only [run_seq, run_reg, f60, run_mv, run_ops_nil, run_ret, B0, reduceIte, reduceEqDiff]
  have he := some_inj hk16
  subst he
  simp only [end_ret1, B0, reduceIte, reduceEqDiff]
  exact ⟨c54, by first | trivial | rfl, hv55, hS58⟩
theorem laws_markReplicaS_x {W : Nat → Bool} {h : Heap} {lo : Nat → Prop} {S0 : List Obj} (hW : ∀ b,
    lo b → W b = true) (k : Nat) (pv0 : XV) (pc0 : List Obj) (a_0 : List Replica) (ph0 : SlN Replica.R 3 51 pv0 a_0 pc0) (k_1 : Int) (r : Int × (List Replica))
    (hF : laws_markReplicaS k a_0 k_1 = some r) (hS : Sep h lo (pc0 ++ (S0))) : Ret E W 59 [pv0, .int .i64 k_1] h (fun v h' => ∃ ic0,
    v = .int .i64 r.1 ∧ SlN Replica.R 3 51 pv0 r.2 ic0 ∧ Sep h' lo (ic0 ++ (S0))) := by
  refine Ret.of (fn := x59) rfl (Run.of ?_)
  unfold laws_markReplicaS at hF
  have zf0 : argFr [pv0, .int .i64 k_1] 0 = pv0 := rfl
  have zf1 : argFr [pv0, .int .i64 k_1] 1 = .int .i64 k_1 := rfl
  generalize argFr [pv0, .int .i64 k_1] = fr0 at zf0 zf1 ⊢
  simp only [x59, run_seq, run_reg, run_mv, run_ops_nil, x59_9, B0, reduceIte, reduceEqDiff]
  obtain ⟨oc13, hX15, hk16⟩ := jn_some hF
  simp only [x59_8]
  refine loopF_j (σ := Int × Int × (List Replica)) (fun s71 => laws_markReplicaS_b1 k s71.1 s71.2.1 s71.2.2) (fun s fr' h' => ∃ c9,
      fr' 0 = pv0 ∧ fr' 1 = .int .i64 s.1 ∧ fr' 5 = .int .i64 s.2.1 ∧ SlN Replica.R 3 51 pv0 s.2.2 c9 ∧ Sep h' lo (c9 ++ (S0))) hX15 ⟨pc0, zf0, zf1, rfl, ph0,
      hS⟩ (fun _ _ _ h => h) ?_ ?_
  · rintro ⟨s6, s7, s8⟩ fr25 h26 ⟨c9, f28, f29, f30, hv10, hS27⟩ oc14 hF17 hr18 Q19 hN20 hK21 hR22 hE23
    dsimp only at *
    unfold laws_markReplicaS_b1 at hF17
    simp only [x59_6, run_seq, run_reg, f30, run_mv, f28, run_len, put1_some, SlN.len hv10, run_bin, xlss, run_ops_nil, run_cond, B0, reduceIte, reduceEqDiff]
    refine cond_split (t := (decide (s7 < (List.length s8 : Int)))) (fun hc32 => ?_) (fun hc32 => ?_)
    · rw [iteT hc32] at hF17
      obtain ⟨x33, hx34, hF35⟩ := bind_some' hF17
      simp only [run_skip, x59_5, run_seq, run_block, x59_4, run_reg, f28, run_mv, f30, run_ia, B0, reduceIte, reduceEqDiff]
      obtain ⟨b36, hb37⟩ := SlN.isrow hv10 (geti_ne hx34)
      refine put1_eq (SlN.ia hv10 hb37 hx34) ?_
      obtain ⟨c38, cs39, os40, hv41, hR42, hS43⟩ := SlG.opn (SlN.toG hv10 hb37 Replica.RO.len) hx34 hk_nil Replica.RO.len hS27
      obtain ⟨v45, c46, hv47, rfl, rfl⟩ := hR42
      have hS44 := Sep.no1 hS43
      simp only [run_fa, put1_some, Nat.reduceAdd, Nat.zero_add, Nat.add_zero, xfa_ptr, run_ld, B0, reduceIte, reduceEqDiff]
      refine put1_eq (v := v45) ((SlG.ld (o := 0) hv41 rfl hx34 hS44 (Nat.le_of_ble_eq_true rfl)).trans rfl) ?_
      obtain ⟨v49, hx50, hF51⟩ := bind_some' hF35
      simp only [f29, run_mv, run_call, B0, reduceIte, reduceEqDiff]
      refine call0 rfl (laws_markRowS_x hW k v45 c46 x33.Log hv47 s6 v49 hx50 (Sep.m1 hS44)) ?_
      rintro _ h54 ⟨c52, rfl, hv53, hS55⟩
      simp only [run_mv, run_ops_nil, x59_3, run_seq, run_reg, f28, f30, run_ia, B0, reduceIte, reduceEqDiff]
      refine put1_eq (SlG.ia hv41 hx34) ?_
      simp only [run_fa, put1_some, Nat.reduceAdd, Nat.zero_add, Nat.add_zero, xfa_ptr, run_st, B0, reduceIte, reduceEqDiff]
      refine put2_stGx (us := [.int .i64 v49.1]) (o := 1) (cs' := [v45, .int .i64 v49.1,
          .int .i64 x33.Known]) rfl hv41 rfl hx34 (Sep.m1 hS55) hW rfl rfl (Nat.le_of_ble_eq_true rfl) rfl (fun c58 h56 hv59 hS57 => ?_)
      simp only [run_ops_nil, x59_2, run_seq, run_reg, run_mv, run_bin, put1_some, xadd, x59_1, f28, f30, run_ia, B0, reduceIte, reduceEqDiff]
      refine put1_eq (SlG.ia hv59 hx34) ?_
      simp only [run_fa, put1_some, Nat.reduceAdd, Nat.zero_add, Nat.add_zero, xfa_ptr, run_st, B0, reduceIte, reduceEqDiff]
      refine put2_stGx (us := [.int .i64 (IntKind.wrap .i64 (v49.1 + 1))]) (o := 2) (cs' := [v45, .int .i64 v49.1,
          .int .i64 (IntKind.wrap .i64 (v49.1 + 1))]) rfl hv59 rfl hx34 hS57 hW rfl rfl (Nat.le_of_ble_eq_true rfl) rfl (fun c62 h60 hv63 hS61 => ?_)
      simp only [run_ops_nil, run_reg, run_mv, run_bin, put1_some, xadd, run_blk, f30, run_nil, B0, reduceIte, reduceEqDiff]
      obtain ⟨c64, hv65, hS66⟩ := SlG.cls (e' := (Replica.mk v49.2 v49.1 (IntKind.wrap .i64 (v49.1 + 1)))) (c := c62) (os := c52) hv63 rfl hx34 hk_nil (Replica.RI (x :=
          (Replica.mk v49.2 v49.1 (IntKind.wrap .i64 (v49.1 + 1)))) hv53) (Sep.m1 (Sep.m1 hS61))
      have hx67 := geti_set (x' := (Replica.mk v49.2 v49.1 (IntKind.wrap .i64 (v49.1 + 1)))) hx34
      have hv68 := SlG.toN hv65
      have e69 := some_inj hF51
      exact hN20 _ _ _ e69.symm ⟨c64, f28, rfl, rfl, hv68, hS66⟩
    rw [iteF hc32] at hF17
    simp only [run_exit, out_code, out_nil, B0, reduceIte, reduceEqDiff]
    have e70 := some_inj hF17
    exact hK21 _ _ _ e70.symm ⟨c9, f28, f29, f30, hv10, hS27⟩
  rintro ⟨s72, s73, s74⟩ fr77 h78 rfl ⟨c75, f80, f81, f82, hv76, hS79⟩
  dsimp only [jnO] at hk16
  dsimp only at *
  unfold laws_markReplicaS_j1 at hk16
  simp only [run_seq, run_reg, f81, run_mv, run_ops_nil, run_ret, B0, reduceIte, reduceEqDiff]
  have he := some_inj hk16
  subst he
  simp only [end_ret1, B0, reduceIte, reduceEqDiff]
  exact ⟨c75, by first | trivial | rfl, hv76, hS79⟩
theorem laws_markGroup_x {W : Nat → Bool} {h : Heap} {lo : Nat → Prop} {S0 : List Obj} (hW : ∀ b,
    lo b → W b = true) (k : Nat) (a_0 : Group) (pv0_2 : XV) (pc0_2 : List Obj) (ph0_2 : SlF cI 1 3 pv0_2 a_0.InStep pc0_2) (pv0_4 : XV) (pc0_4 : List Obj)
    (ph0_4 : SlN Replica.R 3 51 pv0_4 a_0.Replicas pc0_4) (k_1 : Int) (r : Int × Group) (hF : laws_markGroup k a_0 k_1 = some r) (hS : Sep h lo (pc0_2 ++ (pc0_4 ++
    (S0)))) : Ret E W 13 [.agg [.int .i64 a_0.Epoch, .int .i64 a_0.Leader, pv0_2, .int .i64 a_0.High, pv0_4], .int .i64 k_1] h (fun v h' => ∃ ic0_2 ic0_4,
    v = .int .i64 r.1 ∧ SlF cI 1 3 pv0_2 r.2.InStep ic0_2 ∧ SlN Replica.R 3 51 pv0_4 r.2.Replicas ic0_4 ∧ Sep h' lo (ic0_2 ++ (ic0_4 ++ (S0)))) := by
  refine Ret.of (fn := x13) rfl (Run.of ?_)
  unfold laws_markGroup at hF
  have zf0 : argFr [.agg [.int .i64 a_0.Epoch, .int .i64 a_0.Leader, pv0_2, .int .i64 a_0.High, pv0_4], .int .i64 k_1] 0 = .agg [.int .i64 a_0.Epoch, .int .i64 a_0.Leader, pv0_2,
      .int .i64 a_0.High, pv0_4] := rfl
  have zf1 : argFr [.agg [.int .i64 a_0.Epoch, .int .i64 a_0.Leader, pv0_2, .int .i64 a_0.High, pv0_4], .int .i64 k_1] 1 = .int .i64 k_1 := rfl
  generalize argFr [.agg [.int .i64 a_0.Epoch, .int .i64 a_0.Leader, pv0_2, .int .i64 a_0.High, pv0_4], .int .i64 k_1] = fr0 at zf0 zf1 ⊢
  simp only [x13, run_seq, run_reg, run_box, zf0, B0, reduceIte, reduceEqDiff]
  refine put2_boxC (cs := [.int .i64 a_0.Epoch, .int .i64 a_0.Leader, pv0_2, .int .i64 a_0.High,
      pv0_4]) hS rfl rfl (all_c rfl (all_c rfl (all_c (SlF.one ph0_2) (all_c rfl (all_c (SlN.one ph0_4) all_n))))) (fun b1 h2 hS3 => ?_)
  simp only [run_mv, run_ops_nil, B0, reduceIte, reduceEqDiff]
  refine frz_stepC hS3 hW (by simp only [B0, reduceIte, reduceEqDiff]) (fun h5 hS6 => ?_)
  simp only [run_frz_nil, x13_2, run_seq, run_reg, run_fa, put1_some, Nat.reduceAdd, Nat.zero_add, Nat.add_zero, xfa_ref, run_ld, B0, reduceIte, reduceEqDiff]
  refine put1_eq (v := pv0_2) rfl ?_
  obtain ⟨v7, hx8, hF9⟩ := bind_some' hF
  simp only [zf1, run_mv, run_call, B0, reduceIte, reduceEqDiff]
  refine call0 rfl (laws_markIntS_x hW k pv0_2 pc0_2 a_0.InStep ph0_2 k_1 v7 hx8 hS6) ?_
  rintro _ h12 ⟨c10, rfl, hv11, hS13⟩
  simp only [run_mv, run_ops_nil, x13_1, run_seq, run_reg, run_fa, put1_some, Nat.reduceAdd, Nat.zero_add, Nat.add_zero, xfa_ref, run_ld, B0, reduceIte, reduceEqDiff]
  refine put1_eq (v := pv0_4) rfl ?_
  obtain ⟨v14, hx15, hF16⟩ := bind_some' hF9
  simp only [run_mv, run_call, B0, reduceIte, reduceEqDiff]
  refine call0 rfl (laws_markReplicaS_x hW k pv0_4 pc0_4 a_0.Replicas ph0_4 v7.1 v14 hx15 (Sep.m1 hS13)) ?_
  rintro _ h19 ⟨c17, rfl, hv18, hS20⟩
  simp only [run_mv, run_ops_nil, run_seq, run_reg, run_ret, B0, reduceIte, reduceEqDiff]
  have he := some_inj hF16
  subst he
  simp only [end_ret1, B0, reduceIte, reduceEqDiff]
  exact ⟨c10, c17, by first | trivial | rfl, hv11, hv18, (Sep.m1 hS20)⟩
theorem laws_heldIntS_x {W : Nat → Bool} {h : Heap} (hW : ∀ b,
    (geL h.length) b → W b = true) (k : Nat) (a_0 : List Int) (k_1 : Int) (r : Int) (hF : laws_heldIntS k a_0 k_1 = some r) : Ret E W 60 [lst cI a_0,
    .int .i64 k_1] h (fun v h' => cut h.length h' E.sz false 9 v = some (.int .i64 r)) := by
  refine Ret.of (fn := x60) rfl (Run.of ?_)
  unfold laws_heldIntS at hF
  have zf0 : argFr [lst cI a_0, .int .i64 k_1] 0 = lst cI a_0 := rfl
  have zf1 : argFr [lst cI a_0, .int .i64 k_1] 1 = .int .i64 k_1 := rfl
  generalize argFr [lst cI a_0, .int .i64 k_1] = fr0 at zf0 zf1 ⊢
  have hS : Sep h (geL h.length) [] := Sep.nil h
  simp only [x60, run_seq, run_reg, run_mv, run_ops_nil, x60_6, B0, reduceIte, reduceEqDiff]
  obtain ⟨oc7, hX9, hk10⟩ := jn_some hF
  simp only [x60_5]
  refine loopF_j (σ := Int × Int) (fun s36 => laws_heldIntS_b1 a_0 s36.1 s36.2) (fun s fr' h' => fr' 0 = lst cI a_0 ∧ fr' 1 = .int .i64 s.1 ∧ fr' 5 = .int .i64 s.2 ∧ Sep h'
      (geL h.length) ([])) hX9 ⟨zf0, zf1, rfl, hS⟩ (fun _ _ _ h => h) ?_ ?_
  · rintro ⟨s3, s4⟩ fr19 h20 ⟨f22, f23, f24, hS21⟩ oc8 hF11 hr12 Q13 hN14 hK15 hR16 hE17
    dsimp only at *
    unfold laws_heldIntS_b1 at hF11
    simp only [x60_3, run_seq, run_reg, f24, run_mv, f22, run_len, put1_some, xlen_lst, run_bin, xlss, run_ops_nil, run_cond, B0, reduceIte, reduceEqDiff]
    refine cond_split (t := (decide (s4 < (List.length a_0 : Int)))) (fun hc26 => ?_) (fun hc26 => ?_)
    · rw [iteT hc26] at hF11
      obtain ⟨x27, hx28, hF29⟩ := bind_some' hF11
      simp only [run_skip, x60_2, run_seq, run_block, x60_1, run_reg, f22, run_mv, f24, run_ia, B0, reduceIte, reduceEqDiff]
      refine put1_eq (v := .ref (cI x27) 0) (xia_lst hx28 rfl) ?_
      simp only [run_ld, B0, reduceIte, reduceEqDiff]
      refine put1_eq (v := .int .i64 x27) rfl ?_
      simp only [f23, run_mv, run_bin, put1_some, xneq, run_ops_nil, run_cond, B0, reduceIte, reduceEqDiff]
      refine cond_split (t := (decide (x27 ≠ s3))) (fun hc30 => ?_) (fun hc30 => ?_)
      · rw [iteT hc30] at hF29
        simp only [run_seq, run_reg, run_mv, run_ops_nil, run_ret, B0, reduceIte, reduceEqDiff]
        have e31 := some_inj hF29
        subst e31
        have ho32 := hr12 _ rfl
        have hk33 := hk10
        rw [ho32] at hk33
        dsimp only [jnO] at hk33
        apply hR16
        have he := some_inj hk33
        subst he
        simp only [end_ret1, B0, reduceIte, reduceEqDiff]
        exact rfl
      rw [iteF hc30] at hF29
      simp only [run_skip, run_reg, f23, run_mv, run_bin, put1_some, xadd, run_ops_nil, run_blk, f24, run_nil, B0, reduceIte, reduceEqDiff]
      have e34 := some_inj hF29
      exact hN14 _ _ _ e34.symm ⟨f22, rfl, rfl, hS21⟩
    rw [iteF hc26] at hF11
    simp only [run_exit, out_code, out_nil, B0, reduceIte, reduceEqDiff]
    have e35 := some_inj hF11
    exact hK15 _ _ _ e35.symm ⟨f22, f23, f24, hS21⟩
  rintro ⟨s37, s38⟩ fr39 h40 rfl ⟨f42, f43, f44, hS41⟩
  dsimp only [jnO] at hk10
  dsimp only at *
  unfold laws_heldIntS_j1 at hk10
  simp only [run_seq, run_reg, f43, run_mv, run_ops_nil, run_ret, B0, reduceIte, reduceEqDiff]
  have he := some_inj hk10
  subst he
  simp only [end_ret1, B0, reduceIte, reduceEqDiff]
  exact rfl
theorem laws_heldRowS_x {W : Nat → Bool} {h : Heap} (hW : ∀ b,
    (geL h.length) b → W b = true) (k : Nat) (a_0 : List Row) (k_1 : Int) (r : Int) (hF : laws_heldRowS k a_0 k_1 = some r) : Ret E W 85 [lst Row.cells a_0,
    .int .i64 k_1] h (fun v h' => cut h.length h' E.sz false 9 v = some (.int .i64 r)) := by
  refine Ret.of (fn := x85) rfl (Run.of ?_)
  unfold laws_heldRowS at hF
  have zf0 : argFr [lst Row.cells a_0, .int .i64 k_1] 0 = lst Row.cells a_0 := rfl
  have zf1 : argFr [lst Row.cells a_0, .int .i64 k_1] 1 = .int .i64 k_1 := rfl
  generalize argFr [lst Row.cells a_0, .int .i64 k_1] = fr0 at zf0 zf1 ⊢
  have hS : Sep h (geL h.length) [] := Sep.nil h
  simp only [x85, run_seq, run_reg, run_mv, run_ops_nil, x85_8, B0, reduceIte, reduceEqDiff]
  obtain ⟨oc7, hX9, hk10⟩ := jn_some hF
  simp only [x85_7]
  refine loopF_j (σ := Int × Int) (fun s43 => laws_heldRowS_b1 a_0 s43.1 s43.2)
      (fun s fr' h' => fr' 0 = lst Row.cells a_0 ∧ fr' 1 = .int .i64 s.1 ∧ fr' 5 = .int .i64 s.2 ∧ Sep h' (geL h.length) ([])) hX9 ⟨zf0, zf1, rfl, hS⟩ (fun _ _ _ h => h) ?_ ?_
  · rintro ⟨s3, s4⟩ fr19 h20 ⟨f22, f23, f24, hS21⟩ oc8 hF11 hr12 Q13 hN14 hK15 hR16 hE17
    dsimp only at *
    unfold laws_heldRowS_b1 at hF11
    simp only [x85_5, run_seq, run_reg, f24, run_mv, f22, run_len, put1_some, xlen_lst, run_bin, xlss, run_ops_nil, run_cond, B0, reduceIte, reduceEqDiff]
    refine cond_split (t := (decide (s4 < (List.length a_0 : Int)))) (fun hc26 => ?_) (fun hc26 => ?_)
    · rw [iteT hc26] at hF11
      obtain ⟨x27, hx28, hF29⟩ := bind_some' hF11
      simp only [run_skip, x85_4, run_seq, run_block, x85_3, run_reg, f22, run_mv, f24, run_ia, B0, reduceIte, reduceEqDiff]
      refine put1_eq (v := .ref (Row.cells x27) 0) (xia_lst hx28 rfl) ?_
      simp only [run_fa, put1_some, Nat.reduceAdd, Nat.zero_add, Nat.add_zero, xfa_ref, run_ld, B0, reduceIte, reduceEqDiff]
      refine put1_eq (v := .int .i64 x27.Epoch) rfl ?_
      simp only [f23, run_mv, run_bin, put1_some, xneq, run_ops_nil, run_cond, B0, reduceIte, reduceEqDiff]
      refine cond_split (t := (decide (x27.Epoch ≠ s3))) (fun hc30 => ?_) (fun hc30 => ?_)
      · rw [iteT hc30] at hF29
        simp only [run_seq, run_reg, run_mv, run_ops_nil, run_ret, B0, reduceIte, reduceEqDiff]
        have e31 := some_inj hF29
        subst e31
        have ho32 := hr12 _ rfl
        have hk33 := hk10
        rw [ho32] at hk33
        dsimp only [jnO] at hk33
        apply hR16
        have he := some_inj hk33
        subst he
        simp only [end_ret1, B0, reduceIte, reduceEqDiff]
        exact rfl
      rw [iteF hc30] at hF29
      obtain ⟨x34, hx35, hF36⟩ := bind_some' hF29
      simp only [run_skip, x85_2, run_seq, run_reg, f23, run_mv, run_bin, put1_some, xadd, run_ops_nil, x85_1, f22, f24, run_ia, B0, reduceIte, reduceEqDiff]
      refine put1_eq (v := .ref (Row.cells x34) 0) (xia_lst hx35 rfl) ?_
      simp only [run_fa, put1_some, Nat.reduceAdd, Nat.zero_add, Nat.add_zero, xfa_ref, run_ld, B0, reduceIte, reduceEqDiff]
      refine put1_eq (v := .int .i64 x34.Value) rfl ?_
      simp only [run_mv, run_bin, put1_some, xneq, run_ops_nil, run_cond, B0, reduceIte, reduceEqDiff]
      refine cond_split (t := (decide (x34.Value ≠ (IntKind.wrap .i64 (s3 + 1))))) (fun hc37 => ?_) (fun hc37 => ?_)
      · rw [iteT hc37] at hF36
        simp only [run_seq, run_reg, run_mv, run_ops_nil, run_ret, B0, reduceIte, reduceEqDiff]
        have e38 := some_inj hF36
        subst e38
        have ho39 := hr12 _ rfl
        have hk40 := hk10
        rw [ho39] at hk40
        dsimp only [jnO] at hk40
        apply hR16
        have he := some_inj hk40
        subst he
        simp only [end_ret1, B0, reduceIte, reduceEqDiff]
        exact rfl
      rw [iteF hc37] at hF36
      simp only [run_skip, run_reg, run_mv, run_bin, put1_some, xadd, run_ops_nil, run_blk, f24, run_nil, B0, reduceIte, reduceEqDiff]
      have e41 := some_inj hF36
      exact hN14 _ _ _ e41.symm ⟨f22, rfl, rfl, hS21⟩
    rw [iteF hc26] at hF11
    simp only [run_exit, out_code, out_nil, B0, reduceIte, reduceEqDiff]
    have e42 := some_inj hF11
    exact hK15 _ _ _ e42.symm ⟨f22, f23, f24, hS21⟩
  rintro ⟨s44, s45⟩ fr46 h47 rfl ⟨f49, f50, f51, hS48⟩
  dsimp only [jnO] at hk10
  dsimp only at *
  unfold laws_heldRowS_j1 at hk10
  simp only [run_seq, run_reg, f50, run_mv, run_ops_nil, run_ret, B0, reduceIte, reduceEqDiff]
  have he := some_inj hk10
  subst he
  simp only [end_ret1, B0, reduceIte, reduceEqDiff]
  exact rfl
theorem laws_heldReplicaS_x {W : Nat → Bool} {h : Heap} (hW : ∀ b,
    (geL h.length) b → W b = true) (k : Nat) (a_0 : List Replica) (k_1 : Int) (r : Int) (hF : laws_heldReplicaS k a_0 k_1 = some r) : Ret E W 61 [lst Replica.cells a_0,
    .int .i64 k_1] h (fun v h' => cut h.length h' E.sz false 9 v = some (.int .i64 r)) := by
  refine Ret.of (fn := x61) rfl (Run.of ?_)
  unfold laws_heldReplicaS at hF
  have zf0 : argFr [lst Replica.cells a_0, .int .i64 k_1] 0 = lst Replica.cells a_0 := rfl
  have zf1 : argFr [lst Replica.cells a_0, .int .i64 k_1] 1 = .int .i64 k_1 := rfl
  generalize argFr [lst Replica.cells a_0, .int .i64 k_1] = fr0 at zf0 zf1 ⊢
  have hS : Sep h (geL h.length) [] := Sep.nil h
  simp only [x61, run_seq, run_reg, run_mv, run_ops_nil, x61_10, B0, reduceIte, reduceEqDiff]
  obtain ⟨oc7, hX9, hk10⟩ := jn_some hF
  simp only [x61_9]
  refine loopF_j (σ := Int × Int) (fun s53 => laws_heldReplicaS_b1 k a_0 s53.1 s53.2)
      (fun s fr' h' => fr' 0 = lst Replica.cells a_0 ∧ fr' 1 = .int .i64 s.1 ∧ fr' 5 = .int .i64 s.2 ∧ Sep h' (geL h.length) ([])) hX9 ⟨zf0, zf1, rfl, hS⟩ (fun _ _ _ h => h) ?_ ?_
  · rintro ⟨s3, s4⟩ fr19 h20 ⟨f22, f23, f24, hS21⟩ oc8 hF11 hr12 Q13 hN14 hK15 hR16 hE17
    dsimp only at *
    unfold laws_heldReplicaS_b1 at hF11
    simp only [x61_7, run_seq, run_reg, f24, run_mv, f22, run_len, put1_some, xlen_lst, run_bin, xlss, run_ops_nil, run_cond, B0, reduceIte, reduceEqDiff]
    refine cond_split (t := (decide (s4 < (List.length a_0 : Int)))) (fun hc26 => ?_) (fun hc26 => ?_)
    · rw [iteT hc26] at hF11
      obtain ⟨x27, hx28, hF29⟩ := bind_some' hF11
      simp only [run_skip, x61_6, run_seq, run_block, x61_5, run_reg, f22, run_mv, f24, run_ia, B0, reduceIte, reduceEqDiff]
      refine put1_eq (v := .ref (Replica.cells x27) 0) (xia_lst hx28 rfl) ?_
      simp only [run_fa, put1_some, Nat.reduceAdd, Nat.zero_add, Nat.add_zero, xfa_ref, run_ld, B0, reduceIte, reduceEqDiff]
      refine put1_eq (v := lst Row.cells x27.Log) rfl ?_
      obtain ⟨v30, hx31, hF32⟩ := bind_some' hF29
      simp only [f23, run_mv, run_call, B0, reduceIte, reduceEqDiff]
      refine call1 rfl (mapM1 snap_lst (mapM1 snap_int mapM0)) (laws_heldRowS_x (fun b hb => decide_eq_true hb) k x27.Log s3 v30 hx31) ?_
      simp only [run_mv, run_ops_nil, x61_4, run_seq, run_reg, run_bin, put1_some, xlss, run_cond, B0, reduceIte, reduceEqDiff]
      refine cond_split (t := (decide (v30 < 0))) (fun hc33 => ?_) (fun hc33 => ?_)
      · rw [iteT hc33] at hF32
        simp only [run_seq, run_reg, run_mv, run_ops_nil, run_ret, B0, reduceIte, reduceEqDiff]
        have e34 := some_inj hF32
        subst e34
        have ho35 := hr12 _ rfl
        have hk36 := hk10
        rw [ho35] at hk36
        dsimp only [jnO] at hk36
        apply hR16
        have he := some_inj hk36
        subst he
        simp only [end_ret1, B0, reduceIte, reduceEqDiff]
        exact rfl
      rw [iteF hc33] at hF32
      obtain ⟨x37, hx38, hF39⟩ := bind_some' hF32
      simp only [run_skip, x61_3, run_seq, run_reg, f22, run_mv, f24, run_ia, B0, reduceIte, reduceEqDiff]
      refine put1_eq (v := .ref (Replica.cells x37) 0) (xia_lst hx38 rfl) ?_
      simp only [run_fa, put1_some, Nat.reduceAdd, Nat.zero_add, Nat.add_zero, xfa_ref, run_ld, B0, reduceIte, reduceEqDiff]
      refine put1_eq (v := .int .i64 x37.Epoch) rfl ?_
      simp only [run_mv, run_bin, put1_some, xneq, run_ops_nil, run_cond, B0, reduceIte, reduceEqDiff]
      refine cond_split (t := (decide (x37.Epoch ≠ v30))) (fun hc40 => ?_) (fun hc40 => ?_)
      · rw [iteT hc40] at hF39
        simp only [run_seq, run_reg, run_mv, run_ops_nil, run_ret, B0, reduceIte, reduceEqDiff]
        have e41 := some_inj hF39
        subst e41
        have ho42 := hr12 _ rfl
        have hk43 := hk10
        rw [ho42] at hk43
        dsimp only [jnO] at hk43
        apply hR16
        have he := some_inj hk43
        subst he
        simp only [end_ret1, B0, reduceIte, reduceEqDiff]
        exact rfl
      rw [iteF hc40] at hF39
      obtain ⟨x44, hx45, hF46⟩ := bind_some' hF39
      simp only [run_skip, x61_2, run_seq, run_reg, run_mv, run_bin, put1_some, xadd, run_ops_nil, x61_1, f22, f24, run_ia, B0, reduceIte, reduceEqDiff]
      refine put1_eq (v := .ref (Replica.cells x44) 0) (xia_lst hx45 rfl) ?_
      simp only [run_fa, put1_some, Nat.reduceAdd, Nat.zero_add, Nat.add_zero, xfa_ref, run_ld, B0, reduceIte, reduceEqDiff]
      refine put1_eq (v := .int .i64 x44.Known) rfl ?_
      simp only [run_mv, run_bin, put1_some, xneq, run_ops_nil, run_cond, B0, reduceIte, reduceEqDiff]
      refine cond_split (t := (decide (x44.Known ≠ (IntKind.wrap .i64 (v30 + 1))))) (fun hc47 => ?_) (fun hc47 => ?_)
      · rw [iteT hc47] at hF46
        simp only [run_seq, run_reg, run_mv, run_ops_nil, run_ret, B0, reduceIte, reduceEqDiff]
        have e48 := some_inj hF46
        subst e48
        have ho49 := hr12 _ rfl
        have hk50 := hk10
        rw [ho49] at hk50
        dsimp only [jnO] at hk50
        apply hR16
        have he := some_inj hk50
        subst he
        simp only [end_ret1, B0, reduceIte, reduceEqDiff]
        exact rfl
      rw [iteF hc47] at hF46
      simp only [run_skip, run_reg, run_mv, run_bin, put1_some, xadd, run_ops_nil, run_blk, f24, run_nil, B0, reduceIte, reduceEqDiff]
      have e51 := some_inj hF46
      exact hN14 _ _ _ e51.symm ⟨f22, rfl, rfl, hS21⟩
    rw [iteF hc26] at hF11
    simp only [run_exit, out_code, out_nil, B0, reduceIte, reduceEqDiff]
    have e52 := some_inj hF11
    exact hK15 _ _ _ e52.symm ⟨f22, f23, f24, hS21⟩
  rintro ⟨s54, s55⟩ fr56 h57 rfl ⟨f59, f60, f61, hS58⟩
  dsimp only [jnO] at hk10
  dsimp only at *
  unfold laws_heldReplicaS_j1 at hk10
  simp only [run_seq, run_reg, f60, run_mv, run_ops_nil, run_ret, B0, reduceIte, reduceEqDiff]
  have he := some_inj hk10
  subst he
  simp only [end_ret1, B0, reduceIte, reduceEqDiff]
  exact rfl
end Go.Proofs.Ytefgfcalgjmhjaa.X
namespace Go.Proofs.Ytefgfcalgjmhjaa.X
open Go
open Nat (reduceEqDiff)
theorem laws_heldGroup_x {W : Nat → Bool} {h : Heap} (hW : ∀ b,
    (geL h.length) b → W b = true) (k : Nat) (a_0 : Group) (k_1 : Int) (r : Int) (hF : laws_heldGroup k a_0 k_1 = some r) : Ret E W 14 [.agg [.int .i64 a_0.Epoch,
    .int .i64 a_0.Leader, lst cI a_0.InStep, .int .i64 a_0.High, lst Replica.cells a_0.Replicas],
    .int .i64 k_1] h (fun v h' => cut h.length h' E.sz false 9 v = some (.int .i64 r)) := by
  refine Ret.of (fn := x14) rfl (Run.of ?_)
  unfold laws_heldGroup at hF
  have zf0 : argFr [.agg [.int .i64 a_0.Epoch, .int .i64 a_0.Leader, lst cI a_0.InStep, .int .i64 a_0.High, lst Replica.cells a_0.Replicas],
      .int .i64 k_1] 0 = .agg [.int .i64 a_0.Epoch, .int .i64 a_0.Leader, lst cI a_0.InStep, .int .i64 a_0.High, lst Replica.cells a_0.Replicas] := rfl
  have zf1 : argFr [.agg [.int .i64 a_0.Epoch, .int .i64 a_0.Leader, lst cI a_0.InStep, .int .i64 a_0.High, lst Replica.cells a_0.Replicas], .int .i64 k_1] 1 = .int .i64 k_1 := rfl
  generalize argFr [.agg [.int .i64 a_0.Epoch, .int .i64 a_0.Leader, lst cI a_0.InStep, .int .i64 a_0.High, lst Replica.cells a_0.Replicas], .int .i64 k_1] = fr0 at zf0 zf1 ⊢
  have hS : Sep h (geL h.length) [] := Sep.nil h
  simp only [x14, run_seq, run_reg, run_box, zf0, B0, reduceIte, reduceEqDiff]
  refine put2_boxC (cs := [.int .i64 a_0.Epoch, .int .i64 a_0.Leader, lst cI a_0.InStep, .int .i64 a_0.High, lst Replica.cells a_0.Replicas]) hS rfl rfl rfl (fun b1 h2 hS3 => ?_)
  simp only [run_mv, run_ops_nil, B0, reduceIte, reduceEqDiff]
  refine frz_stepC hS3 hW (by simp only [B0, reduceIte, reduceEqDiff]) (fun h5 hS6 => ?_)
  simp only [run_frz_nil, x14_4, run_seq, run_reg, run_fa, put1_some, Nat.reduceAdd, Nat.zero_add, Nat.add_zero, xfa_ref, run_ld, B0, reduceIte, reduceEqDiff]
  refine put1_eq (v := lst cI a_0.InStep) rfl ?_
  obtain ⟨v7, hx8, hF9⟩ := bind_some' hF
  simp only [zf1, run_mv, run_call, B0, reduceIte, reduceEqDiff]
  refine call1 rfl (mapM1 snap_lst (mapM1 snap_int mapM0)) (laws_heldIntS_x (fun b hb => decide_eq_true hb) k a_0.InStep k_1 v7 hx8) ?_
  simp only [run_mv, run_ops_nil, x14_3, run_seq, run_reg, run_bin, put1_some, xlss, run_cond, B0, reduceIte, reduceEqDiff]
  refine cond_split (t := (decide (v7 < 0))) (fun hc10 => ?_) (fun hc10 => ?_)
  · rw [iteT hc10] at hF9
    simp only [run_seq, run_reg, run_mv, run_ops_nil, run_ret, B0, reduceIte, reduceEqDiff]
    have he := some_inj hF9
    subst he
    simp only [end_ret1, B0, reduceIte, reduceEqDiff]
    exact rfl
  rw [iteF hc10] at hF9
  simp only [run_skip, x14_2, run_seq, run_reg, run_fa, put1_some, Nat.reduceAdd, Nat.zero_add, Nat.add_zero, xfa_ref, run_ld, B0, reduceIte, reduceEqDiff]
  refine put1_eq (v := lst Replica.cells a_0.Replicas) rfl ?_
  obtain ⟨v11, hx12, hF13⟩ := bind_some' hF9
  simp only [run_mv, run_call, B0, reduceIte, reduceEqDiff]
  refine call1 rfl (mapM1 snap_lst (mapM1 snap_int mapM0)) (laws_heldReplicaS_x (fun b hb => decide_eq_true hb) k a_0.Replicas v7 v11 hx12) ?_
  simp only [run_mv, run_ops_nil, x14_1, run_seq, run_reg, run_bin, put1_some, xlss, run_cond, B0, reduceIte, reduceEqDiff]
  refine cond_split (t := (decide (v11 < 0))) (fun hc14 => ?_) (fun hc14 => ?_)
  · rw [iteT hc14] at hF13
    simp only [run_seq, run_reg, run_mv, run_ops_nil, run_ret, B0, reduceIte, reduceEqDiff]
    have he := some_inj hF13
    subst he
    simp only [end_ret1, B0, reduceIte, reduceEqDiff]
    exact rfl
  rw [iteF hc14] at hF13
  simp only [run_skip, run_seq, run_reg, run_mv, run_ops_nil, run_ret, B0, reduceIte, reduceEqDiff]
  have he := some_inj hF13
  subst he
  simp only [end_ret1, B0, reduceIte, reduceEqDiff]
  exact rfl
theorem impl_in_x {W : Nat → Bool} {h : Heap} (hW : ∀ b,
    (geL h.length) b → W b = true) (n_0 : Int) (low_1 : Int) (high_2 : Int) (r : Bool) (hF : some (impl_in n_0 low_1 high_2) = some r) : Ret E W 64 [.int .i64 n_0,
    .int .i64 low_1, .int .i64 high_2] h (fun v h' => cut h.length h' E.sz false 9 v = some (.bool r)) := by
  refine Ret.of (fn := x64) rfl (Run.of ?_)
  unfold impl_in at hF
  have zf0 : argFr [.int .i64 n_0, .int .i64 low_1, .int .i64 high_2] 0 = .int .i64 n_0 := rfl
  have zf1 : argFr [.int .i64 n_0, .int .i64 low_1, .int .i64 high_2] 1 = .int .i64 low_1 := rfl
  have zf2 : argFr [.int .i64 n_0, .int .i64 low_1, .int .i64 high_2] 2 = .int .i64 high_2 := rfl
  generalize argFr [.int .i64 n_0, .int .i64 low_1, .int .i64 high_2] = fr0 at zf0 zf1 zf2 ⊢
  have hS : Sep h (geL h.length) [] := Sep.nil h
  simp only [x64, run_seq, run_reg, run_mv, run_ops_nil, x64_1, zf0, zf1, run_bin, put1_some, xgeq, B0, reduceIte, reduceEqDiff]
  refine ops_j 4 (fun fr' h' => Sep h' (geL h.length) ([]) ∧ fr' 14 = .bool ((decide (low_1 ≤ n_0)) && (decide (n_0 ≤ high_2)))) (fun Q1 hN2 => ?_) ?_
  · simp only [List.take_succ_cons, List.take_zero]
    simp only [run_guard (g := 10), B0, reduceIte, reduceEqDiff]
    refine guard_split (t := (decide (low_1 ≤ n_0))) (fun hg3 => ?_) (fun hg3 => ?_)
    · simp only [hg3, run_guard (g := 10), guard_true, zf0, run_mv, zf2, run_bin, put1_some, xleq, run_pick, xpick_t, run_ops_nil, run_nil, B0, reduceIte, reduceEqDiff]
      exact hN2 _ _ ⟨hS, by rw [andT hg3]; simp only [B0, reduceIte, reduceEqDiff]⟩
    · simp only [hg3, run_guard (g := 10), guard_off, run_pick, put1_some, xpick_f, run_ops_nil, run_nil, B0, reduceIte, reduceEqDiff]
      exact hN2 _ _ ⟨hS, by rw [andF hg3]; simp only [B0, reduceIte, reduceEqDiff]⟩
  rintro fr4 h6 ⟨hS7, f5⟩
  simp only [List.drop_succ_cons, List.drop_zero]
  simp only [f5, run_mv, run_ops_nil, run_ret, B0, reduceIte, reduceEqDiff]
  have he := some_inj hF
  subst he
  simp only [end_ret1, B0, reduceIte, reduceEqDiff]
  exact rfl
theorem impl_newGroup_x {W : Nat → Bool} {h : Heap} (hW : ∀ b,
    (geL h.length) b → W b = true) (replicas_0 : Int) (r : Group) (hF : impl_newGroup replicas_0 = some r) : Ret E W 65 [.int .i64 replicas_0] h
    (fun v h' => ∃ rv0_2 rc0_2 rv0_4 rc0_4, v = .agg [.int .i64 r.Epoch, .int .i64 r.Leader, rv0_2, .int .i64 r.High,
    rv0_4] ∧ SlF cI 1 3 rv0_2 r.InStep rc0_2 ∧ SlN Replica.R 3 51 rv0_4 r.Replicas rc0_4 ∧ Sep h' (geL h.length) (rc0_2 ++ (rc0_4 ++ ([])))) := by
  refine Ret.of (fn := x65) rfl (Run.of ?_)
  unfold impl_newGroup at hF
  have zf0 : argFr [.int .i64 replicas_0] 0 = .int .i64 replicas_0 := rfl
  generalize argFr [.int .i64 replicas_0] = fr0 at zf0 ⊢
  have hS : Sep h (geL h.length) [] := Sep.nil h
  simp only [x65, run_seq, run_reg, run_new, B0, reduceIte, reduceEqDiff]
  refine put2_newC hS (fun b1 h2 hS3 => ?_)
  obtain ⟨l5, hx6, hF7⟩ := bind_some' hF
  simp only [run_ops_nil, x65_6, run_seq, run_reg, zf0, run_mv, run_mkS, B0, reduceIte, reduceEqDiff]
  refine put2_mkSN (R := Replica.R) (e := (Replica.mk [] (0 : Int) (0 : Int))) (z := [.nil, .int .i64 0,
      .int .i64 0]) hS3 hx6 (Replica.RI (x := (Replica.mk [] 0 0)) SlF.nil) rfl (fun v8 c9 h10 hv11 hS12 => ?_)
  simp only [run_build, evp, B0, reduceIte, reduceEqDiff]
  refine put1_eq (v := .agg [.int .i64 0, .int .i64 0, .nil, .int .i64 0, v8]) (pbuild_some (fill1 (us := [v8]) (vs := [.int .i64 0, .int .i64 0, .nil, .int .i64 0,
      v8]) (cells_one (SlN.one hv11)) rfl (Nat.le_of_ble_eq_true rfl) (all_c (SlN.one hv11) all_n) rfl fill0)) ?_
  simp only [run_new, B0, reduceIte, reduceEqDiff]
  refine put2_newC hS12 (fun b14 h15 hS16 => ?_)
  simp only [run_st, B0, reduceIte, reduceEqDiff]
  refine put2_stCx (us := [.int .i64 0, .int .i64 0, .nil, .int .i64 0, v8]) rfl (cs' := [.int .i64 0, .int .i64 0, .nil, .int .i64 0,
      v8]) hS16 hW rfl (all_c rfl (all_c rfl (all_c rfl (all_c rfl (all_c (SlN.one hv11) all_n))))) (Nat.le_of_ble_eq_true rfl) rfl (fun h18 hS19 => ?_)
  simp only [run_ops_nil, x65_5, run_seq, run_reg, zf0, run_mv, B0, reduceIte, reduceEqDiff]
  obtain ⟨oc32, hX34, hk35⟩ := jn_some hF7
  simp only [x65_4]
  refine rangeN_j (σ := Group) (fun i30 s70 => impl_newGroup_b1 l5 i30 s70) (fun s fr' h' => ∃ v27 c28,
      fr' 2 = .ptr b1 0 ∧ fr' 3 = .ptr b14 0 ∧ SlF cI 1 3 v27 s.InStep c28 ∧ Sep h' (geL h.length) ([Blk1 b1 [.int .i64 0, .int .i64 0, .nil, .int .i64 0,
      .nil] 29] ++ ([Blk1 b14 [.int .i64 s.Epoch, .int .i64 s.Leader, v27, .int .i64 s.High, v8] 29] ++ (c28 ++ (c9 ++ ([])))))) hX34 ⟨.nil, [], rfl, rfl, SlF.nil,
      ((Sep.m2 (Sep.m1 (Sep.m1 hS19))) : Sep _ (geL h.length) ([Blk1 b1 [.int .i64 0, .int .i64 0, .nil, .int .i64 0, .nil] 29] ++ ([Blk1 b14 [.int .i64 0, .int .i64 0, .nil,
      .int .i64 0, v8] 29] ++ (c9 ++ ([])))))⟩ (by simp only [B0, reduceIte, reduceEqDiff]) (by simp only [B0, reduceIte,
      reduceEqDiff]) (fun _ _ _ h => h) rfl rfl (fun _ _ _ _ h => h) (fun _ _ _ _ h => h) (fun _ _ _ _ h => h) (by decide) ?_ ?_
  · rintro i30 s25 fr44 h45 hx49 ⟨v27, c28, f47, f48, hv29, hS46⟩ f50 f51 oc33 hF36 hr37 Q38 hN39 hB43 hK40 hR41 hE42
    unfold impl_newGroup_b1 at hF36
    simp only [x65_2, run_seq, run_reg, f50, run_mv, run_ops_nil, x65_1, f48, run_fa, put1_some, Nat.reduceAdd, Nat.zero_add, Nat.add_zero, xfa_ptr, run_ld, B0, reduceIte,
        reduceEqDiff]
    refine put1_eq (v := v27) ((xld_b (Sep.bk _ _ _ (Sep.m1 hS46))).trans rfl) ?_
    simp only [run_mv, run_buildS, evp, B0, reduceIte, reduceEqDiff]
    refine put2_buildSF (n := 1) (f := cI) [(i30 : Int)] hS46 rfl rfl (fun v52 c53 h54 hv55 hS56 => ?_)
    simp only [run_app, B0, reduceIte, reduceEqDiff]
    obtain ⟨l58, hx59, hF60⟩ := bind_some' hF36
    refine put2_appF (f := cI) hv29 (Sep.m3 hS56) hW (fun _ => rfl) (fun _ => rfl) (SlF.first hv55 hS56 (fun _ => rfl)) hx59 (fun v61 c62 h63 hv64 hS65 => ?_)
    simp only [f48, run_fa, put1_some, Nat.reduceAdd, Nat.zero_add, Nat.add_zero, xfa_ptr, run_st, B0, reduceIte, reduceEqDiff]
    refine put2_stCx (us := [v61]) (cells_one (SlF.one hv64)) (cs' := [.int .i64 s25.Epoch, .int .i64 s25.Leader, v61, .int .i64 s25.High,
        v8]) (Sep.m3 hS65) hW rfl (all_c (SlF.one hv64) all_n) (Nat.le_of_ble_eq_true rfl) rfl (fun h67 hS68 => ?_)
    simp only [run_ops_nil, run_nil, B0, reduceIte, reduceEqDiff]
    have e69 := some_inj hF60
    exact hN39 _ _ _ e69.symm ⟨v61, c62, f47, f48, hv64, (Sep.m3 (Sep.m2 (Sep.m2 (Sep.m3 (Sep.dc (Sep.m2 hS68))))))⟩ (f50) (f51)
  rintro s71 fr76 h77 rfl ⟨v73, c74, f79, f80, hv75, hS78⟩
  dsimp only [jnO] at hk35
  unfold impl_newGroup_j1 at hk35
  simp only [run_seq, run_reg, f80, run_ld, B0, reduceIte, reduceEqDiff]
  refine put1_eq (v := .agg [.int .i64 s71.Epoch, .int .i64 s71.Leader, v73, .int .i64 s71.High, v8]) ((xld_bs (Sep.bk _ _ _ (Sep.m1 hS78))).trans rfl) ?_
  simp only [f79, run_st, B0, reduceIte, reduceEqDiff]
  refine put2_stCx (us := [.int .i64 s71.Epoch, .int .i64 s71.Leader, v73, .int .i64 s71.High, v8]) rfl (cs' := [.int .i64 s71.Epoch, .int .i64 s71.Leader, v73,
      .int .i64 s71.High, v8]) hS78 hW rfl (all_c rfl (all_c rfl (all_c (SlF.one hv75) (all_c rfl (all_c (SlN.one hv11) all_n))))) (Nat.le_of_ble_eq_true rfl) rfl
      (fun h81 hS82 => ?_)
  simp only [run_ops_nil, run_ret, B0, reduceIte, reduceEqDiff]
  have he := some_inj hk35
  subst he
  refine end_ret_cell (bb := b1) (oo := 0) (v := .agg [.int .i64 s71.Epoch, .int .i64 s71.Leader, v73, .int .i64 s71.High, v8]) (by simp only [f79, B0, reduceIte,
      reduceEqDiff]) ((xld_bs (Sep.bk _ _ _ hS82)).trans rfl) ?_
  exact ⟨v73, c74, v8, c9, by first | trivial | rfl, hv75, hv11, (Sep.m1 (Sep.m1 (Sep.dc ((Sep.dc (hS82))))))⟩
theorem impl_Group_know_x {W : Nat → Bool} {h : Heap} {lo : Nat → Prop} {S0 : List Obj} (hW : ∀ b,
    lo b → W b = true) (pb0 : Nat) (g_0 : Group) (pv0_2 : XV) (pc0_2 : List Obj) (ph0_2 : SlF cI 1 3 pv0_2 g_0.InStep pc0_2) (pv0_4 : XV) (pc0_4 : List Obj)
    (ph0_4 : SlN Replica.R 3 51 pv0_4 g_0.Replicas pc0_4) (k_1 : Int) (r : Group) (hF : impl_Group_know g_0 k_1 = some r) (hS : Sep h lo ([Blk1 pb0 [.int .i64 g_0.Epoch,
    .int .i64 g_0.Leader, pv0_2, .int .i64 g_0.High, pv0_4] 29] ++ (pc0_2 ++ (pc0_4 ++ (S0))))) : Ret E W 54 [.ptr pb0 0, .int .i64 k_1] h (fun v h' => ∃ ic0_2 ic0_4,
    v = .tup [] ∧ SlF cI 1 3 pv0_2 r.InStep ic0_2 ∧ SlN Replica.R 3 51 pv0_4 r.Replicas ic0_4 ∧ Sep h' lo ([Blk1 pb0 [.int .i64 r.Epoch, .int .i64 r.Leader, pv0_2,
    .int .i64 r.High, pv0_4] 29] ++ (ic0_2 ++ (ic0_4 ++ (S0))))) := by
  refine Ret.of (fn := x54) rfl (Run.of ?_)
  unfold impl_Group_know at hF
  have zf0 : argFr [.ptr pb0 0, .int .i64 k_1] 0 = .ptr pb0 0 := rfl
  have zf1 : argFr [.ptr pb0 0, .int .i64 k_1] 1 = .int .i64 k_1 := rfl
  generalize argFr [.ptr pb0 0, .int .i64 k_1] = fr0 at zf0 zf1 ⊢
  simp only [x54, run_seq, run_draw, zf0, d4_mv, put1d_some, d4_chk, xchk_ptr, d4_fa, Nat.reduceAdd, Nat.zero_add, Nat.add_zero, xfa_ptr, d4_ld, B0, reduceIte, reduceEqDiff]
  refine put1d_eq (v := pv0_4) ((xld_b (Sep.bk _ _ _ hS)).trans rfl) ?_
  simp only [zf1, d4_mv, put1d_some, zf0, d4_chk, xchk_ptr, d4_fa, Nat.reduceAdd, Nat.zero_add, Nat.add_zero, xfa_ptr, d4_ld, B0, reduceIte, reduceEqDiff]
  refine put1d_eq (v := .int .i64 g_0.Epoch) ((xld_b (Sep.bk _ _ _ hS)).trans rfl) ?_
  obtain ⟨x1, hx2, hF3⟩ := bind_some' hF
  simp only [d4_ia, B0, reduceIte, reduceEqDiff]
  obtain ⟨b4, hb5⟩ := SlN.isrow ph0_4 (geti_ne hx2)
  refine put1d_eq (SlN.ia ph0_4 hb5 hx2) ?_
  obtain ⟨c8, cs9, os10, hv11, hR12, hS13⟩ := SlG.opn (SlN.toG ph0_4 hb5 Replica.RO.len) hx2 hk_nil Replica.RO.len (Sep.m2 hS)
  obtain ⟨v15, c16, hv17, rfl, rfl⟩ := hR12
  have hS14 := Sep.no1 hS13
  simp only [d4_fa, put1d_some, Nat.reduceAdd, Nat.zero_add, Nat.add_zero, xfa_ptr, d3_st, B0, reduceIte, reduceEqDiff]
  refine put2d_stGx (us := [.int .i64 g_0.Epoch]) (o := 1) (cs' := [v15, .int .i64 g_0.Epoch,
      .int .i64 x1.Known]) rfl hv11 rfl hx2 hS14 hW rfl rfl (Nat.le_of_ble_eq_true rfl) rfl (fun c19 h6 hv20 hS7 => ?_)
  simp only [run_draw_nil, x54_1, run_draw, zf0, d4_mv, put1d_some, d4_chk, xchk_ptr, d4_fa, Nat.reduceAdd, Nat.zero_add, Nat.add_zero, xfa_ptr, d4_ld, B0, reduceIte, reduceEqDiff]
  refine put1d_eq (v := pv0_4) ((xld_b (Sep.bk _ _ _ (Sep.m2 hS7))).trans rfl) ?_
  simp only [zf1, d4_mv, put1d_some, zf0, d4_chk, xchk_ptr, d4_fa, Nat.reduceAdd, Nat.zero_add, Nat.add_zero, xfa_ptr, d4_ld, B0, reduceIte, reduceEqDiff]
  refine put1d_eq (v := pv0_4) ((xld_b (Sep.bk _ _ _ (Sep.m2 hS7))).trans rfl) ?_
  simp only [zf1, d4_mv, put1d_some, d4_ia, B0, reduceIte, reduceEqDiff]
  refine put1d_eq (SlG.ia hv20 hx2) ?_
  simp only [d4_fa, put1d_some, Nat.reduceAdd, Nat.zero_add, Nat.add_zero, xfa_ptr, d4_ld, B0, reduceIte, reduceEqDiff]
  refine put1d_eq (v := v15) ((SlG.ld (o := 0) hv20 rfl hx2 hS7 (Nat.le_of_ble_eq_true rfl)).trans rfl) ?_
  simp only [d4_len, put1d_some, SlF.plen hv17, d4_ia, B0, reduceIte, reduceEqDiff]
  refine put1d_eq (SlG.ia hv20 hx2) ?_
  simp only [d4_fa, put1d_some, Nat.reduceAdd, Nat.zero_add, Nat.add_zero, xfa_ptr, d3_st, B0, reduceIte, reduceEqDiff]
  refine put2d_stGx (us := [.int .i64 (List.length x1.Log : Int)]) (o := 2) (cs' := [v15, .int .i64 g_0.Epoch,
      .int .i64 (List.length x1.Log : Int)]) rfl hv20 rfl hx2 hS7 hW rfl rfl (Nat.le_of_ble_eq_true rfl) rfl (fun c23 h21 hv24 hS22 => ?_)
  simp only [run_draw_nil, run_nil, B0, reduceIte, reduceEqDiff]
  obtain ⟨c25, hv26, hS27⟩ := SlG.cls (e' := (Replica.mk x1.Log g_0.Epoch (List.length x1.Log : Int))) (c := c23) (os := c16) hv24 rfl hx2 hk_nil (Replica.RI (x :=
      (Replica.mk x1.Log g_0.Epoch (List.length x1.Log : Int))) hv17) (Sep.m1 (Sep.m1 hS22))
  have hx28 := geti_set (x' := (Replica.mk x1.Log g_0.Epoch (List.length x1.Log : Int))) hx2
  have hv29 := SlG.toN hv26
  have he := some_inj hF3
  subst he
  simp only [end_nor0, B0, reduceIte, reduceEqDiff]
  exact ⟨pc0_2, c25, by first | trivial | rfl, ph0_2, hv29, (Sep.m2 (Sep.m2 hS27))⟩
theorem impl_Group_shared_x {W : Nat → Bool} {h : Heap} (hW : ∀ b,
    (geL h.length) b → W b = true) (k : Nat) (g_0 : Group) (k_1 : Int) (r : Int) (hF : impl_Group_shared k g_0 k_1 = some r) : Ret E W 69 [.agg [.int .i64 g_0.Epoch,
    .int .i64 g_0.Leader, lst cI g_0.InStep, .int .i64 g_0.High, lst Replica.cells g_0.Replicas],
    .int .i64 k_1] h (fun v h' => cut h.length h' E.sz false 9 v = some (.int .i64 r)) := by
  refine Ret.of (fn := x69) rfl (Run.of ?_)
  unfold impl_Group_shared at hF
  have zf0 : argFr [.agg [.int .i64 g_0.Epoch, .int .i64 g_0.Leader, lst cI g_0.InStep, .int .i64 g_0.High, lst Replica.cells g_0.Replicas],
      .int .i64 k_1] 0 = .agg [.int .i64 g_0.Epoch, .int .i64 g_0.Leader, lst cI g_0.InStep, .int .i64 g_0.High, lst Replica.cells g_0.Replicas] := rfl
  have zf1 : argFr [.agg [.int .i64 g_0.Epoch, .int .i64 g_0.Leader, lst cI g_0.InStep, .int .i64 g_0.High, lst Replica.cells g_0.Replicas], .int .i64 k_1] 1 = .int .i64 k_1 := rfl
  generalize argFr [.agg [.int .i64 g_0.Epoch, .int .i64 g_0.Leader, lst cI g_0.InStep, .int .i64 g_0.High, lst Replica.cells g_0.Replicas], .int .i64 k_1] = fr0 at zf0 zf1 ⊢
  have hS : Sep h (geL h.length) [] := Sep.nil h
  simp only [x69, run_seq, run_reg, run_box, zf0, B0, reduceIte, reduceEqDiff]
  refine put2_boxC (cs := [.int .i64 g_0.Epoch, .int .i64 g_0.Leader, lst cI g_0.InStep, .int .i64 g_0.High, lst Replica.cells g_0.Replicas]) hS rfl rfl rfl (fun b1 h2 hS3 => ?_)
  simp only [run_mv, run_ops_nil, B0, reduceIte, reduceEqDiff]
  refine frz_stepC hS3 hW (by simp only [B0, reduceIte, reduceEqDiff]) (fun h5 hS6 => ?_)
  simp only [run_frz_nil, x69_5, run_seq, run_draw, d4_fa, put1d_some, Nat.reduceAdd, Nat.zero_add, Nat.add_zero, xfa_ref, d4_ld, B0, reduceIte, reduceEqDiff]
  refine put1d_eq (v := lst Replica.cells g_0.Replicas) rfl ?_
  obtain ⟨x7, hx8, hF9⟩ := bind_some' hF
  simp only [zf1, d4_mv, put1d_some, d4_ia, B0, reduceIte, reduceEqDiff]
  refine put1d_eq (v := .ref (Replica.cells x7) 0) (xia_lst hx8 rfl) ?_
  simp only [d4_fa, put1d_some, Nat.reduceAdd, Nat.zero_add, Nat.add_zero, xfa_ref, d4_ld, B0, reduceIte, reduceEqDiff]
  refine put1d_eq (v := lst Row.cells x7.Log) rfl ?_
  simp only [d4_fa, put1d_some, Nat.reduceAdd, Nat.zero_add, Nat.add_zero, xfa_ref, d4_ld, B0, reduceIte, reduceEqDiff]
  refine put1d_eq (v := lst Replica.cells g_0.Replicas) rfl ?_
  simp only [d4_fa, put1d_some, Nat.reduceAdd, Nat.zero_add, Nat.add_zero, xfa_ref, d4_ld, B0, reduceIte, reduceEqDiff]
  refine put1d_eq (v := .int .i64 g_0.Leader) rfl ?_
  obtain ⟨x10, hx11, hF12⟩ := bind_some' hF9
  simp only [d4_ia, B0, reduceIte, reduceEqDiff]
  refine put1d_eq (v := .ref (Replica.cells x10) 0) (xia_lst hx11 rfl) ?_
  simp only [d4_fa, put1d_some, Nat.reduceAdd, Nat.zero_add, Nat.add_zero, xfa_ref, d4_ld, B0, reduceIte, reduceEqDiff]
  refine put1d_eq (v := lst Row.cells x10.Log) rfl ?_
  simp only [d4_mv, put1d_some, run_draw_nil, x69_4, run_seq, run_reg, run_mv, run_ops_nil, x69_3, B0, reduceIte, reduceEqDiff]
  obtain ⟨oc17, hX19, hk20⟩ := jn_some hF12
  simp only [x69_2]
  refine loopF_j (σ := Int) (fun s60 => impl_Group_shared_b1 x7 x10 s60)
      (fun s fr' h' => fr' 5 = lst Row.cells x7.Log ∧ fr' 6 = lst Row.cells x10.Log ∧ fr' 7 = .int .i64 s ∧ Sep h' (geL h.length) ([])) hX19 ⟨rfl, rfl, rfl,
      hS6⟩ (fun _ _ _ h => h) ?_ ?_
  · rintro s14 fr29 h30 ⟨f32, f33, f34, hS31⟩ oc18 hF21 hr22 Q23 hN24 hK25 hR26 hE27
    unfold impl_Group_shared_b1 at hF21
    simp only [x69_1, run_seq, run_draw, f34, d4_mv, put1d_some, f32, d4_len, xlen_lst, f33, d4_mnx, pminI, d4_bin, xlss, B0, reduceIte, reduceEqDiff]
    obtain ⟨v39, hx40, hF41⟩ := bind_some' hF21
    refine draw_j 10 (fun fr' h' => Sep h' (geL h.length) ([]) ∧ fr' 38 = .bool v39 ∧ fr' 5 = lst Row.cells x7.Log ∧ fr' 6 = lst Row.cells x10.Log ∧ fr' 7 = .int .i64 s14) rfl
        (fun Q36 hN37 => ?_) ?_
    · simp only [List.take_succ_cons, List.take_zero]
      simp only [run_guardd (g := 28), B0, reduceIte, reduceEqDiff]
      refine guardd_split (t := (decide (s14 < (mnI (List.length x7.Log : Int) (List.length x10.Log : Int))))) (fun hg38 => ?_) (fun hg38 => ?_)
      · rw [iteT hg38] at hx40
        obtain ⟨x42, hx43, hF44⟩ := bind_some' hx40
        simp only [hg38, run_guardd (g := 28), guardd_true, f32, d4_mv, put1d_some, f34, d4_ia, B0, reduceIte, reduceEqDiff]
        refine put1d_eq (v := .ref (Row.cells x42) 0) (xia_lst hx43 rfl) ?_
        simp only [hg38, run_guardd (g := 28), guardd_true, d4_ld, B0, reduceIte, reduceEqDiff]
        refine put1d_eq (v := .agg [.int .i64 x42.Epoch, .int .i64 x42.Value]) rfl ?_
        obtain ⟨x45, hx46, hF47⟩ := bind_some' hF44
        simp only [hg38, run_guardd (g := 28), guardd_true, f33, d4_mv, put1d_some, f34, d4_ia, B0, reduceIte, reduceEqDiff]
        refine put1d_eq (v := .ref (Row.cells x45) 0) (xia_lst hx46 rfl) ?_
        simp only [hg38, run_guardd (g := 28), guardd_true, d4_ld, B0, reduceIte, reduceEqDiff]
        refine put1d_eq (v := .agg [.int .i64 x45.Epoch, .int .i64 x45.Value]) rfl ?_
        simp only [hg38, run_guardd (g := 28), guardd_true, d4_eqs, B0, reduceIte, reduceEqDiff]
        refine put1d_eq (v := .bool ((x42.Epoch == x45.Epoch) && ((x42.Value == x45.Value) && true))) rfl ?_
        simp only [hg38, d4_pick, put1d_some, xpick_t, run_draw_nil, run_nil, B0, reduceIte, reduceEqDiff]
        have e48 := some_inj hF47
        exact hN37 _ _ ⟨hS31, by rw [← e48]; simp only [B0, reduceIte, reduceEqDiff], f32, f33, f34⟩
      · rw [iteF hg38] at hx40
        simp only [hg38, run_guardd (g := 28), guardd_off, d4_pick, put1d_some, xpick_f, run_draw_nil, run_nil, B0, reduceIte, reduceEqDiff]
        have e49 := some_inj hx40
        exact hN37 _ _ ⟨hS31, by rw [← e49]; simp only [B0, reduceIte, reduceEqDiff], f32, f33, f34⟩
    rintro fr50 h55 ⟨hS56, f51, f52, f53, f54⟩
    simp only [List.drop_succ_cons, List.drop_zero]
    simp only [run_draw_nil, f51, run_cond, B0, reduceIte, reduceEqDiff]
    refine cond_split (t := v39) (fun hc57 => ?_) (fun hc57 => ?_)
    · rw [iteT hc57] at hF41
      simp only [run_skip, run_block, run_reg, f54, run_mv, run_bin, put1_some, xadd, run_ops_nil, run_blk, run_nil, B0, reduceIte, reduceEqDiff]
      have e58 := some_inj hF41
      exact hN24 _ _ _ e58.symm ⟨f52, f53, rfl, hS56⟩
    rw [iteF hc57] at hF41
    simp only [run_exit, out_code, out_nil, B0, reduceIte, reduceEqDiff]
    have e59 := some_inj hF41
    exact hK25 _ _ _ e59.symm ⟨f52, f53, f54, hS56⟩
  rintro s61 fr62 h63 rfl ⟨f65, f66, f67, hS64⟩
  dsimp only [jnO] at hk20
  unfold impl_Group_shared_j1 at hk20
  simp only [run_seq, run_reg, f67, run_mv, run_ops_nil, run_ret, B0, reduceIte, reduceEqDiff]
  have he := some_inj hk20
  subst he
  simp only [end_ret1, B0, reduceIte, reduceEqDiff]
  exact rfl
theorem impl_Group_fetch_x {W : Nat → Bool} {h : Heap} {lo : Nat → Prop} {S0 : List Obj} (hW : ∀ b,
    lo b → W b = true) (k : Nat) (pb0 : Nat) (g_0 : Group) (pv0_2 : XV) (pc0_2 : List Obj) (ph0_2 : SlF cI 1 3 pv0_2 g_0.InStep pc0_2) (pv0_4 : XV) (pc0_4 : List Obj)
    (ph0_4 : SlN Replica.R 3 51 pv0_4 g_0.Replicas pc0_4) (k_1 : Int) (many_2 : Int) (r : Group) (hF : impl_Group_fetch k g_0 k_1 many_2 = some r) (hS : Sep h lo
    ([Blk1 pb0 [.int .i64 g_0.Epoch, .int .i64 g_0.Leader, pv0_2, .int .i64 g_0.High, pv0_4] 29] ++ (pc0_2 ++ (pc0_4 ++ (S0))))) : Ret E W 55 [.ptr pb0 0, .int .i64 k_1,
    .int .i64 many_2] h (fun v h' => ∃ ic0_2 ic0_4,
    v = .tup [] ∧ SlF cI 1 3 pv0_2 r.InStep ic0_2 ∧ SlN Replica.R 3 51 pv0_4 r.Replicas ic0_4 ∧ Sep h' lo ([Blk1 pb0 [.int .i64 r.Epoch, .int .i64 r.Leader, pv0_2,
    .int .i64 r.High, pv0_4] 29] ++ (ic0_2 ++ (ic0_4 ++ (S0))))) := by
  refine Ret.of (fn := x55) rfl (Run.of ?_)
  unfold impl_Group_fetch at hF
  have zf0 : argFr [.ptr pb0 0, .int .i64 k_1, .int .i64 many_2] 0 = .ptr pb0 0 := rfl
  have zf1 : argFr [.ptr pb0 0, .int .i64 k_1, .int .i64 many_2] 1 = .int .i64 k_1 := rfl
  have zf2 : argFr [.ptr pb0 0, .int .i64 k_1, .int .i64 many_2] 2 = .int .i64 many_2 := rfl
  generalize argFr [.ptr pb0 0, .int .i64 k_1, .int .i64 many_2] = fr0 at zf0 zf1 zf2 ⊢
  simp only [x55, run_seq, run_reg, zf0, run_mv, run_chk, put1_some, xchk_ptr, run_ld, B0, reduceIte, reduceEqDiff]
  refine put1_eq (v := .agg [.int .i64 g_0.Epoch, .int .i64 g_0.Leader, pv0_2, .int .i64 g_0.High, pv0_4]) ((xld_bs (Sep.bk _ _ _ hS)).trans rfl) ?_
  obtain ⟨v1, hx2, hF3⟩ := bind_some' hF
  simp only [zf1, run_mv, run_call, B0, reduceIte, reduceEqDiff]
  refine call1 rfl (mapM1 (snap_agg (mapM1 snap_int (mapM1 snap_int (mapM1 (SlF.snap ph0_2 (Sep.m1 hS) rfl (fun _ => rfl) (fun _ => rfl)) (mapM1 snap_int (mapM1 (SlN.snap ph0_4 _
      (Sep.m2 hS) rfl Replica.RO) mapM0)))))) (mapM1 snap_int mapM0)) (impl_Group_shared_x (fun b hb => decide_eq_true hb) k g_0 k_1 v1 hx2) ?_
  simp only [run_mv, run_ops_nil, x55_3, run_seq, run_draw, zf0, d4_mv, put1d_some, d4_chk, xchk_ptr, d4_fa, Nat.reduceAdd, Nat.zero_add, Nat.add_zero, xfa_ptr, d4_ld, B0,
      reduceIte, reduceEqDiff]
  refine put1d_eq (v := pv0_4) ((xld_b (Sep.bk _ _ _ hS)).trans rfl) ?_
  simp only [zf0, d4_mv, put1d_some, d4_chk, xchk_ptr, d4_fa, Nat.reduceAdd, Nat.zero_add, Nat.add_zero, xfa_ptr, d4_ld, B0, reduceIte, reduceEqDiff]
  refine put1d_eq (v := .int .i64 g_0.Leader) ((xld_b (Sep.bk _ _ _ hS)).trans rfl) ?_
  obtain ⟨x4, hx5, hF6⟩ := bind_some' hF3
  simp only [d4_ia, B0, reduceIte, reduceEqDiff]
  obtain ⟨b7, hb8⟩ := SlN.isrow ph0_4 (geti_ne hx5)
  refine put1d_eq (SlN.ia ph0_4 hb8 hx5) ?_
  obtain ⟨c9, cs10, os11, hv12, hR13, hS14⟩ := SlG.opn (SlN.toG ph0_4 hb8 Replica.RO.len) hx5 hk_nil Replica.RO.len (Sep.m2 hS)
  obtain ⟨v16, c17, hv18, rfl, rfl⟩ := hR13
  have hS15 := Sep.no1 hS14
  simp only [d4_fa, put1d_some, Nat.reduceAdd, Nat.zero_add, Nat.add_zero, xfa_ptr, d4_ld, B0, reduceIte, reduceEqDiff]
  refine put1d_eq (v := v16) ((SlG.ld (o := 0) hv12 rfl hx5 hS15 (Nat.le_of_ble_eq_true rfl)).trans rfl) ?_
  obtain ⟨l20, hx21, hF22⟩ := bind_some' hF6
  simp only [d4_mv, put1d_some, d4_slc, Option.map_some, Option.map_none, B0, reduceIte, reduceEqDiff]
  obtain ⟨w23, i24, he25, hw26⟩ := SlF.win (f := Row.cells) (ty := 98) (some v1) none hv18 hx21 (Sep.m1 hS15)
  refine put1d_eq he25 ?_
  simp only [d4_mv, put1d_some, run_draw_nil, x55_2, run_seq, run_reg, zf0, run_mv, run_chk, put1_some, xchk_ptr, run_fa, Nat.reduceAdd, Nat.zero_add, Nat.add_zero, xfa_ptr,
      run_ld, B0, reduceIte, reduceEqDiff]
  refine put1_eq (v := pv0_4) ((xld_b (Sep.bk _ _ _ (Sep.m2 hS15))).trans rfl) ?_
  obtain ⟨x27, hx28, hF29⟩ := bind_some' hF22
  simp only [zf1, run_mv, run_ia, B0, reduceIte, reduceEqDiff]
  refine put1_eq (SlG.ia hv12 hx28) ?_
  simp only [run_mv, run_ops_nil, x55_1, run_seq, run_draw, d1_mv, put1d_some, d4_buildS, evp, B0, reduceIte, reduceEqDiff]
  refine put2d_buildSF (n := 2) (f := Row.cells) ([] : List Row) hS15 rfl rfl (fun v30 c31 h32 hv33 hS34 => ?_)
  obtain ⟨hp36, hF37⟩ := ck_some hF29
  have hn38 := tn_ne hp36 hx5 hx28
  obtain ⟨c39, cs40, os41, hv42, hR43, hS44⟩ := SlG.opn hv12 hx28 ((hk_ne hn38).trans hk_nil) Replica.RO.len (Sep.m1 hS34)
  obtain ⟨v46, c47, hv48, rfl, rfl⟩ := hR43
  have hS45 := Sep.no1 hS44
  simp only [d4_mv, put1d_some, d4_chk, xchk_ptr, d4_fa, Nat.reduceAdd, Nat.zero_add, Nat.add_zero, xfa_ptr, d4_ld, B0, reduceIte, reduceEqDiff]
  refine put1d_eq (v := v46) ((SlG.ld (o := 0) hv42 rfl hx28 hS45 (Nat.le_of_ble_eq_true rfl)).trans rfl) ?_
  obtain ⟨l50, hx51, hF52⟩ := bind_some' hF37
  simp only [d4_mv, put1d_some, d4_slc, Option.map_some, Option.map_none, B0, reduceIte, reduceEqDiff]
  obtain ⟨w53, i54, he55, hw56⟩ := SlF.win (f := Row.cells) (ty := 98) none (some v1) hv48 hx51 (Sep.m1 hS45)
  refine put1d_eq he55 ?_
  simp only [d3_app, B0, reduceIte, reduceEqDiff]
  obtain ⟨l57, hx58, hF59⟩ := bind_some' hF52
  refine put2d_appF (f := Row.cells) hv33 (Sep.m2 hS45) hW (fun _ => rfl) (fun _ => rfl) (SlW.first hw56 hv48 (Sep.m1 hS45) (fun _ => rfl)) hx58 (fun v60 c61 h62 hv63 hS64 => ?_)
  obtain ⟨l66, hx67, hF68⟩ := bind_some' hF59
  simp only [d1_mv, put1d_some, zf2, d1_len, SlW.plen hw26 hv18, d1_mnx, pminI, d1_slc, Option.map_some, Option.map_none, B0, reduceIte, reduceEqDiff]
  obtain ⟨w69, i70, he71, hw72⟩ := SlW.win (ty := 98) none (some (mnI many_2 (List.length l20 : Int))) hw26 hv18 hx67 (Sep.m3 hS64)
  refine put1d_eq he71 ?_
  simp only [d3_app, B0, reduceIte, reduceEqDiff]
  obtain ⟨l73, hx74, hF75⟩ := bind_some' hF68
  refine put2d_appF (f := Row.cells) hv63 hS64 hW (fun _ => rfl) (fun _ => rfl) (SlW.first hw72 hv18 (Sep.m3 hS64) (fun _ => rfl)) hx74 (fun v76 c77 h78 hv79 hS80 => ?_)
  simp only [d4_chk, put1d_some, xchk_ptr, d4_fa, Nat.reduceAdd, Nat.zero_add, Nat.add_zero, xfa_ptr, d3_st, B0, reduceIte, reduceEqDiff]
  refine put2d_stGx (us := [v76]) (o := 0) (cs' := [v76, .int .i64 x27.Epoch,
      .int .i64 x27.Known]) (cells_one (SlF.one hv79)) hv42 rfl hx28 (Sep.m1 hS80) hW rfl (all_c (SlF.one hv79) all_n) (Nat.le_of_ble_eq_true rfl) rfl (fun c84 h82 hv85 hS83 => ?_)
  obtain ⟨c86, hv87, hS88⟩ := SlG.cls (e' := (Replica.mk l73 x27.Epoch x27.Known)) (c := c84) (os := c77) hv85 rfl hx28 ((hk_ne hn38).trans hk_nil) (Replica.RI (x :=
      (Replica.mk l73 x27.Epoch x27.Known)) hv79) (Sep.m1 (Sep.m1 hS83))
  have hx89 := geti_set (x' := (Replica.mk l73 x27.Epoch x27.Known)) hx28
  have hx90 := geti_set_ne (e := (Replica.mk l73 x27.Epoch x27.Known)) hx5 (Ne.symm hn38)
  obtain ⟨c91, hv92, hS93⟩ := SlG.cls0 (c := c86) (os := c17) hv87 rfl hx90 hk_nil (Replica.RI (x := x4) hv18) (Sep.m1 (Sep.m2 hS88))
  have hv94 := SlG.toN hv92
  obtain ⟨v95, hx96, hF97⟩ := bind_some' hF75
  simp only [run_draw_nil, run_reg, zf0, run_mv, zf1, run_call, B0, reduceIte, reduceEqDiff]
  refine call0 rfl (impl_Group_know_x hW pb0 (Group.mk g_0.Epoch g_0.Leader g_0.InStep g_0.High (List.set g_0.Replicas k_1.toNat
      (Replica.mk l73 x27.Epoch x27.Known))) pv0_2 pc0_2 ph0_2 pv0_4 c91 hv94 k_1 v95 hx96 (Sep.m3 (Sep.m3 hS93))) ?_
  rintro _ h102 ⟨c98, c100, rfl, hv99, hv101, hS103⟩
  simp only [run_ops_nil, run_nil, B0, reduceIte, reduceEqDiff]
  have he := some_inj hF97
  subst he
  simp only [end_nor0, B0, reduceIte, reduceEqDiff]
  exact ⟨c98, c100, by first | trivial | rfl, hv99, hv101, (Sep.m2 (Sep.m2 (Sep.m2 (Sep.dc (Sep.m3 hS103)))))⟩
theorem cmp_isNaN_int_x {W : Nat → Bool} {h : Heap} (hW : ∀ b,
    (geL h.length) b → W b = true) (x_0 : Int) (r : Bool) (hF : some (cmp_isNaN_int x_0) = some r) : Ret E W 102 [.int .i64 x_0] h
    (fun v h' => cut h.length h' E.sz false 9 v = some (.bool r)) := by
  refine Ret.of (fn := x102) rfl (Run.of ?_)
  unfold cmp_isNaN_int at hF
  have zf0 : argFr [.int .i64 x_0] 0 = .int .i64 x_0 := rfl
  generalize argFr [.int .i64 x_0] = fr0 at zf0 ⊢
  have hS : Sep h (geL h.length) [] := Sep.nil h
  simp only [x102, run_seq, run_reg, run_mv, run_ops_nil, x102_1, zf0, run_bin, put1_some, xneq, run_ret, B0, reduceIte, reduceEqDiff]
  have he := some_inj hF
  subst he
  simp only [end_ret1, B0, reduceIte, reduceEqDiff]
  exact rfl
theorem cmp_Less_int_x {W : Nat → Bool} {h : Heap} (hW : ∀ b,
    (geL h.length) b → W b = true) (x_0 : Int) (y_1 : Int) (r : Bool) (hF : some (cmp_Less_int x_0 y_1) = some r) : Ret E W 96 [.int .i64 x_0,
    .int .i64 y_1] h (fun v h' => cut h.length h' E.sz false 9 v = some (.bool r)) := by
  refine Ret.of (fn := x96) rfl (Run.of ?_)
  unfold cmp_Less_int at hF
  have zf0 : argFr [.int .i64 x_0, .int .i64 y_1] 0 = .int .i64 x_0 := rfl
  have zf1 : argFr [.int .i64 x_0, .int .i64 y_1] 1 = .int .i64 y_1 := rfl
  generalize argFr [.int .i64 x_0, .int .i64 y_1] = fr0 at zf0 zf1 ⊢
  have hS : Sep h (geL h.length) [] := Sep.nil h
  simp only [x96, run_seq, run_reg, run_mv, run_ops_nil, x96_1, zf0, run_call, B0, reduceIte, reduceEqDiff]
  refine call1 rfl (mapM1 snap_int mapM0) (cmp_isNaN_int_x (fun b hb => decide_eq_true hb) x_0 _ rfl) ?_
  simp only [run_mv, B0, reduceIte, reduceEqDiff]
  refine ops_j 4 (fun fr' h' => Sep h' (geL h.length) ([]) ∧ fr' 11 = .bool ((cmp_isNaN_int x_0) && (!(cmp_isNaN_int y_1))) ∧ fr' 0 = .int .i64 x_0 ∧ fr' 1 = .int .i64 y_1)
      (fun Q1 hN2 => ?_) ?_
  · simp only [List.take_succ_cons, List.take_zero]
    simp only [run_guard (g := 7), B0, reduceIte, reduceEqDiff]
    refine guard_split (t := (cmp_isNaN_int x_0)) (fun hg3 => ?_) (fun hg3 => ?_)
    · simp only [hg3, run_guard (g := 7), guard_true, zf1, run_mv, run_call, B0, reduceIte, reduceEqDiff]
      refine call1 rfl (mapM1 snap_int mapM0) (cmp_isNaN_int_x (fun b hb => decide_eq_true hb) y_1 _ rfl) ?_
      simp only [hg3, run_guard (g := 7), guard_true, run_un, put1_some, xnot, run_pick, xpick_t, run_ops_nil, run_nil, B0, reduceIte, reduceEqDiff]
      exact hN2 _ _ ⟨hS, by rw [andT hg3]; simp only [B0, reduceIte, reduceEqDiff], zf0, zf1⟩
    · simp only [hg3, run_guard (g := 7), guard_off, run_pick, put1_some, xpick_f, run_ops_nil, run_nil, B0, reduceIte, reduceEqDiff]
      exact hN2 _ _ ⟨hS, by rw [andF hg3]; simp only [B0, reduceIte, reduceEqDiff], zf0, zf1⟩
  rintro fr4 h8 ⟨hS9, f5, f6, f7⟩
  simp only [List.drop_succ_cons, List.drop_zero]
  simp only [f5, run_mv, B0, reduceIte, reduceEqDiff]
  refine ops_j 4 (fun fr' h' => Sep h' (geL h.length) ([]) ∧ fr' 16 = .bool (((cmp_isNaN_int x_0) && (!(cmp_isNaN_int y_1))) || (decide (x_0 < y_1)))) (fun Q10 hN11 => ?_) ?_
  · simp only [List.take_succ_cons, List.take_zero]
    simp only [run_guard (g := 12), B0, reduceIte, reduceEqDiff]
    refine guard_split (t := ((cmp_isNaN_int x_0) && (!(cmp_isNaN_int y_1)))) (fun hg12 => ?_) (fun hg12 => ?_)
    · simp only [hg12, run_guard (g := 12), guard_off', run_pick, put1_some, xpick_t, run_ops_nil, run_nil, B0, reduceIte, reduceEqDiff]
      exact hN11 _ _ ⟨hS9, by rw [orT hg12]; simp only [B0, reduceIte, reduceEqDiff]⟩
    · simp only [hg12, run_guard (g := 12), guard_false, f6, run_mv, f7, run_bin, put1_some, xlss, run_pick, xpick_f, run_ops_nil, run_nil, B0, reduceIte, reduceEqDiff]
      exact hN11 _ _ ⟨hS9, by rw [orF hg12]; simp only [B0, reduceIte, reduceEqDiff]⟩
  rintro fr13 h15 ⟨hS16, f14⟩
  simp only [List.drop_succ_cons, List.drop_zero]
  simp only [f14, run_mv, run_ops_nil, run_ret, B0, reduceIte, reduceEqDiff]
  have he := some_inj hF
  subst he
  simp only [end_ret1, B0, reduceIte, reduceEqDiff]
  exact rfl
theorem slices_isNaN_int_x {W : Nat → Bool} {h : Heap} (hW : ∀ b,
    (geL h.length) b → W b = true) (x_0 : Int) (r : Bool) (hF : some (slices_isNaN_int x_0) = some r) : Ret E W 97 [.int .i64 x_0] h
    (fun v h' => cut h.length h' E.sz false 9 v = some (.bool r)) := by
  refine Ret.of (fn := x97) rfl (Run.of ?_)
  unfold slices_isNaN_int at hF
  have zf0 : argFr [.int .i64 x_0] 0 = .int .i64 x_0 := rfl
  generalize argFr [.int .i64 x_0] = fr0 at zf0 ⊢
  have hS : Sep h (geL h.length) [] := Sep.nil h
  simp only [x97, run_seq, run_reg, run_mv, run_ops_nil, x97_1, zf0, run_bin, put1_some, xneq, run_ret, B0, reduceIte, reduceEqDiff]
  have he := some_inj hF
  subst he
  simp only [end_ret1, B0, reduceIte, reduceEqDiff]
  exact rfl
theorem slices_BinarySearch_int_x {W : Nat → Bool} {h : Heap} (hW : ∀ b,
    (geL h.length) b → W b = true) (k : Nat) (x_0 : List Int) (target_1 : Int) (r : Int × Bool) (hF : slices_BinarySearch_int k x_0 target_1 = some r) : Ret E W 89 [lst cI x_0,
    .int .i64 target_1] h (fun v h' => cut h.length h' E.sz false 9 v = some (.tup [.int .i64 r.1, .bool r.2])) := by
  refine Ret.of (fn := x89) rfl (Run.of ?_)
  unfold slices_BinarySearch_int at hF
  have zf0 : argFr [lst cI x_0, .int .i64 target_1] 0 = lst cI x_0 := rfl
  have zf1 : argFr [lst cI x_0, .int .i64 target_1] 1 = .int .i64 target_1 := rfl
  generalize argFr [lst cI x_0, .int .i64 target_1] = fr0 at zf0 zf1 ⊢
  have hS : Sep h (geL h.length) [] := Sep.nil h
  simp only [x89, run_seq, run_reg, run_mv, run_ops_nil, x89_10, zf0, run_len, put1_some, xlen_lst, x89_9, x89_8, B0, reduceIte, reduceEqDiff]
  obtain ⟨oc7, hX9, hk10⟩ := jn_some hF
  simp only [x89_6]
  refine loopF_j (σ := Int × Int) (fun s36 => slices_BinarySearch_int_b1 x_0 target_1 s36.1 s36.2)
      (fun s fr' h' => fr' 0 = lst cI x_0 ∧ fr' 1 = .int .i64 target_1 ∧ fr' 6 = .int .i64 (List.length x_0 : Int) ∧ fr' 7 = .int .i64 s.1 ∧ fr' 8 = .int .i64 s.2 ∧ Sep h'
      (geL h.length) ([])) hX9 ⟨zf0, zf1, rfl, rfl, rfl, hS⟩ (fun _ _ _ h => h) ?_ ?_
  · rintro ⟨s3, s4⟩ fr19 h20 ⟨f22, f23, f24, f25, f26, hS21⟩ oc8 hF11 hr12 Q13 hN14 hK15 hR16 hE17
    dsimp only at *
    unfold slices_BinarySearch_int_b1 at hF11
    simp only [x89_5, run_seq, run_reg, f25, run_mv, f26, run_bin, put1_some, xlss, run_ops_nil, run_cond, B0, reduceIte, reduceEqDiff]
    refine cond_split (t := (decide (s3 < s4))) (fun hc28 => ?_) (fun hc28 => ?_)
    · rw [iteT hc28] at hF11
      obtain ⟨x29, hx30, hF31⟩ := bind_some' hF11
      simp only [run_skip, x89_4, run_block, x89_3, run_seq, run_reg, f25, run_mv, f26, run_bin, put1_some, xadd, run_cvt, xcvt_i, xshr_nn (n := 1) (by decide), run_ops_nil,
          x89_2, f22, run_ia, B0, reduceIte, reduceEqDiff]
      refine put1_eq (v := .ref (cI x29) 0) (xia_lst hx30 rfl) ?_
      simp only [run_ld, B0, reduceIte, reduceEqDiff]
      refine put1_eq (v := .int .i64 x29) rfl ?_
      simp only [f23, run_mv, run_call, B0, reduceIte, reduceEqDiff]
      refine call1 rfl (mapM1 snap_int (mapM1 snap_int mapM0)) (cmp_Less_int_x (fun b hb => decide_eq_true hb) x29 target_1 _ rfl) ?_
      simp only [run_ops_nil, x89_1, run_cond, B0, reduceIte, reduceEqDiff]
      refine cond_split (t := (cmp_Less_int x29 target_1)) (fun hc32 => ?_) (fun hc32 => ?_)
      · rw [iteT hc32] at hF31
        simp only [run_reg, run_mv, run_bin, put1_some, xadd, run_ops_nil, run_blk, run_nil, B0, reduceIte, reduceEqDiff]
        have e33 := some_inj hF31
        exact hN14 _ _ _ e33.symm ⟨f22, f23, f24, rfl, f26, hS21⟩
      rw [iteF hc32] at hF31
      simp only [run_reg, run_mv, run_ops_nil, run_blk, run_nil, B0, reduceIte, reduceEqDiff]
      have e34 := some_inj hF31
      exact hN14 _ _ _ e34.symm ⟨f22, f23, f24, f25, rfl, hS21⟩
    rw [iteF hc28] at hF11
    simp only [run_exit, out_code, out_nil, B0, reduceIte, reduceEqDiff]
    have e35 := some_inj hF11
    exact hK15 _ _ _ e35.symm ⟨f22, f23, f24, f25, f26, hS21⟩
  rintro ⟨s37, s38⟩ fr39 h40 rfl ⟨f42, f43, f44, f45, f46, hS41⟩
  dsimp only [jnO] at hk10
  dsimp only at *
  unfold slices_BinarySearch_int_j1 at hk10
  simp only [x89_7, run_seq, run_reg, f45, run_mv, f44, run_bin, put1_some, xlss, B0, reduceIte, reduceEqDiff]
  obtain ⟨v50, hx51, hF52⟩ := bind_some' hk10
  refine ops_j 18 (fun fr' h' => Sep h' (geL h.length) ([]) ∧ fr' 53 = .bool v50 ∧ fr' 31 = .int .i64 s37) (fun Q47 hN48 => ?_) ?_
  · simp only [List.take_succ_cons, List.take_zero]
    simp only [run_guard (g := 35), B0, reduceIte, reduceEqDiff]
    refine guard_split (t := (decide (s37 < (List.length x_0 : Int)))) (fun hg49 => ?_) (fun hg49 => ?_)
    · rw [iteT hg49] at hx51
      obtain ⟨x53, hx54, hF55⟩ := bind_some' hx51
      simp only [hg49, run_guard (g := 35), guard_true, f42, run_mv, f45, run_ia, B0, reduceIte, reduceEqDiff]
      refine put1_eq (v := .ref (cI x53) 0) (xia_lst hx54 rfl) ?_
      simp only [hg49, run_guard (g := 35), guard_true, run_ld, B0, reduceIte, reduceEqDiff]
      refine put1_eq (v := .int .i64 x53) rfl ?_
      simp only [hg49, run_guard (g := 35), guard_true, f43, run_mv, run_bin, put1_some, xeql, B0, reduceIte, reduceEqDiff]
      obtain ⟨v59, hx60, hF61⟩ := bind_some' hF55
      refine ops_j 10 (fun fr' h' => Sep h' (geL h.length) ([]) ∧ fr' 52 = .bool v59 ∧ fr' 31 = .int .i64 s37 ∧ fr' 35 = .bool (decide (s37 < (List.length x_0 : Int))))
          (fun Q56 hN57 => ?_) ?_
      · simp only [List.take_succ_cons, List.take_zero]
        simp only [run_guard (g := 42), B0, reduceIte, reduceEqDiff]
        refine guard_split (t := (decide (x53 = target_1))) (fun hg58 => ?_) (fun hg58 => ?_)
        · rw [iteT hg58] at hx60
          simp only [hg58, run_guard (g := 42), guard_off', run_guard (g := 48), guard_tup, hg49, run_guard (g := 35), guard_true, run_pick, put1_some, xpick_t, run_ops_nil,
              run_nil, B0, reduceIte, reduceEqDiff]
          have e62 := some_inj hx60
          exact hN57 _ _ ⟨hS41, by rw [← e62]; simp only [B0, reduceIte, reduceEqDiff], rfl, by simp only [hg49, B0, reduceIte, reduceEqDiff]⟩
        · rw [iteF hg58] at hx60
          obtain ⟨x63, hx64, hF65⟩ := bind_some' hx60
          simp only [hg58, run_guard (g := 42), guard_false, f42, run_mv, f45, run_ia, B0, reduceIte, reduceEqDiff]
          refine put1_eq (v := .ref (cI x63) 0) (xia_lst hx64 rfl) ?_
          simp only [hg58, run_guard (g := 42), guard_false, run_ld, B0, reduceIte, reduceEqDiff]
          refine put1_eq (v := .int .i64 x63) rfl ?_
          simp only [hg58, run_guard (g := 42), guard_false, run_call, B0, reduceIte, reduceEqDiff]
          refine call1 rfl (mapM1 snap_int mapM0) (slices_isNaN_int_x (fun b hb => decide_eq_true hb) x63 _ rfl) ?_
          simp only [hg58, run_guard (g := 42), guard_false, run_mv, B0, reduceIte, reduceEqDiff]
          refine ops_j 3 (fun fr' h' => Sep h' (geL h.length) ([]) ∧ fr' 51 = .bool ((slices_isNaN_int x63) &&
              (slices_isNaN_int target_1)) ∧ fr' 31 = .int .i64 s37 ∧ fr' 35 = .bool (decide (s37 < (List.length x_0 : Int))) ∧ fr' 42 = .bool (decide (x53 = target_1)))
              (fun Q66 hN67 => ?_) ?_
          · simp only [List.take_succ_cons, List.take_zero]
            simp only [run_guard (g := 48), B0, reduceIte, reduceEqDiff]
            refine guard_split (t := (slices_isNaN_int x63)) (fun hg68 => ?_) (fun hg68 => ?_)
            · simp only [hg68, run_guard (g := 48), guard_true, f43, run_mv, run_call, B0, reduceIte, reduceEqDiff]
              refine call1 rfl (mapM1 snap_int mapM0) (slices_isNaN_int_x (fun b hb => decide_eq_true hb) target_1 _ rfl) ?_
              simp only [hg58, run_guard (g := 42), guard_false, hg68, run_pick, put1_some, xpick_t, run_ops_nil, run_nil, B0, reduceIte, reduceEqDiff]
              exact hN67 _ _ ⟨hS41, by rw [andT hg68]; simp only [B0, reduceIte, reduceEqDiff], rfl, by simp only [hg49, B0, reduceIte, reduceEqDiff], by simp only [hg58, B0,
                  reduceIte, reduceEqDiff]⟩
            · simp only [hg68, run_guard (g := 48), guard_off, hg58, run_guard (g := 42), guard_false, run_pick, put1_some, xpick_f, run_ops_nil, run_nil, B0, reduceIte,
                reduceEqDiff]
              exact hN67 _ _ ⟨hS41, by rw [andF hg68]; simp only [B0, reduceIte, reduceEqDiff], rfl, by simp only [hg49, B0, reduceIte, reduceEqDiff], by simp only [hg58, B0,
                  reduceIte, reduceEqDiff]⟩
          rintro fr69 h74 ⟨hS75, f70, f71, f72, f73⟩
          simp only [List.drop_succ_cons, List.drop_zero]
          simp only [f72, hg49, run_guard (g := 35), guard_true, f73, hg58, run_pick, put1_some, xpick_f, f70, run_ops_nil, run_nil, B0, reduceIte, reduceEqDiff]
          have e76 := some_inj hF65
          exact hN57 _ _ ⟨hS75, by rw [← e76]; simp only [B0, reduceIte, reduceEqDiff], f71, by simp only [f72, hg49, B0, reduceIte, reduceEqDiff]⟩
      rintro fr77 h81 ⟨hS82, f78, f79, f80⟩
      simp only [List.drop_succ_cons, List.drop_zero]
      simp only [f80, hg49, run_pick, put1_some, xpick_t, f78, run_ops_nil, run_nil, B0, reduceIte, reduceEqDiff]
      have e83 := some_inj hF61
      exact hN48 _ _ ⟨hS82, by rw [← e83]; simp only [B0, reduceIte, reduceEqDiff], f79⟩
    · rw [iteF hg49] at hx51
      simp only [hg49, run_guard (g := 35), guard_off, run_guard (g := 42), guard_tup, run_guard (g := 48), run_pick, put1_some, xpick_f, run_ops_nil, run_nil, B0, reduceIte,
          reduceEqDiff]
      have e84 := some_inj hx51
      exact hN48 _ _ ⟨hS41, by rw [← e84]; simp only [B0, reduceIte, reduceEqDiff], rfl⟩
  rintro fr85 h88 ⟨hS89, f86, f87⟩
  simp only [List.drop_succ_cons, List.drop_zero]
  simp only [f87, run_mv, f86, run_ops_nil, run_ret, B0, reduceIte, reduceEqDiff]
  have he := some_inj hF52
  subst he
  simp only [end_ret2, B0, reduceIte, reduceEqDiff]
  exact cut_tup (mapM1 rfl (mapM1 rfl mapM0))
theorem slices_Delete_int_x {W : Nat → Bool} {h : Heap} {lo : Nat → Prop} {S0 : List Obj} (hW : ∀ b,
    lo b → W b = true) (pv0 : XV) (pc0 : List Obj) (s_0 : List Int) (ph0 : SlF cI 1 3 pv0 s_0 pc0) (i_1 : Int) (j_2 : Int) (r : List Int)
    (hF : slices_Delete_int s_0 i_1 j_2 = some r) (hS : Sep h lo (pc0 ++ S0)) : Ret E W 90 [pv0, .int .i64 i_1, .int .i64 j_2] h (fun v h' => ∃ rv0 rc0,
    v = rv0 ∧ SlF cI 1 3 rv0 r rc0 ∧ Sep h' lo (rc0 ++ S0)) := delF_x (f := cI) (n := 1) (ty := 3) (bytes := 8) (z := [(.int .i64 0)]) rfl (fun _ => rfl)
    (fun _ => rfl) rfl rfl rfl hW ph0 hF hS
end Go.Proofs.Ytefgfcalgjmhjaa.X
