/- The functions' code comes to what the plain functions say (4). -/
import Derived.Test.YtefgfcalgjmhjaaXAH3
set_option linter.unusedVariables false
set_option linter.unusedSimpArgs false
set_option maxRecDepth 100000
namespace Go.Proofs.Ytefgfcalgjmhjaa.X
open Go
open Nat (reduceEqDiff)
theorem laws_markGroup_x {W : Nat → Bool} {h : Heap} {lo : Nat} {S0 : List Obj} (hW : ∀ b,
    lo ≤ b → W b = true) (k : Nat) (a_0 : Group) (pv0_2 : XV) (pc0_2 : List Obj) (ph0_2 : SlF cI 1 3 pv0_2 a_0.InStep pc0_2) (pv0_4 : XV) (pc0_4 : List Obj)
    (ph0_4 : SlN Replica.R 3 51 pv0_4 a_0.Replicas pc0_4) (k_1 : Int) (r : Int × Group) (hF : laws_markGroup k a_0 k_1 = some r) (hS : Sep h lo (pc0_2 ++ (pc0_4 ++
    (S0)))) : Ret E W 13 [.agg [.int .i64 a_0.Epoch, .int .i64 a_0.Leader, pv0_2, .int .i64 a_0.High, pv0_4], .int .i64 k_1] h (fun v h' => ∃ ic0_2 ic0_4,
    v = .int .i64 r.1 ∧ SlF cI 1 3 pv0_2 r.2.InStep ic0_2 ∧ SlN Replica.R 3 51 pv0_4 r.2.Replicas ic0_4 ∧ Sep h' lo (ic0_2 ++ (ic0_4 ++ (S0)))) := by
  refine Ret.of (fn := x13) rfl (Run.of ?_)
  unfold laws_markGroup at hF
  have zf0 : argFr [.agg [.int .i64 a_0.Epoch, .int .i64 a_0.Leader, pv0_2, .int .i64 a_0.High, pv0_4], .int .i64 k_1] 0 = .agg [.int .i64 a_0.Epoch, .int .i64 a_0.Leader, pv0_2,
      .int .i64 a_0.High, pv0_4] := rfl
  have zf1 : argFr [.agg [.int .i64 a_0.Epoch, .int .i64 a_0.Leader, pv0_2, .int .i64 a_0.High, pv0_4], .int .i64 k_1] 1 = .int .i64 k_1 := rfl
  generalize argFr [.agg [.int .i64 a_0.Epoch, .int .i64 a_0.Leader, pv0_2, .int .i64 a_0.High, pv0_4], .int .i64 k_1] = fr0 at zf0 zf1 ⊢
  simp only [x13, run_seq, run_reg, run_box, zf0, B0, reduceIte, reduceEqDiff]
  refine put2_boxC (cs := [.int .i64 a_0.Epoch, .int .i64 a_0.Leader, pv0_2, .int .i64 a_0.High,
      pv0_4]) hS rfl rfl (all_c rfl (all_c rfl (all_c (SlF.one ph0_2) (all_c rfl (all_c (SlN.one ph0_4) all_n))))) (fun b1 h2 hS3 => ?_)
  simp only [run_mv, run_ops_nil, B0, reduceIte, reduceEqDiff]
  refine frz_stepC hS3 hW (by simp only [B0, reduceIte, reduceEqDiff]) (fun h5 hS6 => ?_)
  simp only [run_frz_nil, x13_2, run_seq, run_reg, run_fa, put1_some, Nat.reduceAdd, Nat.zero_add, Nat.add_zero, xfa_ref, run_ld, B0, reduceIte, reduceEqDiff]
  refine put1_eq (v := pv0_2) rfl ?_
  obtain ⟨v7, hx8, hF9⟩ := bind_some' hF
  simp only [zf1, run_mv, run_call, B0, reduceIte, reduceEqDiff]
  refine call0 rfl (laws_markIntS_x hW k pv0_2 pc0_2 a_0.InStep ph0_2 k_1 v7 hx8 hS6) ?_
  rintro _ h12 ⟨c10, rfl, hv11, hS13⟩
  simp only [run_mv, run_ops_nil, x13_1, run_seq, run_reg, run_fa, put1_some, Nat.reduceAdd, Nat.zero_add, Nat.add_zero, xfa_ref, run_ld, B0, reduceIte, reduceEqDiff]
  refine put1_eq (v := pv0_4) rfl ?_
  obtain ⟨v14, hx15, hF16⟩ := bind_some' hF9
  simp only [run_mv, run_call, B0, reduceIte, reduceEqDiff]
  refine call0 rfl (laws_markReplicaS_x hW k pv0_4 pc0_4 a_0.Replicas ph0_4 v7.1 v14 hx15 (Sep.m1 hS13)) ?_
  rintro _ h19 ⟨c17, rfl, hv18, hS20⟩
  simp only [run_mv, run_ops_nil, run_seq, run_reg, run_ret, B0, reduceIte, reduceEqDiff]
  have he := some_inj hF16
  subst he
  simp only [end_ret1, B0, reduceIte, reduceEqDiff]
  exact ⟨c10, c17, by first | trivial | rfl, hv11, hv18, (Sep.m1 hS20)⟩
theorem laws_heldIntS_x {W : Nat → Bool} {h : Heap} (hW : ∀ b,
    h.length ≤ b → W b = true) (k : Nat) (a_0 : List Int) (k_1 : Int) (r : Int) (hF : laws_heldIntS k a_0 k_1 = some r) : Ret E W 60 [lst cI a_0,
    .int .i64 k_1] h (fun v h' => cut h.length h' E.sz false 9 v = some (.int .i64 r)) := by
  refine Ret.of (fn := x60) rfl (Run.of ?_)
  unfold laws_heldIntS at hF
  have zf0 : argFr [lst cI a_0, .int .i64 k_1] 0 = lst cI a_0 := rfl
  have zf1 : argFr [lst cI a_0, .int .i64 k_1] 1 = .int .i64 k_1 := rfl
  generalize argFr [lst cI a_0, .int .i64 k_1] = fr0 at zf0 zf1 ⊢
  have hS : Sep h h.length [] := Sep.nil h
  simp only [x60, run_seq, run_reg, run_mv, run_ops_nil, x60_6, B0, reduceIte, reduceEqDiff]
  obtain ⟨oc7, hX9, hk10⟩ := jn_some hF
  simp only [x60_5]
  refine loopF_j (σ := Int × Int) (fun s36 => laws_heldIntS_b1 a_0 s36.1 s36.2)
      (fun s fr' h' => fr' 0 = lst cI a_0 ∧ fr' 1 = .int .i64 s.1 ∧ fr' 5 = .int .i64 s.2 ∧ Sep h' h.length ([])) hX9 ⟨by simp only [zf0, B0, reduceIte, reduceEqDiff],
      by simp only [zf1, B0, reduceIte, reduceEqDiff], by simp only [B0, reduceIte, reduceEqDiff], hS⟩ (fun _ _ _ h => h) ?_ ?_
  · rintro ⟨s3, s4⟩ fr19 h20 ⟨f22, f23, f24, hS21⟩ oc8 hF11 hr12 Q13 hN14 hK15 hR16 hE17
    dsimp only at *
    unfold laws_heldIntS_b1 at hF11
    simp only [x60_3, run_seq, run_reg, f24, run_mv, f22, run_len, put1_some, xlen_lst, run_bin, xlss, run_ops_nil, run_cond, B0, reduceIte, reduceEqDiff]
    refine cond_split (t := (decide (s4 < (List.length a_0 : Int)))) (fun hc26 => ?_) (fun hc26 => ?_)
    · rw [iteT hc26] at hF11
      obtain ⟨x27, hx28, hF29⟩ := bind_some' hF11
      simp only [run_skip, x60_2, run_seq, run_block, x60_1, run_reg, f22, run_mv, f24, run_ia, B0, reduceIte, reduceEqDiff]
      refine put1_eq (v := .ref (cI x27) 0) (xia_lst hx28 rfl) ?_
      simp only [run_ld, B0, reduceIte, reduceEqDiff]
      refine put1_eq (v := .int .i64 x27) rfl ?_
      simp only [f23, run_mv, run_bin, put1_some, xneq, run_ops_nil, run_cond, B0, reduceIte, reduceEqDiff]
      refine cond_split (t := (decide (x27 ≠ s3))) (fun hc30 => ?_) (fun hc30 => ?_)
      · rw [iteT hc30] at hF29
        simp only [run_seq, run_reg, run_mv, run_ops_nil, run_ret, B0, reduceIte, reduceEqDiff]
        have e31 := some_inj hF29
        subst e31
        have ho32 := hr12 _ rfl
        have hk33 := hk10
        rw [ho32] at hk33
        dsimp only [jnO] at hk33
        apply hR16
        have he := some_inj hk33
        subst he
        simp only [end_ret1, B0, reduceIte, reduceEqDiff]
        exact rfl
      rw [iteF hc30] at hF29
      simp only [run_skip, run_reg, f23, run_mv, run_bin, put1_some, xadd, run_ops_nil, run_blk, f24, run_nil, B0, reduceIte, reduceEqDiff]
      have e34 := some_inj hF29
      exact hN14 _ _ _ e34.symm ⟨by simp only [f22, B0, reduceIte, reduceEqDiff], by simp only [B0, reduceIte, reduceEqDiff], by simp only [B0, reduceIte, reduceEqDiff], hS21⟩
    rw [iteF hc26] at hF11
    simp only [run_exit, out_code, out_nil, B0, reduceIte, reduceEqDiff]
    have e35 := some_inj hF11
    exact hK15 _ _ _ e35.symm ⟨by simp only [f22, B0, reduceIte, reduceEqDiff], by simp only [f23, B0, reduceIte, reduceEqDiff], by simp only [f24, B0, reduceIte, reduceEqDiff],
        hS21⟩
  rintro ⟨s37, s38⟩ fr39 h40 rfl ⟨f42, f43, f44, hS41⟩
  dsimp only [jnO] at hk10
  dsimp only at *
  unfold laws_heldIntS_j1 at hk10
  simp only [run_seq, run_reg, f43, run_mv, run_ops_nil, run_ret, B0, reduceIte, reduceEqDiff]
  have he := some_inj hk10
  subst he
  simp only [end_ret1, B0, reduceIte, reduceEqDiff]
  exact rfl
theorem laws_heldRowS_x {W : Nat → Bool} {h : Heap} (hW : ∀ b,
    h.length ≤ b → W b = true) (k : Nat) (a_0 : List Row) (k_1 : Int) (r : Int) (hF : laws_heldRowS k a_0 k_1 = some r) : Ret E W 85 [lst Row.cells a_0,
    .int .i64 k_1] h (fun v h' => cut h.length h' E.sz false 9 v = some (.int .i64 r)) := by
  refine Ret.of (fn := x85) rfl (Run.of ?_)
  unfold laws_heldRowS at hF
  have zf0 : argFr [lst Row.cells a_0, .int .i64 k_1] 0 = lst Row.cells a_0 := rfl
  have zf1 : argFr [lst Row.cells a_0, .int .i64 k_1] 1 = .int .i64 k_1 := rfl
  generalize argFr [lst Row.cells a_0, .int .i64 k_1] = fr0 at zf0 zf1 ⊢
  have hS : Sep h h.length [] := Sep.nil h
  simp only [x85, run_seq, run_reg, run_mv, run_ops_nil, x85_8, B0, reduceIte, reduceEqDiff]
  obtain ⟨oc7, hX9, hk10⟩ := jn_some hF
  simp only [x85_7]
  refine loopF_j (σ := Int × Int) (fun s43 => laws_heldRowS_b1 a_0 s43.1 s43.2)
      (fun s fr' h' => fr' 0 = lst Row.cells a_0 ∧ fr' 1 = .int .i64 s.1 ∧ fr' 5 = .int .i64 s.2 ∧ Sep h' h.length ([])) hX9 ⟨by simp only [zf0, B0, reduceIte, reduceEqDiff],
      by simp only [zf1, B0, reduceIte, reduceEqDiff], by simp only [B0, reduceIte, reduceEqDiff], hS⟩ (fun _ _ _ h => h) ?_ ?_
  · rintro ⟨s3, s4⟩ fr19 h20 ⟨f22, f23, f24, hS21⟩ oc8 hF11 hr12 Q13 hN14 hK15 hR16 hE17
    dsimp only at *
    unfold laws_heldRowS_b1 at hF11
    simp only [x85_5, run_seq, run_reg, f24, run_mv, f22, run_len, put1_some, xlen_lst, run_bin, xlss, run_ops_nil, run_cond, B0, reduceIte, reduceEqDiff]
    refine cond_split (t := (decide (s4 < (List.length a_0 : Int)))) (fun hc26 => ?_) (fun hc26 => ?_)
    · rw [iteT hc26] at hF11
      obtain ⟨x27, hx28, hF29⟩ := bind_some' hF11
      simp only [run_skip, x85_4, run_seq, run_block, x85_3, run_reg, f22, run_mv, f24, run_ia, B0, reduceIte, reduceEqDiff]
      refine put1_eq (v := .ref (Row.cells x27) 0) (xia_lst hx28 rfl) ?_
      simp only [run_fa, put1_some, Nat.reduceAdd, Nat.zero_add, Nat.add_zero, xfa_ref, run_ld, B0, reduceIte, reduceEqDiff]
      refine put1_eq (v := .int .i64 x27.Epoch) rfl ?_
      simp only [f23, run_mv, run_bin, put1_some, xneq, run_ops_nil, run_cond, B0, reduceIte, reduceEqDiff]
      refine cond_split (t := (decide (x27.Epoch ≠ s3))) (fun hc30 => ?_) (fun hc30 => ?_)
      · rw [iteT hc30] at hF29
        simp only [run_seq, run_reg, run_mv, run_ops_nil, run_ret, B0, reduceIte, reduceEqDiff]
        have e31 := some_inj hF29
        subst e31
        have ho32 := hr12 _ rfl
        have hk33 := hk10
        rw [ho32] at hk33
        dsimp only [jnO] at hk33
        apply hR16
        have he := some_inj hk33
        subst he
        simp only [end_ret1, B0, reduceIte, reduceEqDiff]
        exact rfl
      rw [iteF hc30] at hF29
      obtain ⟨x34, hx35, hF36⟩ := bind_some' hF29
      simp only [run_skip, x85_2, run_seq, run_reg, f23, run_mv, run_bin, put1_some, xadd, run_ops_nil, x85_1, f22, f24, run_ia, B0, reduceIte, reduceEqDiff]
      refine put1_eq (v := .ref (Row.cells x34) 0) (xia_lst hx35 rfl) ?_
      simp only [run_fa, put1_some, Nat.reduceAdd, Nat.zero_add, Nat.add_zero, xfa_ref, run_ld, B0, reduceIte, reduceEqDiff]
      refine put1_eq (v := .int .i64 x34.Value) rfl ?_
      simp only [run_mv, run_bin, put1_some, xneq, run_ops_nil, run_cond, B0, reduceIte, reduceEqDiff]
      refine cond_split (t := (decide (x34.Value ≠ (IntKind.wrap .i64 (s3 + 1))))) (fun hc37 => ?_) (fun hc37 => ?_)
      · rw [iteT hc37] at hF36
        simp only [run_seq, run_reg, run_mv, run_ops_nil, run_ret, B0, reduceIte, reduceEqDiff]
        have e38 := some_inj hF36
        subst e38
        have ho39 := hr12 _ rfl
        have hk40 := hk10
        rw [ho39] at hk40
        dsimp only [jnO] at hk40
        apply hR16
        have he := some_inj hk40
        subst he
        simp only [end_ret1, B0, reduceIte, reduceEqDiff]
        exact rfl
      rw [iteF hc37] at hF36
      simp only [run_skip, run_reg, run_mv, run_bin, put1_some, xadd, run_ops_nil, run_blk, f24, run_nil, B0, reduceIte, reduceEqDiff]
      have e41 := some_inj hF36
      exact hN14 _ _ _ e41.symm ⟨by simp only [f22, B0, reduceIte, reduceEqDiff], by simp only [B0, reduceIte, reduceEqDiff], by simp only [B0, reduceIte, reduceEqDiff], hS21⟩
    rw [iteF hc26] at hF11
    simp only [run_exit, out_code, out_nil, B0, reduceIte, reduceEqDiff]
    have e42 := some_inj hF11
    exact hK15 _ _ _ e42.symm ⟨by simp only [f22, B0, reduceIte, reduceEqDiff], by simp only [f23, B0, reduceIte, reduceEqDiff], by simp only [f24, B0, reduceIte, reduceEqDiff],
        hS21⟩
  rintro ⟨s44, s45⟩ fr46 h47 rfl ⟨f49, f50, f51, hS48⟩
  dsimp only [jnO] at hk10
  dsimp only at *
  unfold laws_heldRowS_j1 at hk10
  simp only [run_seq, run_reg, f50, run_mv, run_ops_nil, run_ret, B0, reduceIte, reduceEqDiff]
  have he := some_inj hk10
  subst he
  simp only [end_ret1, B0, reduceIte, reduceEqDiff]
  exact rfl
theorem laws_heldReplicaS_x {W : Nat → Bool} {h : Heap} (hW : ∀ b,
    h.length ≤ b → W b = true) (k : Nat) (a_0 : List Replica) (k_1 : Int) (r : Int) (hF : laws_heldReplicaS k a_0 k_1 = some r) : Ret E W 61 [lst Replica.cells a_0,
    .int .i64 k_1] h (fun v h' => cut h.length h' E.sz false 9 v = some (.int .i64 r)) := by
  refine Ret.of (fn := x61) rfl (Run.of ?_)
  unfold laws_heldReplicaS at hF
  have zf0 : argFr [lst Replica.cells a_0, .int .i64 k_1] 0 = lst Replica.cells a_0 := rfl
  have zf1 : argFr [lst Replica.cells a_0, .int .i64 k_1] 1 = .int .i64 k_1 := rfl
  generalize argFr [lst Replica.cells a_0, .int .i64 k_1] = fr0 at zf0 zf1 ⊢
  have hS : Sep h h.length [] := Sep.nil h
  simp only [x61, run_seq, run_reg, run_mv, run_ops_nil, x61_10, B0, reduceIte, reduceEqDiff]
  obtain ⟨oc7, hX9, hk10⟩ := jn_some hF
  simp only [x61_9]
  refine loopF_j (σ := Int × Int) (fun s53 => laws_heldReplicaS_b1 k a_0 s53.1 s53.2)
      (fun s fr' h' => fr' 0 = lst Replica.cells a_0 ∧ fr' 1 = .int .i64 s.1 ∧ fr' 5 = .int .i64 s.2 ∧ Sep h' h.length ([])) hX9 ⟨by simp only [zf0, B0, reduceIte, reduceEqDiff],
      by simp only [zf1, B0, reduceIte, reduceEqDiff], by simp only [B0, reduceIte, reduceEqDiff], hS⟩ (fun _ _ _ h => h) ?_ ?_
  · rintro ⟨s3, s4⟩ fr19 h20 ⟨f22, f23, f24, hS21⟩ oc8 hF11 hr12 Q13 hN14 hK15 hR16 hE17
    dsimp only at *
    unfold laws_heldReplicaS_b1 at hF11
    simp only [x61_7, run_seq, run_reg, f24, run_mv, f22, run_len, put1_some, xlen_lst, run_bin, xlss, run_ops_nil, run_cond, B0, reduceIte, reduceEqDiff]
    refine cond_split (t := (decide (s4 < (List.length a_0 : Int)))) (fun hc26 => ?_) (fun hc26 => ?_)
    · rw [iteT hc26] at hF11
      obtain ⟨x27, hx28, hF29⟩ := bind_some' hF11
      simp only [run_skip, x61_6, run_seq, run_block, x61_5, run_reg, f22, run_mv, f24, run_ia, B0, reduceIte, reduceEqDiff]
      refine put1_eq (v := .ref (Replica.cells x27) 0) (xia_lst hx28 rfl) ?_
      simp only [run_fa, put1_some, Nat.reduceAdd, Nat.zero_add, Nat.add_zero, xfa_ref, run_ld, B0, reduceIte, reduceEqDiff]
      refine put1_eq (v := lst Row.cells x27.Log) rfl ?_
      obtain ⟨v30, hx31, hF32⟩ := bind_some' hF29
      simp only [f23, run_mv, run_call, B0, reduceIte, reduceEqDiff]
      refine call1 rfl (mapM1 snap_lst (mapM1 snap_int mapM0)) (laws_heldRowS_x (fun b hb => decide_eq_true hb) k x27.Log s3 v30 hx31) ?_
      simp only [run_mv, run_ops_nil, x61_4, run_seq, run_reg, run_bin, put1_some, xlss, run_cond, B0, reduceIte, reduceEqDiff]
      refine cond_split (t := (decide (v30 < 0))) (fun hc33 => ?_) (fun hc33 => ?_)
      · rw [iteT hc33] at hF32
        simp only [run_seq, run_reg, run_mv, run_ops_nil, run_ret, B0, reduceIte, reduceEqDiff]
        have e34 := some_inj hF32
        subst e34
        have ho35 := hr12 _ rfl
        have hk36 := hk10
        rw [ho35] at hk36
        dsimp only [jnO] at hk36
        apply hR16
        have he := some_inj hk36
        subst he
        simp only [end_ret1, B0, reduceIte, reduceEqDiff]
        exact rfl
      rw [iteF hc33] at hF32
      obtain ⟨x37, hx38, hF39⟩ := bind_some' hF32
      simp only [run_skip, x61_3, run_seq, run_reg, f22, run_mv, f24, run_ia, B0, reduceIte, reduceEqDiff]
      refine put1_eq (v := .ref (Replica.cells x37) 0) (xia_lst hx38 rfl) ?_
      simp only [run_fa, put1_some, Nat.reduceAdd, Nat.zero_add, Nat.add_zero, xfa_ref, run_ld, B0, reduceIte, reduceEqDiff]
      refine put1_eq (v := .int .i64 x37.Epoch) rfl ?_
      simp only [run_mv, run_bin, put1_some, xneq, run_ops_nil, run_cond, B0, reduceIte, reduceEqDiff]
      refine cond_split (t := (decide (x37.Epoch ≠ v30))) (fun hc40 => ?_) (fun hc40 => ?_)
      · rw [iteT hc40] at hF39
        simp only [run_seq, run_reg, run_mv, run_ops_nil, run_ret, B0, reduceIte, reduceEqDiff]
        have e41 := some_inj hF39
        subst e41
        have ho42 := hr12 _ rfl
        have hk43 := hk10
        rw [ho42] at hk43
        dsimp only [jnO] at hk43
        apply hR16
        have he := some_inj hk43
        subst he
        simp only [end_ret1, B0, reduceIte, reduceEqDiff]
        exact rfl
      rw [iteF hc40] at hF39
      obtain ⟨x44, hx45, hF46⟩ := bind_some' hF39
      simp only [run_skip, x61_2, run_seq, run_reg, run_mv, run_bin, put1_some, xadd, run_ops_nil, x61_1, f22, f24, run_ia, B0, reduceIte, reduceEqDiff]
      refine put1_eq (v := .ref (Replica.cells x44) 0) (xia_lst hx45 rfl) ?_
      simp only [run_fa, put1_some, Nat.reduceAdd, Nat.zero_add, Nat.add_zero, xfa_ref, run_ld, B0, reduceIte, reduceEqDiff]
      refine put1_eq (v := .int .i64 x44.Known) rfl ?_
      simp only [run_mv, run_bin, put1_some, xneq, run_ops_nil, run_cond, B0, reduceIte, reduceEqDiff]
      refine cond_split (t := (decide (x44.Known ≠ (IntKind.wrap .i64 (v30 + 1))))) (fun hc47 => ?_) (fun hc47 => ?_)
      · rw [iteT hc47] at hF46
        simp only [run_seq, run_reg, run_mv, run_ops_nil, run_ret, B0, reduceIte, reduceEqDiff]
        have e48 := some_inj hF46
        subst e48
        have ho49 := hr12 _ rfl
        have hk50 := hk10
        rw [ho49] at hk50
        dsimp only [jnO] at hk50
        apply hR16
        have he := some_inj hk50
        subst he
        simp only [end_ret1, B0, reduceIte, reduceEqDiff]
        exact rfl
      rw [iteF hc47] at hF46
      simp only [run_skip, run_reg, run_mv, run_bin, put1_some, xadd, run_ops_nil, run_blk, f24, run_nil, B0, reduceIte, reduceEqDiff]
      have e51 := some_inj hF46
      exact hN14 _ _ _ e51.symm ⟨by simp only [f22, B0, reduceIte, reduceEqDiff], by simp only [B0, reduceIte, reduceEqDiff], by simp only [B0, reduceIte, reduceEqDiff], hS21⟩
    rw [iteF hc26] at hF11
    simp only [run_exit, out_code, out_nil, B0, reduceIte, reduceEqDiff]
    have e52 := some_inj hF11
    exact hK15 _ _ _ e52.symm ⟨by simp only [f22, B0, reduceIte, reduceEqDiff], by simp only [f23, B0, reduceIte, reduceEqDiff], by simp only [f24, B0, reduceIte, reduceEqDiff],
        hS21⟩
  rintro ⟨s54, s55⟩ fr56 h57 rfl ⟨f59, f60, f61, hS58⟩
  dsimp only [jnO] at hk10
  dsimp only at *
  unfold laws_heldReplicaS_j1 at hk10
  simp only [run_seq, run_reg, f60, run_mv, run_ops_nil, run_ret, B0, reduceIte, reduceEqDiff]
  have he := some_inj hk10
  subst he
  simp only [end_ret1, B0, reduceIte, reduceEqDiff]
  exact rfl
theorem laws_heldGroup_x {W : Nat → Bool} {h : Heap} (hW : ∀ b,
    h.length ≤ b → W b = true) (k : Nat) (a_0 : Group) (k_1 : Int) (r : Int) (hF : laws_heldGroup k a_0 k_1 = some r) : Ret E W 14 [.agg [.int .i64 a_0.Epoch,
    .int .i64 a_0.Leader, lst cI a_0.InStep, .int .i64 a_0.High, lst Replica.cells a_0.Replicas],
    .int .i64 k_1] h (fun v h' => cut h.length h' E.sz false 9 v = some (.int .i64 r)) := by
  refine Ret.of (fn := x14) rfl (Run.of ?_)
  unfold laws_heldGroup at hF
  have zf0 : argFr [.agg [.int .i64 a_0.Epoch, .int .i64 a_0.Leader, lst cI a_0.InStep, .int .i64 a_0.High, lst Replica.cells a_0.Replicas],
      .int .i64 k_1] 0 = .agg [.int .i64 a_0.Epoch, .int .i64 a_0.Leader, lst cI a_0.InStep, .int .i64 a_0.High, lst Replica.cells a_0.Replicas] := rfl
  have zf1 : argFr [.agg [.int .i64 a_0.Epoch, .int .i64 a_0.Leader, lst cI a_0.InStep, .int .i64 a_0.High, lst Replica.cells a_0.Replicas], .int .i64 k_1] 1 = .int .i64 k_1 := rfl
  generalize argFr [.agg [.int .i64 a_0.Epoch, .int .i64 a_0.Leader, lst cI a_0.InStep, .int .i64 a_0.High, lst Replica.cells a_0.Replicas], .int .i64 k_1] = fr0 at zf0 zf1 ⊢
  have hS : Sep h h.length [] := Sep.nil h
  simp only [x14, run_seq, run_reg, run_box, zf0, B0, reduceIte, reduceEqDiff]
  refine put2_boxC (cs := [.int .i64 a_0.Epoch, .int .i64 a_0.Leader, lst cI a_0.InStep, .int .i64 a_0.High, lst Replica.cells a_0.Replicas]) hS rfl rfl rfl (fun b1 h2 hS3 => ?_)
  simp only [run_mv, run_ops_nil, B0, reduceIte, reduceEqDiff]
  refine frz_stepC hS3 hW (by simp only [B0, reduceIte, reduceEqDiff]) (fun h5 hS6 => ?_)
  simp only [run_frz_nil, x14_4, run_seq, run_reg, run_fa, put1_some, Nat.reduceAdd, Nat.zero_add, Nat.add_zero, xfa_ref, run_ld, B0, reduceIte, reduceEqDiff]
  refine put1_eq (v := lst cI a_0.InStep) rfl ?_
  obtain ⟨v7, hx8, hF9⟩ := bind_some' hF
  simp only [zf1, run_mv, run_call, B0, reduceIte, reduceEqDiff]
  refine call1 rfl (mapM1 snap_lst (mapM1 snap_int mapM0)) (laws_heldIntS_x (fun b hb => decide_eq_true hb) k a_0.InStep k_1 v7 hx8) ?_
  simp only [run_mv, run_ops_nil, x14_3, run_seq, run_reg, run_bin, put1_some, xlss, run_cond, B0, reduceIte, reduceEqDiff]
  refine cond_split (t := (decide (v7 < 0))) (fun hc10 => ?_) (fun hc10 => ?_)
  · rw [iteT hc10] at hF9
    simp only [run_seq, run_reg, run_mv, run_ops_nil, run_ret, B0, reduceIte, reduceEqDiff]
    have he := some_inj hF9
    subst he
    simp only [end_ret1, B0, reduceIte, reduceEqDiff]
    exact rfl
  rw [iteF hc10] at hF9
  simp only [run_skip, x14_2, run_seq, run_reg, run_fa, put1_some, Nat.reduceAdd, Nat.zero_add, Nat.add_zero, xfa_ref, run_ld, B0, reduceIte, reduceEqDiff]
  refine put1_eq (v := lst Replica.cells a_0.Replicas) rfl ?_
  obtain ⟨v11, hx12, hF13⟩ := bind_some' hF9
  simp only [run_mv, run_call, B0, reduceIte, reduceEqDiff]
  refine call1 rfl (mapM1 snap_lst (mapM1 snap_int mapM0)) (laws_heldReplicaS_x (fun b hb => decide_eq_true hb) k a_0.Replicas v7 v11 hx12) ?_
  simp only [run_mv, run_ops_nil, x14_1, run_seq, run_reg, run_bin, put1_some, xlss, run_cond, B0, reduceIte, reduceEqDiff]
  refine cond_split (t := (decide (v11 < 0))) (fun hc14 => ?_) (fun hc14 => ?_)
  · rw [iteT hc14] at hF13
    simp only [run_seq, run_reg, run_mv, run_ops_nil, run_ret, B0, reduceIte, reduceEqDiff]
    have he := some_inj hF13
    subst he
    simp only [end_ret1, B0, reduceIte, reduceEqDiff]
    exact rfl
  rw [iteF hc14] at hF13
  simp only [run_skip, run_seq, run_reg, run_mv, run_ops_nil, run_ret, B0, reduceIte, reduceEqDiff]
  have he := some_inj hF13
  subst he
  simp only [end_ret1, B0, reduceIte, reduceEqDiff]
  exact rfl
theorem laws_FnExactSettleGroup_x {W : Nat → Bool} {h : Heap} (hW : ∀ b,
    h.length ≤ b → W b = true) (k : Nat) (v_0 : Group) (r : Bool) (hF : laws_FnExactSettleGroup k v_0 = some r) : Ret E W 3 [.agg [.int .i64 v_0.Epoch, .int .i64 v_0.Leader,
    lst cI v_0.InStep, .int .i64 v_0.High, lst Replica.cells v_0.Replicas]] h (fun v h' => cut h.length h' E.sz false 9 v = some (.bool r)) := by
  refine Ret.of (fn := x3) rfl (Run.of ?_)
  unfold laws_FnExactSettleGroup at hF
  have zf0 : argFr [.agg [.int .i64 v_0.Epoch, .int .i64 v_0.Leader, lst cI v_0.InStep, .int .i64 v_0.High, lst Replica.cells v_0.Replicas]] 0 = .agg [.int .i64 v_0.Epoch,
      .int .i64 v_0.Leader, lst cI v_0.InStep, .int .i64 v_0.High, lst Replica.cells v_0.Replicas] := rfl
  generalize argFr [.agg [.int .i64 v_0.Epoch, .int .i64 v_0.Leader, lst cI v_0.InStep, .int .i64 v_0.High, lst Replica.cells v_0.Replicas]] = fr0 at zf0 ⊢
  have hS : Sep h h.length [] := Sep.nil h
  simp only [x3, run_seq, run_reg, run_box, zf0, B0, reduceIte, reduceEqDiff]
  refine put2_boxC (cs := [.int .i64 v_0.Epoch, .int .i64 v_0.Leader, lst cI v_0.InStep, .int .i64 v_0.High, lst Replica.cells v_0.Replicas]) hS rfl rfl rfl (fun b1 h2 hS3 => ?_)
  simp only [run_mv, run_ops_nil, B0, reduceIte, reduceEqDiff]
  refine frz_stepC hS3 hW (by simp only [B0, reduceIte, reduceEqDiff]) (fun h5 hS6 => ?_)
  simp only [run_frz_nil, x3_23, run_seq, run_reg, run_mv, run_ops_nil, x3_22, run_ld, B0, reduceIte, reduceEqDiff]
  refine put1_eq (v := .agg [.int .i64 v_0.Epoch, .int .i64 v_0.Leader, lst cI v_0.InStep, .int .i64 v_0.High, lst Replica.cells v_0.Replicas]) rfl ?_
  obtain ⟨v7, hx8, hF9⟩ := bind_some' hF
  simp only [run_mv, run_call, B0, reduceIte, reduceEqDiff]
  refine call1 rfl (mapM1 (snap_agg (mapM1 snap_int (mapM1 snap_int (mapM1 snap_lst (mapM1 snap_int (mapM1 snap_lst mapM0)))))) (mapM1 snap_int mapM0)) (laws_szGroup_x
      (fun b hb => decide_eq_true hb) k v_0 1048576 v7 hx8) ?_
  simp only [run_mv, run_ops_nil, x3_21, run_seq, run_reg, run_bin, put1_some, xlss, run_cond, B0, reduceIte, reduceEqDiff]
  refine cond_split (t := (decide (v7 < 0))) (fun hc10 => ?_) (fun hc10 => ?_)
  · rw [iteT hc10] at hF9
    simp only [run_seq, run_reg, run_mv, run_ops_nil, run_ret, B0, reduceIte, reduceEqDiff]
    have he := some_inj hF9
    subst he
    simp only [end_ret1, B0, reduceIte, reduceEqDiff]
    exact rfl
  rw [iteF hc10] at hF9
  simp only [run_skip, x3_20, run_seq, run_reg, run_ld, B0, reduceIte, reduceEqDiff]
  refine put1_eq (v := .agg [.int .i64 v_0.Epoch, .int .i64 v_0.Leader, lst cI v_0.InStep, .int .i64 v_0.High, lst Replica.cells v_0.Replicas]) rfl ?_
  obtain ⟨v11, hx12, hF13⟩ := bind_some' hF9
  simp only [run_call, B0, reduceIte, reduceEqDiff]
  refine call2 rfl hS6 (mapM1 (snap_agg (mapM1 snap_int (mapM1 snap_int (mapM1 snap_lst (mapM1 snap_int (mapM1 snap_lst mapM0)))))) mapM0) (laws_toGroup_x
      (fun b hb => decide_eq_true hb) k v_0 v11 hx12) ?_
  rintro _ h22 ⟨v14, c15, v18, c19, rfl, hv16, hv20, hS23⟩
  refine ⟨_, free_a (all_c rfl (all_c rfl (all_c (SlF.free1 hv16) (all_c rfl (all_c (SlN.free1 hv20) all_n))))), hS23,
      (pf_app (SlF.pf hv16 (fun _ => rfl)) (pf_app (SlN.pf hv20 Replica.RO) pf_nil)), fun h24 hS25 => ?_⟩
  have hS26 : Sep h24 h.length (c15 ++ (c19 ++ ([]))) := by simpa only [List.append_assoc, List.nil_append] using hS25
  obtain ⟨v27, hx28, hF29⟩ := bind_some' hF13
  simp only [run_call, B0, reduceIte, reduceEqDiff]
  refine call2 rfl hS26 (mapM1 (snap_agg (mapM1 snap_int (mapM1 snap_int (mapM1 (SlF.snap hv16 hS26 rfl (fun _ => rfl) (fun _ => rfl)) (mapM1 snap_int (mapM1 (SlN.snap hv20 _
      (Sep.m1 hS26) rfl Replica.RO) mapM0)))))) mapM0) (spec_SettleGroup_x (fun b hb => decide_eq_true hb) k v11 v27 hx28) ?_
  rintro _ h38 ⟨v30, c31, v34, c35, rfl, hv32, hv36, hS39⟩
  refine ⟨_, free_t (all_c (free2_a (all_c rfl (all_c rfl (all_c (SlF.free1 hv32) (all_c rfl (all_c (SlN.free1 hv36) all_n)))))) (all_c rfl (all_c rfl all_n))), hS39,
      (pf_app (SlF.pf hv32 (fun _ => rfl)) (pf_app (SlN.pf hv36 Replica.RO) pf_nil)), fun h40 hS41 => ?_⟩
  have hS42 : Sep h40 h.length (c31 ++ (c35 ++ (c15 ++ (c19 ++ ([]))))) := by simpa only [List.append_assoc, List.nil_append] using hS41
  simp only [run_mv, run_ext, put1_some, xext_0, xext_1, xext_2, run_new, B0, reduceIte, reduceEqDiff]
  refine put2_newC hS42 (fun b43 h44 hS45 => ?_)
  simp only [run_st, B0, reduceIte, reduceEqDiff]
  refine put2_stCx (us := [.int .i64 v27.1.Epoch, .int .i64 v27.1.Leader, v30, .int .i64 v27.1.High, v34]) rfl (cs' := [.int .i64 v27.1.Epoch, .int .i64 v27.1.Leader, v30,
      .int .i64 v27.1.High, v34]) hS45 hW rfl (all_c rfl (all_c rfl (all_c (SlF.one hv32) (all_c rfl (all_c (SlN.one hv36) all_n))))) (Nat.le_of_ble_eq_true rfl) rfl
      (fun h47 hS48 => ?_)
  simp only [run_mv, run_ops_nil, B0, reduceIte, reduceEqDiff]
  refine frz_stepC hS48 hW (by simp only [B0, reduceIte, reduceEqDiff]) (fun h49 hS50 => ?_)
  simp only [run_frz_nil, x3_19, run_seq, run_reg, run_ld, B0, reduceIte, reduceEqDiff]
  refine put1_eq (v := .agg [.int .i64 v_0.Epoch, .int .i64 v_0.Leader, lst cI v_0.InStep, .int .i64 v_0.High, lst Replica.cells v_0.Replicas]) rfl ?_
  obtain ⟨v51, hx52, hF53⟩ := bind_some' hF29
  simp only [run_call, B0, reduceIte, reduceEqDiff]
  refine call2 rfl hS50 (mapM1 (snap_agg (mapM1 snap_int (mapM1 snap_int (mapM1 snap_lst (mapM1 snap_int (mapM1 snap_lst mapM0)))))) mapM0) (laws_toGroup_x
      (fun b hb => decide_eq_true hb) k v_0 v51 hx52) ?_
  rintro _ h62 ⟨v54, c55, v58, c59, rfl, hv56, hv60, hS63⟩
  refine ⟨_, free_a (all_c rfl (all_c rfl (all_c (SlF.free1 hv56) (all_c rfl (all_c (SlN.free1 hv60) all_n))))), hS63,
      (pf_app (SlF.pf hv56 (fun _ => rfl)) (pf_app (SlN.pf hv60 Replica.RO) pf_nil)), fun h64 hS65 => ?_⟩
  have hS66 : Sep h64 h.length (c55 ++ (c59 ++ (c31 ++ (c35 ++ (c15 ++ (c19 ++ ([]))))))) := by simpa only [List.append_assoc, List.nil_append] using hS65
  simp only [run_new, B0, reduceIte, reduceEqDiff]
  refine put2_newC hS66 (fun b67 h68 hS69 => ?_)
  simp only [run_st, B0, reduceIte, reduceEqDiff]
  refine put2_stCx (us := [.int .i64 v51.Epoch, .int .i64 v51.Leader, v54, .int .i64 v51.High, v58]) rfl (cs' := [.int .i64 v51.Epoch, .int .i64 v51.Leader, v54,
      .int .i64 v51.High, v58]) hS69 hW rfl (all_c rfl (all_c rfl (all_c (SlF.one hv56) (all_c rfl (all_c (SlN.one hv60) all_n))))) (Nat.le_of_ble_eq_true rfl) rfl
      (fun h71 hS72 => ?_)
  simp only [run_ops_nil, B0, reduceIte, reduceEqDiff]
  refine frz_stepC hS72 hW (by simp only [B0, reduceIte, reduceEqDiff]) (fun h73 hS74 => ?_)
  simp only [run_frz_nil, x3_18, run_seq, run_reg, run_ld, B0, reduceIte, reduceEqDiff]
  refine put1_eq (v := .agg [.int .i64 v51.Epoch, .int .i64 v51.Leader, v54, .int .i64 v51.High, v58]) rfl ?_
  obtain ⟨v75, hx76, hF77⟩ := bind_some' hF53
  simp only [run_call, B0, reduceIte, reduceEqDiff]
  refine call2 rfl hS74 (mapM1 (snap_agg (mapM1 snap_int (mapM1 snap_int (mapM1 (SlF.snap hv56 hS74 rfl (fun _ => rfl) (fun _ => rfl)) (mapM1 snap_int (mapM1 (SlN.snap hv60 _
      (Sep.m1 hS74) rfl Replica.RO) mapM0)))))) mapM0) (impl_SettleGroup_x (fun b hb => decide_eq_true hb) k v51 v75 hx76) ?_
  rintro _ h86 ⟨v78, c79, v82, c83, rfl, hv80, hv84, hS87⟩
  refine ⟨_, free_t (all_c (free2_a (all_c rfl (all_c rfl (all_c (SlF.free1 hv80) (all_c rfl (all_c (SlN.free1 hv84) all_n)))))) (all_c rfl (all_c rfl all_n))), hS87,
      (pf_app (SlF.pf hv80 (fun _ => rfl)) (pf_app (SlN.pf hv84 Replica.RO) pf_nil)), fun h88 hS89 => ?_⟩
  have hS90 : Sep h88 h.length (c79 ++ (c83 ++ (c55 ++ (c59 ++ (c31 ++ (c35 ++ (c15 ++ (c19 ++ ([]))))))))) := by simpa only [List.append_assoc, List.nil_append] using hS89
  simp only [run_mv, run_ext, put1_some, xext_0, xext_1, xext_2, run_new, B0, reduceIte, reduceEqDiff]
  refine put2_newC hS90 (fun b91 h92 hS93 => ?_)
  simp only [run_st, B0, reduceIte, reduceEqDiff]
  refine put2_stCx (us := [.int .i64 v75.1.Epoch, .int .i64 v75.1.Leader, v78, .int .i64 v75.1.High, v82]) rfl (cs' := [.int .i64 v75.1.Epoch, .int .i64 v75.1.Leader, v78,
      .int .i64 v75.1.High, v82]) hS93 hW rfl (all_c rfl (all_c rfl (all_c (SlF.one hv80) (all_c rfl (all_c (SlN.one hv84) all_n))))) (Nat.le_of_ble_eq_true rfl) rfl
      (fun h95 hS96 => ?_)
  simp only [run_mv, run_ops_nil, B0, reduceIte, reduceEqDiff]
  refine frz_stepC hS96 hW (by simp only [B0, reduceIte, reduceEqDiff]) (fun h97 hS98 => ?_)
  simp only [run_frz_nil, x3_17, run_seq, run_reg, run_ld, B0, reduceIte, reduceEqDiff]
  refine put1_eq (v := .agg [.int .i64 v75.1.Epoch, .int .i64 v75.1.Leader, v78, .int .i64 v75.1.High, v82]) rfl ?_
  simp only [run_ld, B0, reduceIte, reduceEqDiff]
  refine put1_eq (v := .agg [.int .i64 v27.1.Epoch, .int .i64 v27.1.Leader, v30, .int .i64 v27.1.High, v34]) rfl ?_
  obtain ⟨v99, hx100, hF101⟩ := bind_some' hF77
  simp only [run_call, B0, reduceIte, reduceEqDiff]
  refine call1 rfl (mapM1 (snap_agg (mapM1 snap_int (mapM1 snap_int (mapM1 (SlF.snap hv80 hS98 rfl (fun _ => rfl) (fun _ => rfl)) (mapM1 snap_int (mapM1 (SlN.snap hv84 _
      (Sep.m1 hS98) rfl Replica.RO) mapM0)))))) (mapM1 (snap_agg (mapM1 snap_int (mapM1 snap_int (mapM1 (SlF.snap hv32 (Sep.m4 hS98) rfl (fun _ => rfl) (fun _ => rfl))
      (mapM1 snap_int (mapM1 (SlN.snap hv36 _ (Sep.m5 hS98) rfl Replica.RO) mapM0)))))) mapM0)) (laws_eqGroup_x (fun b hb => decide_eq_true hb) k v75.1 v27.1 v99 hx100) ?_
  simp only [run_un, put1_some, xnot, run_mv, B0, reduceIte, reduceEqDiff]
  refine ops_j 4 (fun fr' h' => Sep h' h.length (c31 ++ (c35 ++ (c55 ++ (c59 ++ (c79 ++ (c83 ++ ([]))))))) ∧ fr' 45 = .bool ((!v99) || (decide
      (v75.2.1 ≠ v27.2.1))) ∧ fr' 1 = .ref [.int .i64 v_0.Epoch, .int .i64 v_0.Leader, lst cI v_0.InStep, .int .i64 v_0.High,
      lst Replica.cells v_0.Replicas] 0 ∧ fr' 4 = .ref [.int .i64 v27.1.Epoch, .int .i64 v27.1.Leader, v30, .int .i64 v27.1.High,
      v34] 0 ∧ fr' 5 = .int .i64 v27.2.1 ∧ fr' 6 = .bool v27.2.2 ∧ fr' 7 = .ref [.int .i64 v51.Epoch, .int .i64 v51.Leader, v54, .int .i64 v51.High,
      v58] 0 ∧ fr' 8 = .ref [.int .i64 v75.1.Epoch, .int .i64 v75.1.Leader, v78, .int .i64 v75.1.High,
      v82] 0 ∧ fr' 9 = .int .i64 v75.2.1 ∧ fr' 10 = .bool v75.2.2) (fun Q102 hN103 => ?_) ?_
  · simp only [List.take_succ_cons, List.take_zero]
    simp only [run_guard (g := 41), B0, reduceIte, reduceEqDiff]
    refine guard_split (t := (!v99)) (fun hg104 => ?_) (fun hg104 => ?_)
    · simp only [hg104, run_guard (g := 41), guard_off', run_pick, put1_some, xpick_t, run_ops_nil, run_nil, B0, reduceIte, reduceEqDiff]
      exact hN103 _ _ ⟨(Sep.m5 (Sep.m5 (Sep.m3 (Sep.m3 (Sep.m1 (Sep.m1 (Sep.dc (Sep.m6 (Sep.dc (Sep.m6 hS98)))))))))), by rw [orT hg104]; simp only [B0, reduceIte, reduceEqDiff],
          by simp only [B0, reduceIte, reduceEqDiff], by simp only [B0, reduceIte, reduceEqDiff], by simp only [B0, reduceIte, reduceEqDiff], by simp only [B0, reduceIte,
          reduceEqDiff], by simp only [B0, reduceIte, reduceEqDiff], by simp only [B0, reduceIte, reduceEqDiff], by simp only [B0, reduceIte, reduceEqDiff], by simp only [B0,
          reduceIte, reduceEqDiff]⟩
    · simp only [hg104, run_guard (g := 41), guard_false, run_mv, run_bin, put1_some, xneq, run_pick, xpick_f, run_ops_nil, run_nil, B0, reduceIte, reduceEqDiff]
      exact hN103 _ _ ⟨(Sep.m5 (Sep.m5 (Sep.m3 (Sep.m3 (Sep.m1 (Sep.m1 (Sep.dc (Sep.m6 (Sep.dc (Sep.m6 hS98)))))))))), by rw [orF hg104]; simp only [B0, reduceIte, reduceEqDiff],
          by simp only [B0, reduceIte, reduceEqDiff], by simp only [B0, reduceIte, reduceEqDiff], by simp only [B0, reduceIte, reduceEqDiff], by simp only [B0, reduceIte,
          reduceEqDiff], by simp only [B0, reduceIte, reduceEqDiff], by simp only [B0, reduceIte, reduceEqDiff], by simp only [B0, reduceIte, reduceEqDiff], by simp only [B0,
          reduceIte, reduceEqDiff]⟩
  rintro fr105 h115 ⟨hS116, f106, f107, f108, f109, f110, f111, f112, f113, f114⟩
  simp only [List.drop_succ_cons, List.drop_zero]
  simp only [f106, run_mv, B0, reduceIte, reduceEqDiff]
  refine ops_j 4 (fun fr' h' => Sep h' h.length (c31 ++ (c35 ++ (c55 ++ (c59 ++ (c79 ++ (c83 ++ ([]))))))) ∧ fr' 50 = .bool (((!v99) || (decide (v75.2.1 ≠ v27.2.1))) ||
      (!(v75.2.2 == v27.2.2))) ∧ fr' 1 = .ref [.int .i64 v_0.Epoch, .int .i64 v_0.Leader, lst cI v_0.InStep, .int .i64 v_0.High,
      lst Replica.cells v_0.Replicas] 0 ∧ fr' 4 = .ref [.int .i64 v27.1.Epoch, .int .i64 v27.1.Leader, v30, .int .i64 v27.1.High,
      v34] 0 ∧ fr' 5 = .int .i64 v27.2.1 ∧ fr' 6 = .bool v27.2.2 ∧ fr' 7 = .ref [.int .i64 v51.Epoch, .int .i64 v51.Leader, v54, .int .i64 v51.High,
      v58] 0 ∧ fr' 8 = .ref [.int .i64 v75.1.Epoch, .int .i64 v75.1.Leader, v78, .int .i64 v75.1.High,
      v82] 0 ∧ fr' 9 = .int .i64 v75.2.1 ∧ fr' 10 = .bool v75.2.2) (fun Q117 hN118 => ?_) ?_
  · simp only [List.take_succ_cons, List.take_zero]
    simp only [run_guard (g := 46), B0, reduceIte, reduceEqDiff]
    refine guard_split (t := ((!v99) || (decide (v75.2.1 ≠ v27.2.1)))) (fun hg119 => ?_) (fun hg119 => ?_)
    · simp only [hg119, run_guard (g := 46), guard_off', run_pick, put1_some, xpick_t, run_ops_nil, run_nil, B0, reduceIte, reduceEqDiff]
      exact hN118 _ _ ⟨(Sep.m5 (Sep.m5 (Sep.m5 (Sep.m5 (Sep.m5 (Sep.m5 hS116)))))), by rw [orT hg119]; simp only [B0, reduceIte, reduceEqDiff], by simp only [f107, B0, reduceIte,
          reduceEqDiff], by simp only [f108, B0, reduceIte, reduceEqDiff], by simp only [f109, B0, reduceIte, reduceEqDiff], by simp only [f110, B0, reduceIte, reduceEqDiff],
          by simp only [f111, B0, reduceIte, reduceEqDiff], by simp only [f112, B0, reduceIte, reduceEqDiff], by simp only [f113, B0, reduceIte, reduceEqDiff], by simp only [f114,
          B0, reduceIte, reduceEqDiff]⟩
    · simp only [hg119, run_guard (g := 46), guard_false, f114, run_mv, f110, run_eqb, put1_some, xeqb_t, run_pick, xpick_f, run_ops_nil, run_nil, B0, reduceIte, reduceEqDiff]
      exact hN118 _ _ ⟨(Sep.m5 (Sep.m5 (Sep.m5 (Sep.m5 (Sep.m5 (Sep.m5 hS116)))))), by rw [orF hg119]; simp only [B0, reduceIte, reduceEqDiff], by simp only [f107, B0, reduceIte,
          reduceEqDiff], by simp only [f108, B0, reduceIte, reduceEqDiff], by simp only [f109, B0, reduceIte, reduceEqDiff], by simp only [f110, B0, reduceIte, reduceEqDiff],
          by simp only [f111, B0, reduceIte, reduceEqDiff], by simp only [f112, B0, reduceIte, reduceEqDiff], by simp only [f113, B0, reduceIte, reduceEqDiff], by simp only [f114,
          B0, reduceIte, reduceEqDiff]⟩
  rintro fr120 h130 ⟨hS131, f121, f122, f123, f124, f125, f126, f127, f128, f129⟩
  simp only [List.drop_succ_cons, List.drop_zero]
  simp only [run_ops_nil, f121, run_cond, B0, reduceIte, reduceEqDiff]
  refine cond_split (t := (((!v99) || (decide (v75.2.1 ≠ v27.2.1))) || (!(v75.2.2 == v27.2.2)))) (fun hc132 => ?_) (fun hc132 => ?_)
  · rw [iteT hc132] at hF101
    simp only [run_seq, run_reg, run_mv, run_ops_nil, run_ret, B0, reduceIte, reduceEqDiff]
    have he := some_inj hF101
    subst he
    simp only [end_ret1, B0, reduceIte, reduceEqDiff]
    exact rfl
  rw [iteF hc132] at hF101
  simp only [run_skip, x3_16, run_seq, run_draw, f126, d1_ld, ldd_ref, B0, reduceIte, reduceEqDiff]
  refine put1d_eq (v := .agg [.int .i64 v51.Epoch, .int .i64 v51.Leader, v54, .int .i64 v51.High, v58]) rfl ?_
  simp only [f122, d4_ld, B0, reduceIte, reduceEqDiff]
  refine put1d_eq (v := .agg [.int .i64 v_0.Epoch, .int .i64 v_0.Leader, lst cI v_0.InStep, .int .i64 v_0.High, lst Replica.cells v_0.Replicas]) rfl ?_
  obtain ⟨v133, hx134, hF135⟩ := bind_some' hF101
  simp only [run_d2_call, B0, reduceIte, reduceEqDiff]
  refine call2q rfl hS131 (mapM1 (snap_agg (mapM1 snap_int (mapM1 snap_int (mapM1 snap_lst (mapM1 snap_int (mapM1 snap_lst mapM0)))))) mapM0) (laws_toGroup_x
      (fun b hb => decide_eq_true hb) k v_0 v133 hx134) ?_
  rintro _ h144 ⟨v136, c137, v140, c141, rfl, hv138, hv142, hS145⟩
  refine ⟨_, free_a (all_c rfl (all_c rfl (all_c (SlF.free1 hv138) (all_c rfl (all_c (SlN.free1 hv142) all_n))))), hS145,
      (pf_app (SlF.pf hv138 (fun _ => rfl)) (pf_app (SlN.pf hv142 Replica.RO) pf_nil)), fun h146 hS147 => ?_⟩
  have hS148 : Sep h146 h.length (c137 ++ (c141 ++ (c31 ++ (c35 ++ (c55 ++ (c59 ++ (c79 ++ (c83 ++ ([]))))))))) := by simpa only [List.append_assoc, List.nil_append] using hS147
  obtain ⟨v149, hx150, hF151⟩ := bind_some' hF135
  simp only [run_d3_call, B0, reduceIte, reduceEqDiff]
  refine call1d rfl (mapM1 (snap_agg (mapM1 snap_int (mapM1 snap_int (mapM1 (SlF.snap hv56 (Sep.m4 hS148) rfl (fun _ => rfl) (fun _ => rfl)) (mapM1 snap_int (mapM1
      (SlN.snap hv60 _ (Sep.m5 hS148) rfl Replica.RO) mapM0)))))) (mapM1 (snap_agg (mapM1 snap_int (mapM1 snap_int (mapM1 (SlF.snap hv138 hS148 rfl (fun _ => rfl) (fun _ => rfl))
      (mapM1 snap_int (mapM1 (SlN.snap hv142 _ (Sep.m1 hS148) rfl Replica.RO) mapM0)))))) mapM0)) (laws_eqGroup_x (fun b hb => decide_eq_true hb) k v51 v133 v149 hx150) ?_
  simp only [d4_un, put1d_some, xnot, run_draw_nil, run_cond, B0, reduceIte, reduceEqDiff]
  refine cond_split (t := (!v149)) (fun hc152 => ?_) (fun hc152 => ?_)
  · rw [iteT hc152] at hF151
    simp only [run_seq, run_reg, run_mv, run_ops_nil, run_ret, B0, reduceIte, reduceEqDiff]
    have he := some_inj hF151
    subst he
    simp only [end_ret1, B0, reduceIte, reduceEqDiff]
    exact rfl
  rw [iteF hc152] at hF151
  simp only [run_skip, x3_15, run_seq, run_reg, run_mv, run_ops_nil, x3_14, f126, run_ld, B0, reduceIte, reduceEqDiff]
  refine put1_eq (v := .agg [.int .i64 v51.Epoch, .int .i64 v51.Leader, v54, .int .i64 v51.High, v58]) rfl ?_
  obtain ⟨v153, hx154, hF155⟩ := bind_some' hF151
  simp only [run_mv, run_call, B0, reduceIte, reduceEqDiff]
  refine call0 rfl (laws_markGroup_x hW k v51 v54 c55 hv56 v58 c59 hv60 1 v153 hx154 (Sep.m5 (Sep.m5 hS148))) ?_
  rintro _ h160 ⟨c156, c158, rfl, hv157, hv159, hS161⟩
  simp only [run_mv, run_ops_nil, x3_13, run_seq, run_reg, run_bin, put1_some, xlss, B0, reduceIte, reduceEqDiff]
  obtain ⟨v165, hx166, hF167⟩ := bind_some' hF155
  refine ops_j 5 (fun fr' h' => Sep h' h.length (c31 ++ (c35 ++ (c79 ++ (c83 ++ ([]))))) ∧ fr' 66 = .bool v165 ∧ fr' 1 = .ref [.int .i64 v_0.Epoch, .int .i64 v_0.Leader,
      lst cI v_0.InStep, .int .i64 v_0.High, lst Replica.cells v_0.Replicas] 0 ∧ fr' 4 = .ref [.int .i64 v27.1.Epoch, .int .i64 v27.1.Leader, v30, .int .i64 v27.1.High,
      v34] 0 ∧ fr' 5 = .int .i64 v27.2.1 ∧ fr' 6 = .bool v27.2.2 ∧ fr' 8 = .ref [.int .i64 v75.1.Epoch, .int .i64 v75.1.Leader, v78, .int .i64 v75.1.High,
      v82] 0 ∧ fr' 9 = .int .i64 v75.2.1 ∧ fr' 10 = .bool v75.2.2) (fun Q162 hN163 => ?_) ?_
  · simp only [List.take_succ_cons, List.take_zero]
    simp only [run_guard (g := 61), B0, reduceIte, reduceEqDiff]
    refine guard_split (t := (decide (v153.1 < 0))) (fun hg164 => ?_) (fun hg164 => ?_)
    · rw [iteT hg164] at hx166
      simp only [hg164, run_guard (g := 61), guard_off', run_pick, put1_some, xpick_t, run_ops_nil, run_nil, B0, reduceIte, reduceEqDiff]
      have e168 := some_inj hx166
      exact hN163 _ _ ⟨(Sep.m3 (Sep.m3 (Sep.m3 (Sep.m3 (Sep.dc ((Sep.dc ((Sep.dc ((Sep.dc (hS161)))))))))))), by rw [← e168]; simp only [B0, reduceIte, reduceEqDiff],
          by simp only [f122, B0, reduceIte, reduceEqDiff], by simp only [f123, B0, reduceIte, reduceEqDiff], by simp only [f124, B0, reduceIte, reduceEqDiff], by simp only [f125,
          B0, reduceIte, reduceEqDiff], by simp only [f127, B0, reduceIte, reduceEqDiff], by simp only [f128, B0, reduceIte, reduceEqDiff], by simp only [f129, B0, reduceIte,
          reduceEqDiff]⟩
    · rw [iteF hg164] at hx166
      simp only [hg164, run_guard (g := 61), guard_false, f127, run_ld, B0, reduceIte, reduceEqDiff]
      refine put1_eq (v := .agg [.int .i64 v75.1.Epoch, .int .i64 v75.1.Leader, v78, .int .i64 v75.1.High, v82]) rfl ?_
      simp only [hg164, run_guard (g := 61), guard_false, f123, run_ld, B0, reduceIte, reduceEqDiff]
      refine put1_eq (v := .agg [.int .i64 v27.1.Epoch, .int .i64 v27.1.Leader, v30, .int .i64 v27.1.High, v34]) rfl ?_
      obtain ⟨v169, hx170, hF171⟩ := bind_some' hx166
      simp only [hg164, run_guard (g := 61), guard_false, run_call, B0, reduceIte, reduceEqDiff]
      refine call1 rfl (mapM1 (snap_agg (mapM1 snap_int (mapM1 snap_int (mapM1 (SlF.snap hv80 (Sep.m6 hS161) rfl (fun _ => rfl) (fun _ => rfl)) (mapM1 snap_int (mapM1
          (SlN.snap hv84 _ (Sep.m7 hS161) rfl Replica.RO) mapM0)))))) (mapM1 (snap_agg (mapM1 snap_int (mapM1 snap_int (mapM1 (SlF.snap hv32 (Sep.m4 hS161) rfl (fun _ => rfl)
          (fun _ => rfl)) (mapM1 snap_int (mapM1 (SlN.snap hv36 _ (Sep.m5 hS161) rfl Replica.RO) mapM0)))))) mapM0)) (laws_eqGroup_x
          (fun b hb => decide_eq_true hb) k v75.1 v27.1 v169 hx170) ?_
      simp only [hg164, run_guard (g := 61), guard_false, run_un, put1_some, xnot, run_pick, xpick_f, run_ops_nil, run_nil, B0, reduceIte, reduceEqDiff]
      have e172 := some_inj hF171
      exact hN163 _ _ ⟨(Sep.m3 (Sep.m3 (Sep.m3 (Sep.m3 (Sep.dc ((Sep.dc ((Sep.dc ((Sep.dc (hS161)))))))))))), by rw [← e172]; simp only [B0, reduceIte, reduceEqDiff],
          by simp only [f122, B0, reduceIte, reduceEqDiff], by simp only [f123, B0, reduceIte, reduceEqDiff], by simp only [f124, B0, reduceIte, reduceEqDiff], by simp only [f125,
          B0, reduceIte, reduceEqDiff], by simp only [f127, B0, reduceIte, reduceEqDiff], by simp only [f128, B0, reduceIte, reduceEqDiff], by simp only [f129, B0, reduceIte,
          reduceEqDiff]⟩
  rintro fr173 h182 ⟨hS183, f174, f175, f176, f177, f178, f179, f180, f181⟩
  simp only [List.drop_succ_cons, List.drop_zero]
  simp only [f174, run_mv, B0, reduceIte, reduceEqDiff]
  refine ops_j 4 (fun fr' h' => Sep h' h.length (c31 ++ (c35 ++ (c79 ++ (c83 ++ ([]))))) ∧ fr' 71 = .bool (v165 || (decide
      (v75.2.1 ≠ v27.2.1))) ∧ fr' 1 = .ref [.int .i64 v_0.Epoch, .int .i64 v_0.Leader, lst cI v_0.InStep, .int .i64 v_0.High,
      lst Replica.cells v_0.Replicas] 0 ∧ fr' 4 = .ref [.int .i64 v27.1.Epoch, .int .i64 v27.1.Leader, v30, .int .i64 v27.1.High,
      v34] 0 ∧ fr' 5 = .int .i64 v27.2.1 ∧ fr' 6 = .bool v27.2.2 ∧ fr' 8 = .ref [.int .i64 v75.1.Epoch, .int .i64 v75.1.Leader, v78, .int .i64 v75.1.High,
      v82] 0 ∧ fr' 10 = .bool v75.2.2) (fun Q184 hN185 => ?_) ?_
  · simp only [List.take_succ_cons, List.take_zero]
    simp only [run_guard (g := 67), B0, reduceIte, reduceEqDiff]
    refine guard_split (t := v165) (fun hg186 => ?_) (fun hg186 => ?_)
    · simp only [hg186, run_guard (g := 67), guard_off', run_pick, put1_some, xpick_t, run_ops_nil, run_nil, B0, reduceIte, reduceEqDiff]
      exact hN185 _ _ ⟨(Sep.m3 (Sep.m3 (Sep.m3 (Sep.m3 hS183)))), by rw [orT hg186]; simp only [B0, reduceIte, reduceEqDiff], by simp only [f175, B0, reduceIte, reduceEqDiff],
          by simp only [f176, B0, reduceIte, reduceEqDiff], by simp only [f177, B0, reduceIte, reduceEqDiff], by simp only [f178, B0, reduceIte, reduceEqDiff], by simp only [f179,
          B0, reduceIte, reduceEqDiff], by simp only [f181, B0, reduceIte, reduceEqDiff]⟩
    · simp only [hg186, run_guard (g := 67), guard_false, f180, run_mv, f177, run_bin, put1_some, xneq, run_pick, xpick_f, run_ops_nil, run_nil, B0, reduceIte, reduceEqDiff]
      exact hN185 _ _ ⟨(Sep.m3 (Sep.m3 (Sep.m3 (Sep.m3 hS183)))), by rw [orF hg186]; simp only [B0, reduceIte, reduceEqDiff], by simp only [f175, B0, reduceIte, reduceEqDiff],
          by simp only [f176, B0, reduceIte, reduceEqDiff], by simp only [f177, B0, reduceIte, reduceEqDiff], by simp only [f178, B0, reduceIte, reduceEqDiff], by simp only [f179,
          B0, reduceIte, reduceEqDiff], by simp only [f181, B0, reduceIte, reduceEqDiff]⟩
  rintro fr187 h195 ⟨hS196, f188, f189, f190, f191, f192, f193, f194⟩
  simp only [List.drop_succ_cons, List.drop_zero]
  simp only [f188, run_mv, B0, reduceIte, reduceEqDiff]
  refine ops_j 4 (fun fr' h' => Sep h' h.length (c31 ++ (c35 ++ (c79 ++ (c83 ++ ([]))))) ∧ fr' 76 = .bool ((v165 || (decide (v75.2.1 ≠ v27.2.1))) ||
      (!(v75.2.2 == v27.2.2))) ∧ fr' 1 = .ref [.int .i64 v_0.Epoch, .int .i64 v_0.Leader, lst cI v_0.InStep, .int .i64 v_0.High,
      lst Replica.cells v_0.Replicas] 0 ∧ fr' 4 = .ref [.int .i64 v27.1.Epoch, .int .i64 v27.1.Leader, v30, .int .i64 v27.1.High,
      v34] 0 ∧ fr' 5 = .int .i64 v27.2.1 ∧ fr' 6 = .bool v27.2.2 ∧ fr' 8 = .ref [.int .i64 v75.1.Epoch, .int .i64 v75.1.Leader, v78, .int .i64 v75.1.High,
      v82] 0) (fun Q197 hN198 => ?_) ?_
  · simp only [List.take_succ_cons, List.take_zero]
    simp only [run_guard (g := 72), B0, reduceIte, reduceEqDiff]
    refine guard_split (t := (v165 || (decide (v75.2.1 ≠ v27.2.1)))) (fun hg199 => ?_) (fun hg199 => ?_)
    · simp only [hg199, run_guard (g := 72), guard_off', run_pick, put1_some, xpick_t, run_ops_nil, run_nil, B0, reduceIte, reduceEqDiff]
      exact hN198 _ _ ⟨(Sep.m3 (Sep.m3 (Sep.m3 (Sep.m3 hS196)))), by rw [orT hg199]; simp only [B0, reduceIte, reduceEqDiff], by simp only [f189, B0, reduceIte, reduceEqDiff],
          by simp only [f190, B0, reduceIte, reduceEqDiff], by simp only [f191, B0, reduceIte, reduceEqDiff], by simp only [f192, B0, reduceIte, reduceEqDiff], by simp only [f193,
          B0, reduceIte, reduceEqDiff]⟩
    · simp only [hg199, run_guard (g := 72), guard_false, f194, run_mv, f192, run_eqb, put1_some, xeqb_t, run_pick, xpick_f, run_ops_nil, run_nil, B0, reduceIte, reduceEqDiff]
      exact hN198 _ _ ⟨(Sep.m3 (Sep.m3 (Sep.m3 (Sep.m3 hS196)))), by rw [orF hg199]; simp only [B0, reduceIte, reduceEqDiff], by simp only [f189, B0, reduceIte, reduceEqDiff],
          by simp only [f190, B0, reduceIte, reduceEqDiff], by simp only [f191, B0, reduceIte, reduceEqDiff], by simp only [f192, B0, reduceIte, reduceEqDiff], by simp only [f193,
          B0, reduceIte, reduceEqDiff]⟩
  rintro fr200 h207 ⟨hS208, f201, f202, f203, f204, f205, f206⟩
  simp only [List.drop_succ_cons, List.drop_zero]
  simp only [run_ops_nil, f201, run_cond, B0, reduceIte, reduceEqDiff]
  refine cond_split (t := ((v165 || (decide (v75.2.1 ≠ v27.2.1))) || (!(v75.2.2 == v27.2.2)))) (fun hc209 => ?_) (fun hc209 => ?_)
  · rw [iteT hc209] at hF167
    simp only [run_seq, run_reg, run_mv, run_ops_nil, run_ret, B0, reduceIte, reduceEqDiff]
    have he := some_inj hF167
    subst he
    simp only [end_ret1, B0, reduceIte, reduceEqDiff]
    exact rfl
  rw [iteF hc209] at hF167
  simp only [run_skip, x3_12, run_seq, run_reg, run_mv, run_ops_nil, x3_11, f206, run_ld, B0, reduceIte, reduceEqDiff]
  refine put1_eq (v := .agg [.int .i64 v75.1.Epoch, .int .i64 v75.1.Leader, v78, .int .i64 v75.1.High, v82]) rfl ?_
  obtain ⟨v210, hx211, hF212⟩ := bind_some' hF167
  simp only [run_mv, run_call, B0, reduceIte, reduceEqDiff]
  refine call0 rfl (laws_markGroup_x hW k v75.1 v78 c79 hv80 v82 c83 hv84 1 v210 hx211 (Sep.m3 (Sep.m3 hS208))) ?_
  rintro _ h217 ⟨c213, c215, rfl, hv214, hv216, hS218⟩
  simp only [run_mv, run_ops_nil, x3_10, run_seq, run_reg, x3_9, f206, run_ld, B0, reduceIte, reduceEqDiff]
  refine put1_eq (v := .agg [.int .i64 v75.1.Epoch, .int .i64 v75.1.Leader, v78, .int .i64 v75.1.High, v82]) rfl ?_
  obtain ⟨v219, hx220, hF221⟩ := bind_some' hF212
  simp only [run_mv, run_call, B0, reduceIte, reduceEqDiff]
  refine call1 rfl (mapM1 (snap_agg (mapM1 snap_int (mapM1 snap_int (mapM1 (SlF.snap hv214 hS218 rfl (fun _ => rfl) (fun _ => rfl)) (mapM1 snap_int (mapM1 (SlN.snap hv216 _
      (Sep.m1 hS218) rfl Replica.RO) mapM0)))))) (mapM1 snap_int mapM0)) (laws_heldGroup_x (fun b hb => decide_eq_true hb) k
      (Group.mk v75.1.Epoch v75.1.Leader v210.2.InStep v75.1.High v210.2.Replicas) 1 v219 hx220) ?_
  simp only [run_mv, run_ops_nil, x3_8, run_seq, run_reg, run_bin, put1_some, xlss, run_cond, B0, reduceIte, reduceEqDiff]
  refine cond_split (t := (decide (v219 < 0))) (fun hc222 => ?_) (fun hc222 => ?_)
  · rw [iteT hc222] at hF221
    simp only [run_seq, run_reg, run_mv, run_ops_nil, run_ret, B0, reduceIte, reduceEqDiff]
    have he := some_inj hF221
    subst he
    simp only [end_ret1, B0, reduceIte, reduceEqDiff]
    exact rfl
  rw [iteF hc222] at hF221
  simp only [run_skip, x3_7, run_seq, run_reg, run_mv, run_bin, put1_some, xneq, run_ops_nil, run_cond, B0, reduceIte, reduceEqDiff]
  refine cond_split (t := (decide (v219 ≠ v210.1))) (fun hc223 => ?_) (fun hc223 => ?_)
  · rw [iteT hc223] at hF221
    simp only [run_seq, run_reg, run_mv, run_ops_nil, run_ret, B0, reduceIte, reduceEqDiff]
    have he := some_inj hF221
    subst he
    simp only [end_ret1, B0, reduceIte, reduceEqDiff]
    exact rfl
  rw [iteF hc223] at hF221
  simp only [run_skip, x3_6, run_seq, run_reg, f202, run_ld, B0, reduceIte, reduceEqDiff]
  refine put1_eq (v := .agg [.int .i64 v_0.Epoch, .int .i64 v_0.Leader, lst cI v_0.InStep, .int .i64 v_0.High, lst Replica.cells v_0.Replicas]) rfl ?_
  obtain ⟨v224, hx225, hF226⟩ := bind_some' hF221
  simp only [run_call, B0, reduceIte, reduceEqDiff]
  refine call2 rfl hS218 (mapM1 (snap_agg (mapM1 snap_int (mapM1 snap_int (mapM1 snap_lst (mapM1 snap_int (mapM1 snap_lst mapM0)))))) mapM0) (laws_toGroup_x
      (fun b hb => decide_eq_true hb) k v_0 v224 hx225) ?_
  rintro _ h235 ⟨v227, c228, v231, c232, rfl, hv229, hv233, hS236⟩
  refine ⟨_, free_a (all_c rfl (all_c rfl (all_c (SlF.free1 hv229) (all_c rfl (all_c (SlN.free1 hv233) all_n))))), hS236,
      (pf_app (SlF.pf hv229 (fun _ => rfl)) (pf_app (SlN.pf hv233 Replica.RO) pf_nil)), fun h237 hS238 => ?_⟩
  have hS239 : Sep h237 h.length (c228 ++ (c232 ++ (c213 ++ (c215 ++ (c31 ++ (c35 ++ ([]))))))) := by simpa only [List.append_assoc, List.nil_append] using hS238
  obtain ⟨v240, hx241, hF242⟩ := bind_some' hF226
  simp only [run_call, B0, reduceIte, reduceEqDiff]
  refine call2 rfl hS239 (mapM1 (snap_agg (mapM1 snap_int (mapM1 snap_int (mapM1 (SlF.snap hv229 hS239 rfl (fun _ => rfl) (fun _ => rfl)) (mapM1 snap_int (mapM1 (SlN.snap hv233 _
      (Sep.m1 hS239) rfl Replica.RO) mapM0)))))) mapM0) (impl_SettleGroup_x (fun b hb => decide_eq_true hb) k v224 v240 hx241) ?_
  rintro _ h251 ⟨v243, c244, v247, c248, rfl, hv245, hv249, hS252⟩
  refine ⟨_, free_t (all_c (free2_a (all_c rfl (all_c rfl (all_c (SlF.free1 hv245) (all_c rfl (all_c (SlN.free1 hv249) all_n)))))) (all_c rfl (all_c rfl all_n))), hS252,
      (pf_app (SlF.pf hv245 (fun _ => rfl)) (pf_app (SlN.pf hv249 Replica.RO) pf_nil)), fun h253 hS254 => ?_⟩
  have hS255 : Sep h253 h.length (c244 ++ (c248 ++ (c228 ++ (c232 ++ (c213 ++ (c215 ++ (c31 ++ (c35 ++ ([]))))))))) := by simpa only [List.append_assoc,
      List.nil_append] using hS254
  simp only [run_mv, run_ext, put1_some, xext_0, xext_1, xext_2, run_new, B0, reduceIte, reduceEqDiff]
  refine put2_newC hS255 (fun b256 h257 hS258 => ?_)
  simp only [run_st, B0, reduceIte, reduceEqDiff]
  refine put2_stCx (us := [.int .i64 v240.1.Epoch, .int .i64 v240.1.Leader, v243, .int .i64 v240.1.High, v247]) rfl (cs' := [.int .i64 v240.1.Epoch, .int .i64 v240.1.Leader, v243,
      .int .i64 v240.1.High, v247]) hS258 hW rfl (all_c rfl (all_c rfl (all_c (SlF.one hv245) (all_c rfl (all_c (SlN.one hv249) all_n))))) (Nat.le_of_ble_eq_true rfl) rfl
      (fun h260 hS261 => ?_)
  simp only [run_mv, run_ops_nil, B0, reduceIte, reduceEqDiff]
  refine frz_stepC hS261 hW (by simp only [B0, reduceIte, reduceEqDiff]) (fun h262 hS263 => ?_)
  simp only [run_frz_nil, x3_5, run_seq, run_reg, run_ld, B0, reduceIte, reduceEqDiff]
  refine put1_eq (v := .agg [.int .i64 v240.1.Epoch, .int .i64 v240.1.Leader, v243, .int .i64 v240.1.High, v247]) rfl ?_
  simp only [f203, run_ld, B0, reduceIte, reduceEqDiff]
  refine put1_eq (v := .agg [.int .i64 v27.1.Epoch, .int .i64 v27.1.Leader, v30, .int .i64 v27.1.High, v34]) rfl ?_
  obtain ⟨v264, hx265, hF266⟩ := bind_some' hF242
  simp only [run_call, B0, reduceIte, reduceEqDiff]
  refine call1 rfl (mapM1 (snap_agg (mapM1 snap_int (mapM1 snap_int (mapM1 (SlF.snap hv245 hS263 rfl (fun _ => rfl) (fun _ => rfl)) (mapM1 snap_int (mapM1 (SlN.snap hv249 _
      (Sep.m1 hS263) rfl Replica.RO) mapM0)))))) (mapM1 (snap_agg (mapM1 snap_int (mapM1 snap_int (mapM1 (SlF.snap hv32 (Sep.m6 hS263) rfl (fun _ => rfl) (fun _ => rfl))
      (mapM1 snap_int (mapM1 (SlN.snap hv36 _ (Sep.m7 hS263) rfl Replica.RO) mapM0)))))) mapM0)) (laws_eqGroup_x (fun b hb => decide_eq_true hb) k v240.1 v27.1 v264 hx265) ?_
  simp only [run_un, put1_some, xnot, run_mv, B0, reduceIte, reduceEqDiff]
  refine ops_j 4 (fun fr' h' => Sep h' h.length (c213 ++ (c215 ++ ([]))) ∧ fr' 103 = .bool ((!v264) || (decide
      (v240.2.1 ≠ v27.2.1))) ∧ fr' 6 = .bool v27.2.2 ∧ fr' 8 = .ref [.int .i64 v75.1.Epoch, .int .i64 v75.1.Leader, v78, .int .i64 v75.1.High,
      v82] 0 ∧ fr' 12 = .int .i64 v210.1 ∧ fr' 16 = .bool v240.2.2) (fun Q267 hN268 => ?_) ?_
  · simp only [List.take_succ_cons, List.take_zero]
    simp only [run_guard (g := 99), B0, reduceIte, reduceEqDiff]
    refine guard_split (t := (!v264)) (fun hg269 => ?_) (fun hg269 => ?_)
    · simp only [hg269, run_guard (g := 99), guard_off', run_pick, put1_some, xpick_t, run_ops_nil, run_nil, B0, reduceIte, reduceEqDiff]
      exact hN268 _ _ ⟨(Sep.m1 (Sep.m1 (Sep.dc (Sep.m2 (Sep.dc (Sep.m2 (Sep.dc ((Sep.dc ((Sep.dc ((Sep.dc (hS263)))))))))))))), by rw [orT hg269]; simp only [B0, reduceIte,
          reduceEqDiff], by simp only [f205, B0, reduceIte, reduceEqDiff], by simp only [f206, B0, reduceIte, reduceEqDiff], by simp only [B0, reduceIte, reduceEqDiff],
          by simp only [B0, reduceIte, reduceEqDiff]⟩
    · simp only [hg269, run_guard (g := 99), guard_false, run_mv, f204, run_bin, put1_some, xneq, run_pick, xpick_f, run_ops_nil, run_nil, B0, reduceIte, reduceEqDiff]
      exact hN268 _ _ ⟨(Sep.m1 (Sep.m1 (Sep.dc (Sep.m2 (Sep.dc (Sep.m2 (Sep.dc ((Sep.dc ((Sep.dc ((Sep.dc (hS263)))))))))))))), by rw [orF hg269]; simp only [B0, reduceIte,
          reduceEqDiff], by simp only [f205, B0, reduceIte, reduceEqDiff], by simp only [f206, B0, reduceIte, reduceEqDiff], by simp only [B0, reduceIte, reduceEqDiff],
          by simp only [B0, reduceIte, reduceEqDiff]⟩
  rintro fr270 h276 ⟨hS277, f271, f272, f273, f274, f275⟩
  simp only [List.drop_succ_cons, List.drop_zero]
  simp only [f271, run_mv, B0, reduceIte, reduceEqDiff]
  refine ops_j 4 (fun fr' h' => Sep h' h.length (c213 ++ (c215 ++ ([]))) ∧ fr' 108 = .bool (((!v264) || (decide (v240.2.1 ≠ v27.2.1))) ||
      (!(v240.2.2 == v27.2.2))) ∧ fr' 8 = .ref [.int .i64 v75.1.Epoch, .int .i64 v75.1.Leader, v78, .int .i64 v75.1.High,
      v82] 0 ∧ fr' 12 = .int .i64 v210.1) (fun Q278 hN279 => ?_) ?_
  · simp only [List.take_succ_cons, List.take_zero]
    simp only [run_guard (g := 104), B0, reduceIte, reduceEqDiff]
    refine guard_split (t := ((!v264) || (decide (v240.2.1 ≠ v27.2.1)))) (fun hg280 => ?_) (fun hg280 => ?_)
    · simp only [hg280, run_guard (g := 104), guard_off', run_pick, put1_some, xpick_t, run_ops_nil, run_nil, B0, reduceIte, reduceEqDiff]
      exact hN279 _ _ ⟨(Sep.m1 (Sep.m1 hS277)), by rw [orT hg280]; simp only [B0, reduceIte, reduceEqDiff], by simp only [f273, B0, reduceIte, reduceEqDiff], by simp only [f274,
          B0, reduceIte, reduceEqDiff]⟩
    · simp only [hg280, run_guard (g := 104), guard_false, f275, run_mv, f272, run_eqb, put1_some, xeqb_t, run_pick, xpick_f, run_ops_nil, run_nil, B0, reduceIte, reduceEqDiff]
      exact hN279 _ _ ⟨(Sep.m1 (Sep.m1 hS277)), by rw [orF hg280]; simp only [B0, reduceIte, reduceEqDiff], by simp only [f273, B0, reduceIte, reduceEqDiff], by simp only [f274,
          B0, reduceIte, reduceEqDiff]⟩
  rintro fr281 h285 ⟨hS286, f282, f283, f284⟩
  simp only [List.drop_succ_cons, List.drop_zero]
  simp only [run_ops_nil, f282, run_cond, B0, reduceIte, reduceEqDiff]
  refine cond_split (t := (((!v264) || (decide (v240.2.1 ≠ v27.2.1))) || (!(v240.2.2 == v27.2.2)))) (fun hc287 => ?_) (fun hc287 => ?_)
  · rw [iteT hc287] at hF266
    simp only [run_seq, run_reg, run_mv, run_ops_nil, run_ret, B0, reduceIte, reduceEqDiff]
    have he := some_inj hF266
    subst he
    simp only [end_ret1, B0, reduceIte, reduceEqDiff]
    exact rfl
  rw [iteF hc287] at hF266
  simp only [run_skip, x3_4, run_seq, run_reg, run_mv, run_ops_nil, x3_3, f283, run_ld, B0, reduceIte, reduceEqDiff]
  refine put1_eq (v := .agg [.int .i64 v75.1.Epoch, .int .i64 v75.1.Leader, v78, .int .i64 v75.1.High, v82]) rfl ?_
  obtain ⟨v288, hx289, hF290⟩ := bind_some' hF266
  simp only [run_mv, run_call, B0, reduceIte, reduceEqDiff]
  refine call1 rfl (mapM1 (snap_agg (mapM1 snap_int (mapM1 snap_int (mapM1 (SlF.snap hv214 hS286 rfl (fun _ => rfl) (fun _ => rfl)) (mapM1 snap_int (mapM1 (SlN.snap hv216 _
      (Sep.m1 hS286) rfl Replica.RO) mapM0)))))) (mapM1 snap_int mapM0)) (laws_heldGroup_x (fun b hb => decide_eq_true hb) k
      (Group.mk v75.1.Epoch v75.1.Leader v210.2.InStep v75.1.High v210.2.Replicas) 1 v288 hx289) ?_
  simp only [run_mv, run_ops_nil, x3_2, run_seq, run_reg, run_bin, put1_some, xlss, run_cond, B0, reduceIte, reduceEqDiff]
  refine cond_split (t := (decide (v288 < 0))) (fun hc291 => ?_) (fun hc291 => ?_)
  · rw [iteT hc291] at hF290
    simp only [run_seq, run_reg, run_mv, run_ops_nil, run_ret, B0, reduceIte, reduceEqDiff]
    have he := some_inj hF290
    subst he
    simp only [end_ret1, B0, reduceIte, reduceEqDiff]
    exact rfl
  rw [iteF hc291] at hF290
  simp only [run_skip, x3_1, run_seq, run_reg, run_mv, f284, run_bin, put1_some, xneq, run_ops_nil, run_cond, B0, reduceIte, reduceEqDiff]
  refine cond_split (t := (decide (v288 ≠ v210.1))) (fun hc292 => ?_) (fun hc292 => ?_)
  · rw [iteT hc292] at hF290
    simp only [run_seq, run_reg, run_mv, run_ops_nil, run_ret, B0, reduceIte, reduceEqDiff]
    have he := some_inj hF290
    subst he
    simp only [end_ret1, B0, reduceIte, reduceEqDiff]
    exact rfl
  rw [iteF hc292] at hF290
  simp only [run_skip, run_seq, run_reg, run_mv, run_ops_nil, run_ret, B0, reduceIte, reduceEqDiff]
  have he := some_inj hF290
  subst he
  simp only [end_ret1, B0, reduceIte, reduceEqDiff]
  exact rfl
end Go.Proofs.Ytefgfcalgjmhjaa.X
