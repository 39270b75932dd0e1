/- The functions' code comes to what the plain functions say (1). -/
import Derived.Test.YtefgfcalgjmhjaaXAF
import Derived.Test.YtefgfcalgjmhjaaXAD
set_option linter.unusedVariables false
set_option linter.unusedSimpArgs false
set_option maxRecDepth 100000
namespace Go.Proofs.Ytefgfcalgjmhjaa.X
open Go
open Nat (reduceEqDiff)
def Replica.R : Rep Replica := fun x cs os => ∃ (v0 : XV) (c0 : List Obj), SlF Row.cells 2 98 v0 x.Log c0 ∧ cs = [v0, .int .i64 x.Epoch, .int .i64 x.Known] ∧ c0 = os
theorem Replica.RI {x : Replica} {v0 : XV} {c0 : List Obj} (h0 : SlF Row.cells 2 98 v0 x.Log c0) : Replica.R x [v0, .int .i64 x.Epoch, .int .i64 x.Known] (c0) := ⟨v0, c0, h0, rfl,
    rfl⟩
theorem Replica.RO : RepOk E.sz Replica.R Replica.cells 3 where
  len := fun {x cs os} H => by
    obtain ⟨v0, c0, h0, rfl, rfl⟩ := H
    rfl
  flen := fun _ => rfl
  one := fun {x cs os} H => by
    obtain ⟨v0, c0, h0, rfl, rfl⟩ := H
    exact (all_c (SlF.one h0) (all_c rfl (all_c rfl all_n)))
  snap := fun {x cs os h lo S} m H hS => by
    obtain ⟨v0, c0, h0, rfl, rfl⟩ := H
    have hS2 : Sep h lo (c0 ++ S) := (by simpa only [List.append_assoc] using hS)
    exact (mapM1 (SlF.snap h0 hS2 rfl (fun _ => rfl) (fun _ => rfl)) (mapM1 snap_int (mapM1 snap_int mapM0)))
  cut := fun {x cs os h lo n0 keep S} m H hS hge => by
    obtain ⟨v0, c0, h0, rfl, rfl⟩ := H
    have hS2 : Sep h lo (c0 ++ S) := (by simpa only [List.append_assoc] using hS)
    exact (mapM1 (SlF.cut h0 hS2 hge rfl (fun _ => rfl) (fun _ => rfl)) (mapM1 rfl (mapM1 rfl mapM0)))
  free := fun {x cs os} H => by
    obtain ⟨v0, c0, h0, rfl, rfl⟩ := H
    exact (all_c (SlF.free1 h0) (all_c rfl (all_c rfl all_n)))
  pf := fun {x cs os} H => by
    obtain ⟨v0, c0, h0, rfl, rfl⟩ := H
    exact (SlF.pf h0 (fun _ => rfl))
theorem laws_szIntS_x {W : Nat → Bool} {h : Heap} (hW : ∀ b,
    h.length ≤ b → W b = true) (a_0 : List Int) (left_1 : Int) (r : Int) (hF : laws_szIntS a_0 left_1 = some r) : Ret E W 44 [lst cI a_0,
    .int .i64 left_1] h (fun v h' => cut h.length h' E.sz false 9 v = some (.int .i64 r)) := by
  refine Ret.of (fn := x44) rfl (Run.of ?_)
  unfold laws_szIntS at hF
  have zf0 : argFr [lst cI a_0, .int .i64 left_1] 0 = lst cI a_0 := rfl
  have zf1 : argFr [lst cI a_0, .int .i64 left_1] 1 = .int .i64 left_1 := rfl
  generalize argFr [lst cI a_0, .int .i64 left_1] = fr0 at zf0 zf1 ⊢
  have hS : Sep h h.length [] := Sep.nil h
  simp only [x44, run_seq, run_reg, run_mv, run_ops_nil, x44_2, zf1, zf0, run_len, put1_some, xlen_lst, run_bin, xsub, x44_1, xlss, run_cond, B0, reduceIte, reduceEqDiff]
  refine cond_split (t := (decide ((IntKind.wrap .i64 (left_1 - (List.length a_0 : Int))) < 0))) (fun hc1 => ?_) (fun hc1 => ?_)
  · rw [iteT hc1] at hF
    simp only [run_seq, run_reg, run_mv, run_ops_nil, run_ret, B0, reduceIte, reduceEqDiff]
    have he := some_inj hF
    subst he
    simp only [end_ret1, B0, reduceIte, reduceEqDiff]
    exact rfl
  rw [iteF hc1] at hF
  simp only [run_skip, run_seq, run_reg, run_mv, run_ops_nil, run_ret, B0, reduceIte, reduceEqDiff]
  have he := some_inj hF
  subst he
  simp only [end_ret1, B0, reduceIte, reduceEqDiff]
  exact rfl
theorem laws_szRowS_x {W : Nat → Bool} {h : Heap} (hW : ∀ b,
    h.length ≤ b → W b = true) (a_0 : List Row) (left_1 : Int) (r : Int) (hF : laws_szRowS a_0 left_1 = some r) : Ret E W 92 [lst Row.cells a_0,
    .int .i64 left_1] h (fun v h' => cut h.length h' E.sz false 9 v = some (.int .i64 r)) := by
  refine Ret.of (fn := x92) rfl (Run.of ?_)
  unfold laws_szRowS at hF
  have zf0 : argFr [lst Row.cells a_0, .int .i64 left_1] 0 = lst Row.cells a_0 := rfl
  have zf1 : argFr [lst Row.cells a_0, .int .i64 left_1] 1 = .int .i64 left_1 := rfl
  generalize argFr [lst Row.cells a_0, .int .i64 left_1] = fr0 at zf0 zf1 ⊢
  have hS : Sep h h.length [] := Sep.nil h
  simp only [x92, run_seq, run_reg, run_mv, run_ops_nil, x92_2, zf1, zf0, run_len, put1_some, xlen_lst, run_bin, xsub, x92_1, xlss, run_cond, B0, reduceIte, reduceEqDiff]
  refine cond_split (t := (decide ((IntKind.wrap .i64 (left_1 - (List.length a_0 : Int))) < 0))) (fun hc1 => ?_) (fun hc1 => ?_)
  · rw [iteT hc1] at hF
    simp only [run_seq, run_reg, run_mv, run_ops_nil, run_ret, B0, reduceIte, reduceEqDiff]
    have he := some_inj hF
    subst he
    simp only [end_ret1, B0, reduceIte, reduceEqDiff]
    exact rfl
  rw [iteF hc1] at hF
  simp only [run_skip, run_seq, run_reg, run_mv, run_ops_nil, run_ret, B0, reduceIte, reduceEqDiff]
  have he := some_inj hF
  subst he
  simp only [end_ret1, B0, reduceIte, reduceEqDiff]
  exact rfl
theorem laws_szReplica_x {W : Nat → Bool} {h : Heap} (hW : ∀ b,
    h.length ≤ b → W b = true) (a_0 : Replica) (left_1 : Int) (r : Int) (hF : laws_szReplica a_0 left_1 = some r) : Ret E W 78 [.agg [lst Row.cells a_0.Log, .int .i64 a_0.Epoch,
    .int .i64 a_0.Known], .int .i64 left_1] h (fun v h' => cut h.length h' E.sz false 9 v = some (.int .i64 r)) := by
  refine Ret.of (fn := x78) rfl (Run.of ?_)
  unfold laws_szReplica at hF
  have zf0 : argFr [.agg [lst Row.cells a_0.Log, .int .i64 a_0.Epoch, .int .i64 a_0.Known], .int .i64 left_1] 0 = .agg [lst Row.cells a_0.Log, .int .i64 a_0.Epoch,
      .int .i64 a_0.Known] := rfl
  have zf1 : argFr [.agg [lst Row.cells a_0.Log, .int .i64 a_0.Epoch, .int .i64 a_0.Known], .int .i64 left_1] 1 = .int .i64 left_1 := rfl
  generalize argFr [.agg [lst Row.cells a_0.Log, .int .i64 a_0.Epoch, .int .i64 a_0.Known], .int .i64 left_1] = fr0 at zf0 zf1 ⊢
  have hS : Sep h h.length [] := Sep.nil h
  simp only [x78, run_seq, run_reg, run_box, zf0, B0, reduceIte, reduceEqDiff]
  refine put2_boxC (cs := [lst Row.cells a_0.Log, .int .i64 a_0.Epoch, .int .i64 a_0.Known]) hS rfl rfl rfl (fun b1 h2 hS3 => ?_)
  simp only [run_mv, run_ops_nil, B0, reduceIte, reduceEqDiff]
  refine frz_stepC hS3 hW (by simp only [B0, reduceIte, reduceEqDiff]) (fun h5 hS6 => ?_)
  simp only [run_frz_nil, x78_2, run_seq, run_reg, run_fa, put1_some, Nat.reduceAdd, Nat.zero_add, Nat.add_zero, xfa_ref, run_ld, B0, reduceIte, reduceEqDiff]
  refine put1_eq (v := lst Row.cells a_0.Log) rfl ?_
  obtain ⟨v7, hx8, hF9⟩ := bind_some' hF
  simp only [zf1, run_mv, run_call, B0, reduceIte, reduceEqDiff]
  refine call1 rfl (mapM1 snap_lst (mapM1 snap_int mapM0)) (laws_szRowS_x (fun b hb => decide_eq_true hb) a_0.Log left_1 v7 hx8) ?_
  simp only [run_mv, run_ops_nil, x78_1, run_seq, run_reg, run_bin, put1_some, xlss, run_cond, B0, reduceIte, reduceEqDiff]
  refine cond_split (t := (decide (v7 < 0))) (fun hc10 => ?_) (fun hc10 => ?_)
  · rw [iteT hc10] at hF9
    simp only [run_seq, run_reg, run_mv, run_ops_nil, run_ret, B0, reduceIte, reduceEqDiff]
    have he := some_inj hF9
    subst he
    simp only [end_ret1, B0, reduceIte, reduceEqDiff]
    exact rfl
  rw [iteF hc10] at hF9
  simp only [run_skip, run_seq, run_reg, run_mv, run_ops_nil, run_ret, B0, reduceIte, reduceEqDiff]
  have he := some_inj hF9
  subst he
  simp only [end_ret1, B0, reduceIte, reduceEqDiff]
  exact rfl
theorem laws_szReplicaS_x {W : Nat → Bool} {h : Heap} (hW : ∀ b,
    h.length ≤ b → W b = true) (k : Nat) (a_0 : List Replica) (left_1 : Int) (r : Int) (hF : laws_szReplicaS k a_0 left_1 = some r) : Ret E W 45 [lst Replica.cells a_0,
    .int .i64 left_1] h (fun v h' => cut h.length h' E.sz false 9 v = some (.int .i64 r)) := by
  refine Ret.of (fn := x45) rfl (Run.of ?_)
  unfold laws_szReplicaS at hF
  have zf0 : argFr [lst Replica.cells a_0, .int .i64 left_1] 0 = lst Replica.cells a_0 := rfl
  have zf1 : argFr [lst Replica.cells a_0, .int .i64 left_1] 1 = .int .i64 left_1 := rfl
  generalize argFr [lst Replica.cells a_0, .int .i64 left_1] = fr0 at zf0 zf1 ⊢
  have hS : Sep h h.length [] := Sep.nil h
  simp only [x45, run_seq, run_reg, run_mv, run_ops_nil, x45_9, zf1, zf0, run_len, put1_some, xlen_lst, run_bin, xsub, x45_8, xlss, run_cond, B0, reduceIte, reduceEqDiff]
  refine cond_split (t := (decide ((IntKind.wrap .i64 (left_1 - (List.length a_0 : Int))) < 0))) (fun hc1 => ?_) (fun hc1 => ?_)
  · rw [iteT hc1] at hF
    simp only [run_seq, run_reg, run_mv, run_ops_nil, run_ret, B0, reduceIte, reduceEqDiff]
    have he := some_inj hF
    subst he
    simp only [end_ret1, B0, reduceIte, reduceEqDiff]
    exact rfl
  rw [iteF hc1] at hF
  simp only [run_skip, x45_7, run_seq, run_reg, run_mv, run_ops_nil, B0, reduceIte, reduceEqDiff]
  obtain ⟨oc8, hX10, hk11⟩ := jn_some hF
  simp only [x45_6]
  refine loopF_j (σ := Int × Int) (fun s40 => laws_szReplicaS_b1 a_0 s40.1 s40.2)
      (fun s fr' h' => fr' 0 = lst Replica.cells a_0 ∧ fr' 1 = .int .i64 s.1 ∧ fr' 5 = .int .i64 s.2 ∧ Sep h' h.length ([])) hX10 ⟨by simp only [zf0, B0, reduceIte, reduceEqDiff],
      by simp only [B0, reduceIte, reduceEqDiff], by simp only [B0, reduceIte, reduceEqDiff], hS⟩ (fun _ _ _ h => h) ?_ ?_
  · rintro ⟨s4, s5⟩ fr20 h21 ⟨f23, f24, f25, hS22⟩ oc9 hF12 hr13 Q14 hN15 hK16 hR17 hE18
    dsimp only at *
    unfold laws_szReplicaS_b1 at hF12
    simp only [x45_4, run_seq, run_reg, f25, run_mv, f23, run_len, put1_some, xlen_lst, run_bin, xlss, run_ops_nil, run_cond, B0, reduceIte, reduceEqDiff]
    refine cond_split (t := (decide (s5 < (List.length a_0 : Int)))) (fun hc27 => ?_) (fun hc27 => ?_)
    · rw [iteT hc27] at hF12
      obtain ⟨x28, hx29, hF30⟩ := bind_some' hF12
      simp only [run_skip, x45_3, run_seq, run_block, x45_2, run_reg, f23, run_mv, f25, run_ia, B0, reduceIte, reduceEqDiff]
      refine put1_eq (v := .ref (Replica.cells x28) 0) (xia_lst hx29 rfl) ?_
      simp only [run_ld, B0, reduceIte, reduceEqDiff]
      refine put1_eq (v := .agg [lst Row.cells x28.Log, .int .i64 x28.Epoch, .int .i64 x28.Known]) rfl ?_
      obtain ⟨v31, hx32, hF33⟩ := bind_some' hF30
      simp only [f24, run_mv, run_call, B0, reduceIte, reduceEqDiff]
      refine call1 rfl (mapM1 (snap_agg (mapM1 snap_lst (mapM1 snap_int (mapM1 snap_int mapM0)))) (mapM1 snap_int mapM0)) (laws_szReplica_x
          (fun b hb => decide_eq_true hb) x28 s4 v31 hx32) ?_
      simp only [run_mv, run_ops_nil, x45_1, run_seq, run_reg, run_bin, put1_some, xlss, run_cond, B0, reduceIte, reduceEqDiff]
      refine cond_split (t := (decide (v31 < 0))) (fun hc34 => ?_) (fun hc34 => ?_)
      · rw [iteT hc34] at hF33
        simp only [run_seq, run_reg, run_mv, run_ops_nil, run_ret, B0, reduceIte, reduceEqDiff]
        have e35 := some_inj hF33
        subst e35
        have ho36 := hr13 _ rfl
        have hk37 := hk11
        rw [ho36] at hk37
        dsimp only [jnO] at hk37
        apply hR17
        have he := some_inj hk37
        subst he
        simp only [end_ret1, B0, reduceIte, reduceEqDiff]
        exact rfl
      rw [iteF hc34] at hF33
      simp only [run_skip, run_blk, run_reg, f25, run_mv, run_bin, put1_some, xadd, run_ops_nil, run_nil, B0, reduceIte, reduceEqDiff]
      have e38 := some_inj hF33
      exact hN15 _ _ _ e38.symm ⟨by simp only [f23, B0, reduceIte, reduceEqDiff], by simp only [B0, reduceIte, reduceEqDiff], by simp only [B0, reduceIte, reduceEqDiff], hS22⟩
    rw [iteF hc27] at hF12
    simp only [run_exit, out_code, out_nil, B0, reduceIte, reduceEqDiff]
    have e39 := some_inj hF12
    exact hK16 _ _ _ e39.symm ⟨by simp only [f23, B0, reduceIte, reduceEqDiff], by simp only [f24, B0, reduceIte, reduceEqDiff], by simp only [f25, B0, reduceIte, reduceEqDiff],
        hS22⟩
  rintro ⟨s41, s42⟩ fr43 h44 rfl ⟨f46, f47, f48, hS45⟩
  dsimp only [jnO] at hk11
  dsimp only at *
  unfold laws_szReplicaS_j1 at hk11
  simp only [run_seq, run_reg, f47, run_mv, run_ops_nil, run_ret, B0, reduceIte, reduceEqDiff]
  have he := some_inj hk11
  subst he
  simp only [end_ret1, B0, reduceIte, reduceEqDiff]
  exact rfl
theorem laws_szGroup_x {W : Nat → Bool} {h : Heap} (hW : ∀ b,
    h.length ≤ b → W b = true) (k : Nat) (a_0 : Group) (left_1 : Int) (r : Int) (hF : laws_szGroup k a_0 left_1 = some r) : Ret E W 8 [.agg [.int .i64 a_0.Epoch,
    .int .i64 a_0.Leader, lst cI a_0.InStep, .int .i64 a_0.High, lst Replica.cells a_0.Replicas],
    .int .i64 left_1] h (fun v h' => cut h.length h' E.sz false 9 v = some (.int .i64 r)) := by
  refine Ret.of (fn := x8) rfl (Run.of ?_)
  unfold laws_szGroup at hF
  have zf0 : argFr [.agg [.int .i64 a_0.Epoch, .int .i64 a_0.Leader, lst cI a_0.InStep, .int .i64 a_0.High, lst Replica.cells a_0.Replicas],
      .int .i64 left_1] 0 = .agg [.int .i64 a_0.Epoch, .int .i64 a_0.Leader, lst cI a_0.InStep, .int .i64 a_0.High, lst Replica.cells a_0.Replicas] := rfl
  have zf1 : argFr [.agg [.int .i64 a_0.Epoch, .int .i64 a_0.Leader, lst cI a_0.InStep, .int .i64 a_0.High, lst Replica.cells a_0.Replicas],
      .int .i64 left_1] 1 = .int .i64 left_1 := rfl
  generalize argFr [.agg [.int .i64 a_0.Epoch, .int .i64 a_0.Leader, lst cI a_0.InStep, .int .i64 a_0.High, lst Replica.cells a_0.Replicas], .int .i64 left_1] = fr0 at zf0 zf1 ⊢
  have hS : Sep h h.length [] := Sep.nil h
  simp only [x8, run_seq, run_reg, run_box, zf0, B0, reduceIte, reduceEqDiff]
  refine put2_boxC (cs := [.int .i64 a_0.Epoch, .int .i64 a_0.Leader, lst cI a_0.InStep, .int .i64 a_0.High, lst Replica.cells a_0.Replicas]) hS rfl rfl rfl (fun b1 h2 hS3 => ?_)
  simp only [run_mv, run_ops_nil, B0, reduceIte, reduceEqDiff]
  refine frz_stepC hS3 hW (by simp only [B0, reduceIte, reduceEqDiff]) (fun h5 hS6 => ?_)
  simp only [run_frz_nil, x8_4, run_seq, run_reg, run_fa, put1_some, Nat.reduceAdd, Nat.zero_add, Nat.add_zero, xfa_ref, run_ld, B0, reduceIte, reduceEqDiff]
  refine put1_eq (v := lst cI a_0.InStep) rfl ?_
  obtain ⟨v7, hx8, hF9⟩ := bind_some' hF
  simp only [zf1, run_mv, run_call, B0, reduceIte, reduceEqDiff]
  refine call1 rfl (mapM1 snap_lst (mapM1 snap_int mapM0)) (laws_szIntS_x (fun b hb => decide_eq_true hb) a_0.InStep left_1 v7 hx8) ?_
  simp only [run_mv, run_ops_nil, x8_3, run_seq, run_reg, run_bin, put1_some, xlss, run_cond, B0, reduceIte, reduceEqDiff]
  refine cond_split (t := (decide (v7 < 0))) (fun hc10 => ?_) (fun hc10 => ?_)
  · rw [iteT hc10] at hF9
    simp only [run_seq, run_reg, run_mv, run_ops_nil, run_ret, B0, reduceIte, reduceEqDiff]
    have he := some_inj hF9
    subst he
    simp only [end_ret1, B0, reduceIte, reduceEqDiff]
    exact rfl
  rw [iteF hc10] at hF9
  simp only [run_skip, x8_2, run_seq, run_reg, run_fa, put1_some, Nat.reduceAdd, Nat.zero_add, Nat.add_zero, xfa_ref, run_ld, B0, reduceIte, reduceEqDiff]
  refine put1_eq (v := lst Replica.cells a_0.Replicas) rfl ?_
  obtain ⟨v11, hx12, hF13⟩ := bind_some' hF9
  simp only [run_mv, run_call, B0, reduceIte, reduceEqDiff]
  refine call1 rfl (mapM1 snap_lst (mapM1 snap_int mapM0)) (laws_szReplicaS_x (fun b hb => decide_eq_true hb) k a_0.Replicas v7 v11 hx12) ?_
  simp only [run_mv, run_ops_nil, x8_1, run_seq, run_reg, run_bin, put1_some, xlss, run_cond, B0, reduceIte, reduceEqDiff]
  refine cond_split (t := (decide (v11 < 0))) (fun hc14 => ?_) (fun hc14 => ?_)
  · rw [iteT hc14] at hF13
    simp only [run_seq, run_reg, run_mv, run_ops_nil, run_ret, B0, reduceIte, reduceEqDiff]
    have he := some_inj hF13
    subst he
    simp only [end_ret1, B0, reduceIte, reduceEqDiff]
    exact rfl
  rw [iteF hc14] at hF13
  simp only [run_skip, run_seq, run_reg, run_mv, run_ops_nil, run_ret, B0, reduceIte, reduceEqDiff]
  have he := some_inj hF13
  subst he
  simp only [end_ret1, B0, reduceIte, reduceEqDiff]
  exact rfl
theorem spec_l1In_x {W : Nat → Bool} {h : Heap} (hW : ∀ b,
    h.length ≤ b → W b = true) (n_0 : Int) (lo_1 : Int) (hi_2 : Int) (r : Bool) (hF : some (spec_l1In n_0 lo_1 hi_2) = some r) : Ret E W 72 [.int .i64 n_0, .int .i64 lo_1,
    .int .i64 hi_2] h (fun v h' => cut h.length h' E.sz false 9 v = some (.bool r)) := by
  refine Ret.of (fn := x72) rfl (Run.of ?_)
  unfold spec_l1In at hF
  have zf0 : argFr [.int .i64 n_0, .int .i64 lo_1, .int .i64 hi_2] 0 = .int .i64 n_0 := rfl
  have zf1 : argFr [.int .i64 n_0, .int .i64 lo_1, .int .i64 hi_2] 1 = .int .i64 lo_1 := rfl
  have zf2 : argFr [.int .i64 n_0, .int .i64 lo_1, .int .i64 hi_2] 2 = .int .i64 hi_2 := rfl
  generalize argFr [.int .i64 n_0, .int .i64 lo_1, .int .i64 hi_2] = fr0 at zf0 zf1 zf2 ⊢
  have hS : Sep h h.length [] := Sep.nil h
  simp only [x72, run_seq, run_reg, run_mv, run_ops_nil, x72_1, zf0, zf1, run_bin, put1_some, xgeq, B0, reduceIte, reduceEqDiff]
  refine ops_j 4 (fun fr' h' => Sep h' h.length ([]) ∧ fr' 14 = .bool ((decide (lo_1 ≤ n_0)) && (decide (n_0 ≤ hi_2)))) (fun Q1 hN2 => ?_) ?_
  · simp only [List.take_succ_cons, List.take_zero]
    simp only [run_guard (g := 10), B0, reduceIte, reduceEqDiff]
    refine guard_split (t := (decide (lo_1 ≤ n_0))) (fun hg3 => ?_) (fun hg3 => ?_)
    · simp only [hg3, run_guard (g := 10), guard_true, zf0, run_mv, zf2, run_bin, put1_some, xleq, run_pick, xpick_t, run_ops_nil, run_nil, B0, reduceIte, reduceEqDiff]
      exact hN2 _ _ ⟨hS, by rw [andT hg3]; simp only [B0, reduceIte, reduceEqDiff]⟩
    · simp only [hg3, run_guard (g := 10), guard_off, run_pick, put1_some, xpick_f, run_ops_nil, run_nil, B0, reduceIte, reduceEqDiff]
      exact hN2 _ _ ⟨hS, by rw [andF hg3]; simp only [B0, reduceIte, reduceEqDiff]⟩
  rintro fr4 h6 ⟨hS7, f5⟩
  simp only [List.drop_succ_cons, List.drop_zero]
  simp only [f5, run_mv, run_ops_nil, run_ret, B0, reduceIte, reduceEqDiff]
  have he := some_inj hF
  subst he
  simp only [end_ret1, B0, reduceIte, reduceEqDiff]
  exact rfl
theorem spec_l6Group_x {W : Nat → Bool} {h : Heap} (hW : ∀ b,
    h.length ≤ b → W b = true) (l_0 : List Int) (many_1 : Int) (r : Bool) (hF : spec_l6Group l_0 many_1 = some r) : Ret E W 73 [lst cI l_0,
    .int .i64 many_1] h (fun v h' => cut h.length h' E.sz false 9 v = some (.bool r)) := by
  refine Ret.of (fn := x73) rfl (Run.of ?_)
  unfold spec_l6Group at hF
  have zf0 : argFr [lst cI l_0, .int .i64 many_1] 0 = lst cI l_0 := rfl
  have zf1 : argFr [lst cI l_0, .int .i64 many_1] 1 = .int .i64 many_1 := rfl
  generalize argFr [lst cI l_0, .int .i64 many_1] = fr0 at zf0 zf1 ⊢
  have hS : Sep h h.length [] := Sep.nil h
  simp only [x73, run_seq, run_reg, run_mv, run_ops_nil, x73_5, zf0, run_len, put1_some, xlen_lst, B0, reduceIte, reduceEqDiff]
  obtain ⟨oc3, hX5, hk6⟩ := jn_some hF
  simp only [x73_4]
  refine rangeL_j (σ := Unit) l_0 (fun i1 x2 _ => spec_l6Group_b1 l_0 many_1 i1 x2 )
      (fun s fr' h' => fr' 0 = lst cI l_0 ∧ fr' 1 = .int .i64 many_1 ∧ fr' 7 = lst cI l_0 ∧ Sep h' h.length ([])) hX5 ⟨by simp only [zf0, B0, reduceIte, reduceEqDiff],
      by simp only [zf1, B0, reduceIte, reduceEqDiff], by simp only [B0, reduceIte, reduceEqDiff], hS⟩ (by simp only [B0, reduceIte, reduceEqDiff]) (by simp only [B0, reduceIte,
      reduceEqDiff]) (fun _ _ _ h => h) rfl rfl (fun _ _ _ _ h => h) (fun _ _ _ _ h => h) (fun _ _ _ _ h => h) (by decide) ?_ ?_
  · rintro i1 x2 _ fr15 h16 hx21 ⟨f18, f19, f20, hS17⟩ f22 f23 oc4 hF7 hr8 Q9 hN10 hB14 hK11 hR12 hE13
    unfold spec_l6Group_b1 at hF7
    simp only [x73_2, run_seq, run_reg, f22, run_mv, f20, run_ia, B0, reduceIte, reduceEqDiff]
    refine put1_eq (v := .ref (cI x2) 0) (xia_lstN hx21 rfl) ?_
    simp only [run_ld, B0, reduceIte, reduceEqDiff]
    refine put1_eq (v := .int .i64 x2) rfl ?_
    simp only [run_mv, run_ops_nil, x73_1, run_seq, run_reg, run_bin, put1_some, xlss, B0, reduceIte, reduceEqDiff]
    refine ops_j 4 (fun fr' h' => Sep h' h.length ([]) ∧ fr' 20 = .bool ((decide (x2 < 0)) || (decide
        (many_1 ≤ x2))) ∧ fr' 0 = lst cI l_0 ∧ fr' 1 = .int .i64 many_1 ∧ fr' 5 = .int .i64 (i1 : Int) ∧ fr' 6 = .int .i64 x2 ∧ fr' 7 = lst cI l_0 ∧ fr' 8 = .int .i64
        (List.length l_0 : Int) ∧ fr' 9 = .int .i64 (i1 : Int)) (fun Q24 hN25 => ?_) ?_
    · simp only [List.take_succ_cons, List.take_zero]
      simp only [run_guard (g := 16), B0, reduceIte, reduceEqDiff]
      refine guard_split (t := (decide (x2 < 0))) (fun hg26 => ?_) (fun hg26 => ?_)
      · simp only [hg26, run_guard (g := 16), guard_off', run_pick, put1_some, xpick_t, run_ops_nil, run_nil, B0, reduceIte, reduceEqDiff]
        exact hN25 _ _ ⟨hS17, by rw [orT hg26]; simp only [B0, reduceIte, reduceEqDiff], by simp only [f18, B0, reduceIte, reduceEqDiff], by simp only [f19, B0, reduceIte,
            reduceEqDiff], by simp only [B0, reduceIte, reduceEqDiff], by simp only [B0, reduceIte, reduceEqDiff], by simp only [f20, B0, reduceIte, reduceEqDiff],
            by simp only [f23, B0, reduceIte, reduceEqDiff], by simp only [f22, B0, reduceIte, reduceEqDiff]⟩
      · simp only [hg26, run_guard (g := 16), guard_false, run_mv, f19, run_bin, put1_some, xgeq, run_pick, xpick_f, run_ops_nil, run_nil, B0, reduceIte, reduceEqDiff]
        exact hN25 _ _ ⟨hS17, by rw [orF hg26]; simp only [B0, reduceIte, reduceEqDiff], by simp only [f18, B0, reduceIte, reduceEqDiff], by simp only [f19, B0, reduceIte,
            reduceEqDiff], by simp only [B0, reduceIte, reduceEqDiff], by simp only [B0, reduceIte, reduceEqDiff], by simp only [f20, B0, reduceIte, reduceEqDiff],
            by simp only [f23, B0, reduceIte, reduceEqDiff], by simp only [f22, B0, reduceIte, reduceEqDiff]⟩
    rintro fr27 h36 ⟨hS37, f28, f29, f30, f31, f32, f33, f34, f35⟩
    simp only [List.drop_succ_cons, List.drop_zero]
    simp only [f28, run_mv, B0, reduceIte, reduceEqDiff]
    obtain ⟨v41, hx42, hF43⟩ := bind_some' hF7
    refine ops_j 12 (fun fr' h' => Sep h' h.length ([]) ∧ fr' 33 = .bool v41 ∧ fr' 0 = lst cI l_0 ∧ fr' 1 = .int .i64 many_1 ∧ fr' 7 = lst cI l_0 ∧ fr' 8 = .int .i64
        (List.length l_0 : Int) ∧ fr' 9 = .int .i64 (i1 : Int)) (fun Q38 hN39 => ?_) ?_
    · simp only [List.take_succ_cons, List.take_zero]
      simp only [run_guard (g := 21), B0, reduceIte, reduceEqDiff]
      refine guard_split (t := ((decide (x2 < 0)) || (decide (many_1 ≤ x2)))) (fun hg40 => ?_) (fun hg40 => ?_)
      · rw [iteT hg40] at hx42
        simp only [hg40, run_guard (g := 21), guard_off', run_guard (g := 24), guard_tup, run_pick, put1_some, xpick_t, run_ops_nil, run_nil, B0, reduceIte, reduceEqDiff]
        have e44 := some_inj hx42
        exact hN39 _ _ ⟨hS37, by rw [← e44]; simp only [B0, reduceIte, reduceEqDiff], by simp only [f29, B0, reduceIte, reduceEqDiff], by simp only [f30, B0, reduceIte,
            reduceEqDiff], by simp only [f33, B0, reduceIte, reduceEqDiff], by simp only [f34, B0, reduceIte, reduceEqDiff], by simp only [f35, B0, reduceIte, reduceEqDiff]⟩
      · rw [iteF hg40] at hx42
        simp only [hg40, run_guard (g := 21), guard_false, f31, run_mv, run_bin, put1_some, xgtr, B0, reduceIte, reduceEqDiff]
        obtain ⟨v48, hx49, hF50⟩ := bind_some' hx42
        refine ops_j 8 (fun fr' h' => Sep h' h.length ([]) ∧ fr' 32 = .bool v48 ∧ fr' 0 = lst cI l_0 ∧ fr' 1 = .int .i64 many_1 ∧ fr' 7 = lst cI l_0 ∧ fr' 8 = .int .i64
            (List.length l_0 : Int) ∧ fr' 9 = .int .i64 (i1 : Int) ∧ fr' 21 = .bool ((decide (x2 < 0)) || (decide (many_1 ≤ x2)))) (fun Q45 hN46 => ?_) ?_
        · simp only [List.take_succ_cons, List.take_zero]
          simp only [run_guard (g := 24), B0, reduceIte, reduceEqDiff]
          refine guard_split (t := (decide ((0 : Int) < (i1 : Int)))) (fun hg47 => ?_) (fun hg47 => ?_)
          · rw [iteT hg47] at hx49
            obtain ⟨x51, hx52, hF53⟩ := bind_some' hx49
            simp only [hg47, run_guard (g := 24), guard_true, f29, run_mv, f31, run_bin, put1_some, xsub, run_ia, B0, reduceIte, reduceEqDiff]
            refine put1_eq (v := .ref (cI x51) 0) (xia_lst hx52 rfl) ?_
            simp only [hg47, run_guard (g := 24), guard_true, run_ld, B0, reduceIte, reduceEqDiff]
            refine put1_eq (v := .int .i64 x51) rfl ?_
            simp only [hg47, run_guard (g := 24), guard_true, f32, run_mv, run_bin, put1_some, xgeq, hg40, run_guard (g := 21), guard_false, run_pick, xpick_t, run_ops_nil,
                run_nil, B0, reduceIte, reduceEqDiff]
            have e54 := some_inj hF53
            exact hN46 _ _ ⟨hS37, by rw [← e54]; simp only [B0, reduceIte, reduceEqDiff], by simp only [f29, B0, reduceIte, reduceEqDiff], by simp only [f30, B0, reduceIte,
                reduceEqDiff], by simp only [f33, B0, reduceIte, reduceEqDiff], by simp only [f34, B0, reduceIte, reduceEqDiff], by simp only [f35, B0, reduceIte, reduceEqDiff],
                by simp only [hg40, B0, reduceIte, reduceEqDiff]⟩
          · rw [iteF hg47] at hx49
            simp only [hg47, run_guard (g := 24), guard_off, hg40, run_guard (g := 21), guard_false, run_pick, put1_some, xpick_f, run_ops_nil, run_nil, B0, reduceIte,
                reduceEqDiff]
            have e55 := some_inj hx49
            exact hN46 _ _ ⟨hS37, by rw [← e55]; simp only [B0, reduceIte, reduceEqDiff], by simp only [f29, B0, reduceIte, reduceEqDiff], by simp only [f30, B0, reduceIte,
                reduceEqDiff], by simp only [f33, B0, reduceIte, reduceEqDiff], by simp only [f34, B0, reduceIte, reduceEqDiff], by simp only [f35, B0, reduceIte, reduceEqDiff],
                by simp only [hg40, B0, reduceIte, reduceEqDiff]⟩
        rintro fr56 h64 ⟨hS65, f57, f58, f59, f60, f61, f62, f63⟩
        simp only [List.drop_succ_cons, List.drop_zero]
        simp only [f63, hg40, run_pick, put1_some, xpick_f, f57, run_ops_nil, run_nil, B0, reduceIte, reduceEqDiff]
        have e66 := some_inj hF50
        exact hN39 _ _ ⟨hS65, by rw [← e66]; simp only [B0, reduceIte, reduceEqDiff], by simp only [f58, B0, reduceIte, reduceEqDiff], by simp only [f59, B0, reduceIte,
            reduceEqDiff], by simp only [f60, B0, reduceIte, reduceEqDiff], by simp only [f61, B0, reduceIte, reduceEqDiff], by simp only [f62, B0, reduceIte, reduceEqDiff]⟩
    rintro fr67 h74 ⟨hS75, f68, f69, f70, f71, f72, f73⟩
    simp only [List.drop_succ_cons, List.drop_zero]
    simp only [run_ops_nil, f68, run_cond, B0, reduceIte, reduceEqDiff]
    refine cond_split (t := v41) (fun hc76 => ?_) (fun hc76 => ?_)
    · rw [iteT hc76] at hF43
      simp only [run_seq, run_reg, run_mv, run_ops_nil, run_ret, B0, reduceIte, reduceEqDiff]
      have e77 := some_inj hF43
      subst e77
      have ho78 := hr8 _ rfl
      have hk79 := hk6
      rw [ho78] at hk79
      dsimp only [jnO] at hk79
      apply hR12
      have he := some_inj hk79
      subst he
      simp only [end_ret1, B0, reduceIte, reduceEqDiff]
      exact rfl
    rw [iteF hc76] at hF43
    simp only [run_skip, run_nil, B0, reduceIte, reduceEqDiff]
    have e80 := some_inj hF43
    exact hN10 _ _ _ e80.symm ⟨by simp only [f69, B0, reduceIte, reduceEqDiff], by simp only [f70, B0, reduceIte, reduceEqDiff], by simp only [f71, B0, reduceIte, reduceEqDiff],
        hS75⟩ (by simp only [f73, B0, reduceIte, reduceEqDiff]) (by simp only [f72, B0, reduceIte, reduceEqDiff])
  rintro _ fr82 h83 rfl ⟨f85, f86, f87, hS84⟩
  dsimp only [jnO] at hk6
  unfold spec_l6Group_j1 at hk6
  simp only [run_seq, run_reg, run_mv, run_ops_nil, run_ret, B0, reduceIte, reduceEqDiff]
  have he := some_inj hk6
  subst he
  simp only [end_ret1, B0, reduceIte, reduceEqDiff]
  exact rfl
theorem spec_l1Has_x {W : Nat → Bool} {h : Heap} (hW : ∀ b,
    h.length ≤ b → W b = true) (l_0 : List Int) (n_1 : Int) (r : Bool) (hF : spec_l1Has l_0 n_1 = some r) : Ret E W 74 [lst cI l_0,
    .int .i64 n_1] h (fun v h' => cut h.length h' E.sz false 9 v = some (.bool r)) := by
  refine Ret.of (fn := x74) rfl (Run.of ?_)
  unfold spec_l1Has at hF
  have zf0 : argFr [lst cI l_0, .int .i64 n_1] 0 = lst cI l_0 := rfl
  have zf1 : argFr [lst cI l_0, .int .i64 n_1] 1 = .int .i64 n_1 := rfl
  generalize argFr [lst cI l_0, .int .i64 n_1] = fr0 at zf0 zf1 ⊢
  have hS : Sep h h.length [] := Sep.nil h
  simp only [x74, run_seq, run_reg, run_mv, run_ops_nil, x74_5, zf0, run_len, put1_some, xlen_lst, B0, reduceIte, reduceEqDiff]
  obtain ⟨oc3, hX5, hk6⟩ := jn_some hF
  simp only [x74_4]
  refine rangeL_j (σ := Unit) l_0 (fun i1 x2 _ => spec_l1Has_b1 n_1 i1 x2 ) (fun s fr' h' => fr' 1 = .int .i64 n_1 ∧ fr' 7 = lst cI l_0 ∧ Sep h' h.length
      ([])) hX5 ⟨by simp only [zf1, B0, reduceIte, reduceEqDiff], by simp only [B0, reduceIte, reduceEqDiff], hS⟩ (by simp only [B0, reduceIte, reduceEqDiff]) (by simp only [B0,
      reduceIte, reduceEqDiff]) (fun _ _ _ h => h) rfl rfl (fun _ _ _ _ h => h) (fun _ _ _ _ h => h) (fun _ _ _ _ h => h) (by decide) ?_ ?_
  · rintro i1 x2 _ fr15 h16 hx20 ⟨f18, f19, hS17⟩ f21 f22 oc4 hF7 hr8 Q9 hN10 hB14 hK11 hR12 hE13
    unfold spec_l1Has_b1 at hF7
    simp only [x74_2, run_seq, run_reg, f19, f21, run_ia, B0, reduceIte, reduceEqDiff]
    refine put1_eq (v := .ref (cI x2) 0) (xia_lstN hx20 rfl) ?_
    simp only [run_ld, B0, reduceIte, reduceEqDiff]
    refine put1_eq (v := .int .i64 x2) rfl ?_
    simp only [run_mv, run_ops_nil, x74_1, run_seq, run_reg, f18, run_bin, put1_some, xeql, run_cond, B0, reduceIte, reduceEqDiff]
    refine cond_split (t := (decide (x2 = n_1))) (fun hc23 => ?_) (fun hc23 => ?_)
    · rw [iteT hc23] at hF7
      simp only [run_seq, run_reg, run_mv, run_ops_nil, run_ret, B0, reduceIte, reduceEqDiff]
      have e24 := some_inj hF7
      subst e24
      have ho25 := hr8 _ rfl
      have hk26 := hk6
      rw [ho25] at hk26
      dsimp only [jnO] at hk26
      apply hR12
      have he := some_inj hk26
      subst he
      simp only [end_ret1, B0, reduceIte, reduceEqDiff]
      exact rfl
    rw [iteF hc23] at hF7
    simp only [run_skip, run_nil, B0, reduceIte, reduceEqDiff]
    have e27 := some_inj hF7
    exact hN10 _ _ _ e27.symm ⟨by simp only [f18, B0, reduceIte, reduceEqDiff], by simp only [f19, B0, reduceIte, reduceEqDiff], hS17⟩ (by simp only [f21, B0, reduceIte,
        reduceEqDiff]) (by simp only [f22, B0, reduceIte, reduceEqDiff])
  rintro _ fr29 h30 rfl ⟨f32, f33, hS31⟩
  dsimp only [jnO] at hk6
  unfold spec_l1Has_j1 at hk6
  simp only [run_seq, run_reg, run_mv, run_ops_nil, run_ret, B0, reduceIte, reduceEqDiff]
  have he := some_inj hk6
  subst he
  simp only [end_ret1, B0, reduceIte, reduceEqDiff]
  exact rfl
theorem spec_l11Log_x {W : Nat → Bool} {h : Heap} (hW : ∀ b,
    h.length ≤ b → W b = true) (l_0 : List Row) (epoch_1 : Int) (r : Bool) (hF : spec_l11Log l_0 epoch_1 = some r) : Ret E W 75 [lst Row.cells l_0,
    .int .i64 epoch_1] h (fun v h' => cut h.length h' E.sz false 9 v = some (.bool r)) := by
  refine Ret.of (fn := x75) rfl (Run.of ?_)
  unfold spec_l11Log at hF
  have zf0 : argFr [lst Row.cells l_0, .int .i64 epoch_1] 0 = lst Row.cells l_0 := rfl
  have zf1 : argFr [lst Row.cells l_0, .int .i64 epoch_1] 1 = .int .i64 epoch_1 := rfl
  generalize argFr [lst Row.cells l_0, .int .i64 epoch_1] = fr0 at zf0 zf1 ⊢
  have hS : Sep h h.length [] := Sep.nil h
  simp only [x75, run_seq, run_reg, run_mv, run_ops_nil, x75_6, zf0, run_len, put1_some, xlen_lst, B0, reduceIte, reduceEqDiff]
  obtain ⟨oc3, hX5, hk6⟩ := jn_some hF
  simp only [x75_4]
  refine rangeL_j (σ := Unit) l_0 (fun i1 x2 _ => spec_l11Log_b1 l_0 epoch_1 i1 x2 )
      (fun s fr' h' => fr' 0 = lst Row.cells l_0 ∧ fr' 1 = .int .i64 epoch_1 ∧ fr' 7 = lst Row.cells l_0 ∧ Sep h' h.length ([])) hX5 ⟨by simp only [zf0, B0, reduceIte,
      reduceEqDiff], by simp only [zf1, B0, reduceIte, reduceEqDiff], by simp only [B0, reduceIte, reduceEqDiff], hS⟩ (by simp only [B0, reduceIte,
      reduceEqDiff]) (by simp only [B0, reduceIte, reduceEqDiff]) (fun _ _ _ h => h) rfl rfl (fun _ _ _ _ h => h) (fun _ _ _ _ h => h) (fun _ _ _ _ h => h) (by decide) ?_ ?_
  · rintro i1 x2 _ fr15 h16 hx21 ⟨f18, f19, f20, hS17⟩ f22 f23 oc4 hF7 hr8 Q9 hN10 hB14 hK11 hR12 hE13
    unfold spec_l11Log_b1 at hF7
    simp only [x75_2, run_seq, run_reg, f22, run_mv, f20, run_ia, B0, reduceIte, reduceEqDiff]
    refine put1_eq (v := .ref (Row.cells x2) 0) (xia_lstN hx21 rfl) ?_
    simp only [run_ld, B0, reduceIte, reduceEqDiff]
    refine put1_eq (v := .agg [.int .i64 x2.Epoch, .int .i64 x2.Value]) rfl ?_
    simp only [run_new, B0, reduceIte, reduceEqDiff]
    refine put2_newC hS17 (fun b24 h25 hS26 => ?_)
    simp only [run_mv, run_st, B0, reduceIte, reduceEqDiff]
    refine put2_stCx (us := [.int .i64 x2.Epoch, .int .i64 x2.Value]) rfl (cs' := [.int .i64 x2.Epoch,
        .int .i64 x2.Value]) hS26 hW rfl rfl (Nat.le_of_ble_eq_true rfl) rfl (fun h28 hS29 => ?_)
    simp only [run_ops_nil, B0, reduceIte, reduceEqDiff]
    refine frz_stepC hS29 hW (by simp only [B0, reduceIte, reduceEqDiff]) (fun h30 hS31 => ?_)
    simp only [run_frz_nil, x75_1, run_seq, run_draw, d4_fa, put1d_some, Nat.reduceAdd, Nat.zero_add, Nat.add_zero, xfa_ref, d4_ld, B0, reduceIte, reduceEqDiff]
    refine put1d_eq (v := .int .i64 x2.Epoch) rfl ?_
    simp only [f19, d4_mv, put1d_some, run_d3_call, B0, reduceIte, reduceEqDiff]
    refine call1d rfl (mapM1 snap_int (mapM1 snap_int (mapM1 snap_int mapM0))) (spec_l1In_x (fun b hb => decide_eq_true hb) x2.Epoch 0 epoch_1 _ rfl) ?_
    simp only [d4_un, put1d_some, xnot, d4_mv, B0, reduceIte, reduceEqDiff]
    simp only [run_guardd (g := 19), B0, reduceIte, reduceEqDiff]
    refine guardd_split (t := (!(spec_l1In x2.Epoch 0 epoch_1))) (fun hg32 => ?_) (fun hg32 => ?_)
    · rw [iteT hg32] at hF7
      simp only [hg32, run_guardd (g := 19), guardd_off', d4_pick, put1d_some, xpick_t, d4_mv, run_guardd (g := 25), run_guardd (g := 28), guardd_tup, run_draw_nil, run_cond,
          cond_true, run_seq, run_reg, run_mv, run_ops_nil, run_ret, B0, reduceIte, reduceEqDiff]
      have e33 := some_inj hF7
      subst e33
      have ho34 := hr8 _ rfl
      have hk35 := hk6
      rw [ho34] at hk35
      dsimp only [jnO] at hk35
      apply hR12
      have he := some_inj hk35
      subst he
      simp only [end_ret1, B0, reduceIte, reduceEqDiff]
      exact rfl
    rw [iteF hg32] at hF7
    simp only [hg32, run_guardd (g := 19), guardd_false, d4_fa, put1d_some, Nat.reduceAdd, Nat.zero_add, Nat.add_zero, xfa_ref, d4_ld, B0, reduceIte, reduceEqDiff]
    refine put1d_eq (v := .int .i64 x2.Value) rfl ?_
    simp only [hg32, run_guardd (g := 19), guardd_false, run_d3_call, B0, reduceIte, reduceEqDiff]
    refine call1d rfl (mapM1 snap_int (mapM1 snap_int (mapM1 snap_int mapM0))) (spec_l1In_x (fun b hb => decide_eq_true hb) x2.Value 0 99 _ rfl) ?_
    simp only [hg32, run_guardd (g := 19), guardd_false, d4_un, put1d_some, xnot, d4_pick, xpick_f, d4_mv, B0, reduceIte, reduceEqDiff]
    obtain ⟨v39, hx40, hF41⟩ := bind_some' hF7
    refine draw_j 14 (fun fr' h' => Sep h' h.length
        ([]) ∧ fr' 39 = .bool v39 ∧ fr' 0 = lst Row.cells l_0 ∧ fr' 1 = .int .i64 epoch_1 ∧ fr' 7 = lst Row.cells l_0 ∧ fr' 8 = .int .i64
        (List.length l_0 : Int) ∧ fr' 9 = .int .i64 (i1 : Int)) rfl (fun Q36 hN37 => ?_) ?_
    · simp only [List.take_succ_cons, List.take_zero]
      simp only [run_guardd (g := 25), B0, reduceIte, reduceEqDiff]
      refine guardd_split (t := (!(spec_l1In x2.Value 0 99))) (fun hg38 => ?_) (fun hg38 => ?_)
      · rw [iteT hg38] at hx40
        simp only [hg38, run_guardd (g := 25), guardd_off', run_guardd (g := 28), guardd_tup, d4_pick, put1d_some, xpick_t, run_draw_nil, run_nil, B0, reduceIte, reduceEqDiff]
        have e42 := some_inj hx40
        exact hN37 _ _ ⟨hS31, by rw [← e42]; simp only [B0, reduceIte, reduceEqDiff], by simp only [f18, B0, reduceIte, reduceEqDiff], by simp only [f19, B0, reduceIte,
            reduceEqDiff], by simp only [f20, B0, reduceIte, reduceEqDiff], by simp only [f23, B0, reduceIte, reduceEqDiff], by simp only [f22, B0, reduceIte, reduceEqDiff]⟩
      · rw [iteF hg38] at hx40
        simp only [hg38, run_guardd (g := 25), guardd_false, d4_mv, put1d_some, d4_bin, xgtr, B0, reduceIte, reduceEqDiff]
        obtain ⟨v46, hx47, hF48⟩ := bind_some' hx40
        refine draw_j 10 (fun fr' h' => Sep h' h.length
            ([]) ∧ fr' 38 = .bool v46 ∧ fr' 0 = lst Row.cells l_0 ∧ fr' 1 = .int .i64 epoch_1 ∧ fr' 7 = lst Row.cells l_0 ∧ fr' 8 = .int .i64
            (List.length l_0 : Int) ∧ fr' 9 = .int .i64 (i1 : Int) ∧ fr' 25 = .bool (!(spec_l1In x2.Value 0 99))) rfl (fun Q43 hN44 => ?_) ?_
        · simp only [List.take_succ_cons, List.take_zero]
          simp only [run_guardd (g := 28), B0, reduceIte, reduceEqDiff]
          refine guardd_split (t := (decide ((0 : Int) < (i1 : Int)))) (fun hg45 => ?_) (fun hg45 => ?_)
          · rw [iteT hg45] at hx47
            obtain ⟨x49, hx50, hF51⟩ := bind_some' hx47
            simp only [hg45, run_guardd (g := 28), guardd_true, f18, d4_mv, put1d_some, d4_bin, xsub, d4_ia, B0, reduceIte, reduceEqDiff]
            refine put1d_eq (v := .ref (Row.cells x49) 0) (xia_lst hx50 rfl) ?_
            simp only [hg45, run_guardd (g := 28), guardd_true, d4_fa, put1d_some, Nat.reduceAdd, Nat.zero_add, Nat.add_zero, xfa_ref, d4_ld, B0, reduceIte, reduceEqDiff]
            refine put1d_eq (v := .int .i64 x49.Epoch) rfl ?_
            simp only [hg45, run_guardd (g := 28), guardd_true, d4_fa, put1d_some, Nat.reduceAdd, Nat.zero_add, Nat.add_zero, xfa_ref, d4_ld, B0, reduceIte, reduceEqDiff]
            refine put1d_eq (v := .int .i64 x2.Epoch) rfl ?_
            simp only [hg45, run_guardd (g := 28), guardd_true, d4_bin, put1d_some, xgtr, hg38, run_guardd (g := 25), guardd_false, d4_pick, xpick_t, run_draw_nil, run_nil, B0,
                reduceIte, reduceEqDiff]
            have e52 := some_inj hF51
            exact hN44 _ _ ⟨hS31, by rw [← e52]; simp only [B0, reduceIte, reduceEqDiff], by simp only [f18, B0, reduceIte, reduceEqDiff], by simp only [f19, B0, reduceIte,
                reduceEqDiff], by simp only [f20, B0, reduceIte, reduceEqDiff], by simp only [f23, B0, reduceIte, reduceEqDiff], by simp only [f22, B0, reduceIte, reduceEqDiff],
                by simp only [hg38, B0, reduceIte, reduceEqDiff]⟩
          · rw [iteF hg45] at hx47
            simp only [hg45, run_guardd (g := 28), guardd_off, hg38, run_guardd (g := 25), guardd_false, d4_pick, put1d_some, xpick_f, run_draw_nil, run_nil, B0, reduceIte,
                reduceEqDiff]
            have e53 := some_inj hx47
            exact hN44 _ _ ⟨hS31, by rw [← e53]; simp only [B0, reduceIte, reduceEqDiff], by simp only [f18, B0, reduceIte, reduceEqDiff], by simp only [f19, B0, reduceIte,
                reduceEqDiff], by simp only [f20, B0, reduceIte, reduceEqDiff], by simp only [f23, B0, reduceIte, reduceEqDiff], by simp only [f22, B0, reduceIte, reduceEqDiff],
                by simp only [hg38, B0, reduceIte, reduceEqDiff]⟩
        rintro fr54 h62 ⟨hS63, f55, f56, f57, f58, f59, f60, f61⟩
        simp only [List.drop_succ_cons, List.drop_zero]
        simp only [f61, hg38, d4_pick, put1d_some, xpick_f, f55, run_draw_nil, run_nil, B0, reduceIte, reduceEqDiff]
        have e64 := some_inj hF48
        exact hN37 _ _ ⟨hS63, by rw [← e64]; simp only [B0, reduceIte, reduceEqDiff], by simp only [f56, B0, reduceIte, reduceEqDiff], by simp only [f57, B0, reduceIte,
            reduceEqDiff], by simp only [f58, B0, reduceIte, reduceEqDiff], by simp only [f59, B0, reduceIte, reduceEqDiff], by simp only [f60, B0, reduceIte, reduceEqDiff]⟩
    rintro fr65 h72 ⟨hS73, f66, f67, f68, f69, f70, f71⟩
    simp only [List.drop_succ_cons, List.drop_zero]
    simp only [run_draw_nil, f66, run_cond, B0, reduceIte, reduceEqDiff]
    refine cond_split (t := v39) (fun hc74 => ?_) (fun hc74 => ?_)
    · rw [iteT hc74] at hF41
      simp only [run_seq, run_reg, run_mv, run_ops_nil, run_ret, B0, reduceIte, reduceEqDiff]
      have e75 := some_inj hF41
      subst e75
      have ho76 := hr8 _ rfl
      have hk77 := hk6
      rw [ho76] at hk77
      dsimp only [jnO] at hk77
      apply hR12
      have he := some_inj hk77
      subst he
      simp only [end_ret1, B0, reduceIte, reduceEqDiff]
      exact rfl
    rw [iteF hc74] at hF41
    simp only [run_skip, run_nil, B0, reduceIte, reduceEqDiff]
    have e78 := some_inj hF41
    exact hN10 _ _ _ e78.symm ⟨by simp only [f67, B0, reduceIte, reduceEqDiff], by simp only [f68, B0, reduceIte, reduceEqDiff], by simp only [f69, B0, reduceIte, reduceEqDiff],
        hS73⟩ (by simp only [f71, B0, reduceIte, reduceEqDiff]) (by simp only [f70, B0, reduceIte, reduceEqDiff])
  rintro _ fr80 h81 rfl ⟨f83, f84, f85, hS82⟩
  dsimp only [jnO] at hk6
  unfold spec_l11Log_j1 at hk6
  simp only [x75_5, run_seq, run_reg, f83, run_mv, run_len, put1_some, xlen_lst, run_bin, xleq, run_ops_nil, run_ret, B0, reduceIte, reduceEqDiff]
  have he := some_inj hk6
  subst he
  simp only [end_ret1, B0, reduceIte, reduceEqDiff]
  exact rfl
theorem spec_l11Same_x {W : Nat → Bool} {h : Heap} (hW : ∀ b,
    h.length ≤ b → W b = true) (k : Nat) (a_0 : List Row) (b_1 : List Row) (r : Int) (hF : spec_l11Same k a_0 b_1 = some r) : Ret E W 76 [lst Row.cells a_0,
    lst Row.cells b_1] h (fun v h' => cut h.length h' E.sz false 9 v = some (.int .i64 r)) := by
  refine Ret.of (fn := x76) rfl (Run.of ?_)
  unfold spec_l11Same at hF
  have zf0 : argFr [lst Row.cells a_0, lst Row.cells b_1] 0 = lst Row.cells a_0 := rfl
  have zf1 : argFr [lst Row.cells a_0, lst Row.cells b_1] 1 = lst Row.cells b_1 := rfl
  generalize argFr [lst Row.cells a_0, lst Row.cells b_1] = fr0 at zf0 zf1 ⊢
  have hS : Sep h h.length [] := Sep.nil h
  simp only [x76, run_seq, run_reg, run_mv, run_ops_nil, x76_4, x76_3, B0, reduceIte, reduceEqDiff]
  obtain ⟨oc5, hX7, hk8⟩ := jn_some hF
  simp only [x76_2]
  refine loopF_j (σ := Int) (fun s58 => spec_l11Same_b1 a_0 b_1 s58)
      (fun s fr' h' => fr' 0 = lst Row.cells a_0 ∧ fr' 1 = lst Row.cells b_1 ∧ fr' 5 = .int .i64 s ∧ Sep h' h.length ([])) hX7 ⟨by simp only [zf0, B0, reduceIte, reduceEqDiff],
      by simp only [zf1, B0, reduceIte, reduceEqDiff], by simp only [B0, reduceIte, reduceEqDiff], hS⟩ (fun _ _ _ h => h) ?_ ?_
  · rintro s2 fr17 h18 ⟨f20, f21, f22, hS19⟩ oc6 hF9 hr10 Q11 hN12 hK13 hR14 hE15
    unfold spec_l11Same_b1 at hF9
    simp only [x76_1, run_seq, run_draw, f22, d4_mv, put1d_some, f20, d4_len, xlen_lst, d4_bin, xlss, B0, reduceIte, reduceEqDiff]
    refine draw_j 5 (fun fr' h' => Sep h' h.length ([]) ∧ fr' 15 = .bool ((decide (s2 < (List.length a_0 : Int))) && (decide (s2 <
        (List.length b_1 : Int)))) ∧ fr' 0 = lst Row.cells a_0 ∧ fr' 1 = lst Row.cells b_1 ∧ fr' 5 = .int .i64 s2) rfl (fun Q24 hN25 => ?_) ?_
    · simp only [List.take_succ_cons, List.take_zero]
      simp only [run_guardd (g := 10), B0, reduceIte, reduceEqDiff]
      refine guardd_split (t := (decide (s2 < (List.length a_0 : Int)))) (fun hg26 => ?_) (fun hg26 => ?_)
      · simp only [hg26, run_guardd (g := 10), guardd_true, f22, d4_mv, put1d_some, f21, d4_len, xlen_lst, d4_bin, xlss, d4_pick, xpick_t, run_draw_nil, run_nil, B0, reduceIte,
          reduceEqDiff]
        exact hN25 _ _ ⟨hS19, by rw [andT hg26]; simp only [B0, reduceIte, reduceEqDiff], by simp only [f20, B0, reduceIte, reduceEqDiff], by simp only [f21, B0, reduceIte,
            reduceEqDiff], by simp only [f22, B0, reduceIte, reduceEqDiff]⟩
      · simp only [hg26, run_guardd (g := 10), guardd_off, d4_pick, put1d_some, xpick_f, run_draw_nil, run_nil, B0, reduceIte, reduceEqDiff]
        exact hN25 _ _ ⟨hS19, by rw [andF hg26]; simp only [B0, reduceIte, reduceEqDiff], by simp only [f20, B0, reduceIte, reduceEqDiff], by simp only [f21, B0, reduceIte,
            reduceEqDiff], by simp only [f22, B0, reduceIte, reduceEqDiff]⟩
    rintro fr27 h32 ⟨hS33, f28, f29, f30, f31⟩
    simp only [List.drop_succ_cons, List.drop_zero]
    simp only [f28, d4_mv, put1d_some, B0, reduceIte, reduceEqDiff]
    obtain ⟨v37, hx38, hF39⟩ := bind_some' hF9
    refine draw_j 10 (fun fr' h' => Sep h' h.length ([]) ∧ fr' 26 = .bool v37 ∧ fr' 0 = lst Row.cells a_0 ∧ fr' 1 = lst Row.cells b_1 ∧ fr' 5 = .int .i64 s2) rfl
        (fun Q34 hN35 => ?_) ?_
    · simp only [List.take_succ_cons, List.take_zero]
      simp only [run_guardd (g := 16), B0, reduceIte, reduceEqDiff]
      refine guardd_split (t := ((decide (s2 < (List.length a_0 : Int))) && (decide (s2 < (List.length b_1 : Int))))) (fun hg36 => ?_) (fun hg36 => ?_)
      · rw [iteT hg36] at hx38
        obtain ⟨x40, hx41, hF42⟩ := bind_some' hx38
        simp only [hg36, run_guardd (g := 16), guardd_true, f29, d4_mv, put1d_some, f31, d4_ia, B0, reduceIte, reduceEqDiff]
        refine put1d_eq (v := .ref (Row.cells x40) 0) (xia_lst hx41 rfl) ?_
        simp only [hg36, run_guardd (g := 16), guardd_true, d4_ld, B0, reduceIte, reduceEqDiff]
        refine put1d_eq (v := .agg [.int .i64 x40.Epoch, .int .i64 x40.Value]) rfl ?_
        obtain ⟨x43, hx44, hF45⟩ := bind_some' hF42
        simp only [hg36, run_guardd (g := 16), guardd_true, f30, d4_mv, put1d_some, f31, d4_ia, B0, reduceIte, reduceEqDiff]
        refine put1d_eq (v := .ref (Row.cells x43) 0) (xia_lst hx44 rfl) ?_
        simp only [hg36, run_guardd (g := 16), guardd_true, d4_ld, B0, reduceIte, reduceEqDiff]
        refine put1d_eq (v := .agg [.int .i64 x43.Epoch, .int .i64 x43.Value]) rfl ?_
        simp only [hg36, run_guardd (g := 16), guardd_true, d4_eqs, B0, reduceIte, reduceEqDiff]
        refine put1d_eq (v := .bool ((x40.Epoch == x43.Epoch) && ((x40.Value == x43.Value) && true))) rfl ?_
        simp only [hg36, d4_pick, put1d_some, xpick_t, run_draw_nil, run_nil, B0, reduceIte, reduceEqDiff]
        have e46 := some_inj hF45
        exact hN35 _ _ ⟨hS33, by rw [← e46]; simp only [B0, reduceIte, reduceEqDiff], by simp only [f29, B0, reduceIte, reduceEqDiff], by simp only [f30, B0, reduceIte,
            reduceEqDiff], by simp only [f31, B0, reduceIte, reduceEqDiff]⟩
      · rw [iteF hg36] at hx38
        simp only [hg36, run_guardd (g := 16), guardd_off, d4_pick, put1d_some, xpick_f, run_draw_nil, run_nil, B0, reduceIte, reduceEqDiff]
        have e47 := some_inj hx38
        exact hN35 _ _ ⟨hS33, by rw [← e47]; simp only [B0, reduceIte, reduceEqDiff], by simp only [f29, B0, reduceIte, reduceEqDiff], by simp only [f30, B0, reduceIte,
            reduceEqDiff], by simp only [f31, B0, reduceIte, reduceEqDiff]⟩
    rintro fr48 h53 ⟨hS54, f49, f50, f51, f52⟩
    simp only [List.drop_succ_cons, List.drop_zero]
    simp only [run_draw_nil, f49, run_cond, B0, reduceIte, reduceEqDiff]
    refine cond_split (t := v37) (fun hc55 => ?_) (fun hc55 => ?_)
    · rw [iteT hc55] at hF39
      simp only [run_skip, run_block, run_reg, f52, run_mv, run_bin, put1_some, xadd, run_ops_nil, run_blk, run_nil, B0, reduceIte, reduceEqDiff]
      have e56 := some_inj hF39
      exact hN12 _ _ _ e56.symm ⟨by simp only [f50, B0, reduceIte, reduceEqDiff], by simp only [f51, B0, reduceIte, reduceEqDiff], by simp only [B0, reduceIte, reduceEqDiff], hS54⟩
    rw [iteF hc55] at hF39
    simp only [run_exit, out_code, out_nil, B0, reduceIte, reduceEqDiff]
    have e57 := some_inj hF39
    exact hK13 _ _ _ e57.symm ⟨by simp only [f50, B0, reduceIte, reduceEqDiff], by simp only [f51, B0, reduceIte, reduceEqDiff], by simp only [f52, B0, reduceIte, reduceEqDiff],
        hS54⟩
  rintro s59 fr60 h61 rfl ⟨f63, f64, f65, hS62⟩
  dsimp only [jnO] at hk8
  unfold spec_l11Same_j1 at hk8
  simp only [run_seq, run_reg, f65, run_mv, run_ops_nil, run_ret, B0, reduceIte, reduceEqDiff]
  have he := some_inj hk8
  subst he
  simp only [end_ret1, B0, reduceIte, reduceEqDiff]
  exact rfl
end Go.Proofs.Ytefgfcalgjmhjaa.X
namespace Go.Proofs.Ytefgfcalgjmhjaa.X
open Go
open Nat (reduceEqDiff)
theorem spec_GoodGroup_x {W : Nat → Bool} {h : Heap} (hW : ∀ b,
    h.length ≤ b → W b = true) (k : Nat) (v_0 : Group) (r : Bool) (hF : spec_GoodGroup k v_0 = some r) : Ret E W 35 [.agg [.int .i64 v_0.Epoch, .int .i64 v_0.Leader,
    lst cI v_0.InStep, .int .i64 v_0.High, lst Replica.cells v_0.Replicas]] h (fun v h' => cut h.length h' E.sz false 9 v = some (.bool r)) := by
  refine Ret.of (fn := x35) rfl (Run.of ?_)
  unfold spec_GoodGroup at hF
  have zf0 : argFr [.agg [.int .i64 v_0.Epoch, .int .i64 v_0.Leader, lst cI v_0.InStep, .int .i64 v_0.High, lst Replica.cells v_0.Replicas]] 0 = .agg [.int .i64 v_0.Epoch,
      .int .i64 v_0.Leader, lst cI v_0.InStep, .int .i64 v_0.High, lst Replica.cells v_0.Replicas] := rfl
  generalize argFr [.agg [.int .i64 v_0.Epoch, .int .i64 v_0.Leader, lst cI v_0.InStep, .int .i64 v_0.High, lst Replica.cells v_0.Replicas]] = fr0 at zf0 ⊢
  have hS : Sep h h.length [] := Sep.nil h
  simp only [x35, run_seq, run_reg, run_box, zf0, B0, reduceIte, reduceEqDiff]
  refine put2_boxC (cs := [.int .i64 v_0.Epoch, .int .i64 v_0.Leader, lst cI v_0.InStep, .int .i64 v_0.High, lst Replica.cells v_0.Replicas]) hS rfl rfl rfl (fun b1 h2 hS3 => ?_)
  simp only [run_mv, run_ops_nil, B0, reduceIte, reduceEqDiff]
  refine frz_stepC hS3 hW (by simp only [B0, reduceIte, reduceEqDiff]) (fun h5 hS6 => ?_)
  simp only [run_frz_nil, x35_9, run_seq, run_reg, run_fa, put1_some, Nat.reduceAdd, Nat.zero_add, Nat.add_zero, xfa_ref, run_ld, B0, reduceIte, reduceEqDiff]
  refine put1_eq (v := lst Replica.cells v_0.Replicas) rfl ?_
  simp only [run_len, put1_some, xlen_lst, run_mv, run_ops_nil, x35_8, run_seq, run_reg, run_call, B0, reduceIte, reduceEqDiff]
  refine call1 rfl (mapM1 snap_int (mapM1 snap_int (mapM1 snap_int mapM0))) (spec_l1In_x (fun b hb => decide_eq_true hb) (List.length v_0.Replicas : Int) 2 4 _ rfl) ?_
  simp only [run_un, put1_some, xnot, run_mv, B0, reduceIte, reduceEqDiff]
  refine ops_j 5 (fun fr' h' => Sep h' h.length ([]) ∧ fr' 17 = .bool ((!(spec_l1In (List.length v_0.Replicas : Int) 2 4)) ||
      (!(spec_l1In v_0.Epoch 0 100))) ∧ fr' 1 = .ref [.int .i64 v_0.Epoch, .int .i64 v_0.Leader, lst cI v_0.InStep, .int .i64 v_0.High,
      lst Replica.cells v_0.Replicas] 0 ∧ fr' 3 = .int .i64 (List.length v_0.Replicas : Int)) (fun Q7 hN8 => ?_) ?_
  · simp only [List.take_succ_cons, List.take_zero]
    simp only [run_guard (g := 12), B0, reduceIte, reduceEqDiff]
    refine guard_split (t := (!(spec_l1In (List.length v_0.Replicas : Int) 2 4))) (fun hg9 => ?_) (fun hg9 => ?_)
    · simp only [hg9, run_guard (g := 12), guard_off', run_pick, put1_some, xpick_t, run_ops_nil, run_nil, B0, reduceIte, reduceEqDiff]
      exact hN8 _ _ ⟨hS6, by rw [orT hg9]; simp only [B0, reduceIte, reduceEqDiff], by simp only [B0, reduceIte, reduceEqDiff], by simp only [B0, reduceIte, reduceEqDiff]⟩
    · simp only [hg9, run_guard (g := 12), guard_false, run_fa, put1_some, Nat.reduceAdd, Nat.zero_add, Nat.add_zero, xfa_ref, run_ld, B0, reduceIte, reduceEqDiff]
      refine put1_eq (v := .int .i64 v_0.Epoch) rfl ?_
      simp only [hg9, run_guard (g := 12), guard_false, run_call, B0, reduceIte, reduceEqDiff]
      refine call1 rfl (mapM1 snap_int (mapM1 snap_int (mapM1 snap_int mapM0))) (spec_l1In_x (fun b hb => decide_eq_true hb) v_0.Epoch 0 100 _ rfl) ?_
      simp only [hg9, run_guard (g := 12), guard_false, run_un, put1_some, xnot, run_pick, xpick_f, run_ops_nil, run_nil, B0, reduceIte, reduceEqDiff]
      exact hN8 _ _ ⟨hS6, by rw [orF hg9]; simp only [B0, reduceIte, reduceEqDiff], by simp only [B0, reduceIte, reduceEqDiff], by simp only [B0, reduceIte, reduceEqDiff]⟩
  rintro fr10 h14 ⟨hS15, f11, f12, f13⟩
  simp only [List.drop_succ_cons, List.drop_zero]
  simp only [f11, run_mv, B0, reduceIte, reduceEqDiff]
  obtain ⟨v19, hx20, hF21⟩ := bind_some' hF
  refine ops_j 6 (fun fr' h' => Sep h' h.length ([]) ∧ fr' 24 = .bool v19 ∧ fr' 1 = .ref [.int .i64 v_0.Epoch, .int .i64 v_0.Leader, lst cI v_0.InStep, .int .i64 v_0.High,
      lst Replica.cells v_0.Replicas] 0) (fun Q16 hN17 => ?_) ?_
  · simp only [List.take_succ_cons, List.take_zero]
    simp only [run_guard (g := 18), B0, reduceIte, reduceEqDiff]
    refine guard_split (t := ((!(spec_l1In (List.length v_0.Replicas : Int) 2 4)) || (!(spec_l1In v_0.Epoch 0 100)))) (fun hg18 => ?_) (fun hg18 => ?_)
    · rw [iteT hg18] at hx20
      simp only [hg18, run_guard (g := 18), guard_off', run_pick, put1_some, xpick_t, run_ops_nil, run_nil, B0, reduceIte, reduceEqDiff]
      have e22 := some_inj hx20
      exact hN17 _ _ ⟨hS15, by rw [← e22]; simp only [B0, reduceIte, reduceEqDiff], by simp only [f12, B0, reduceIte, reduceEqDiff]⟩
    · rw [iteF hg18] at hx20
      simp only [hg18, run_guard (g := 18), guard_false, f12, run_fa, put1_some, Nat.reduceAdd, Nat.zero_add, Nat.add_zero, xfa_ref, run_ld, B0, reduceIte, reduceEqDiff]
      refine put1_eq (v := lst cI v_0.InStep) rfl ?_
      obtain ⟨v23, hx24, hF25⟩ := bind_some' hx20
      simp only [hg18, run_guard (g := 18), guard_false, f13, run_mv, run_call, B0, reduceIte, reduceEqDiff]
      refine call1 rfl (mapM1 snap_lst (mapM1 snap_int mapM0)) (spec_l6Group_x (fun b hb => decide_eq_true hb) v_0.InStep (List.length v_0.Replicas : Int) v23 hx24) ?_
      simp only [hg18, run_guard (g := 18), guard_false, run_un, put1_some, xnot, run_pick, xpick_f, run_ops_nil, run_nil, B0, reduceIte, reduceEqDiff]
      have e26 := some_inj hF25
      exact hN17 _ _ ⟨hS15, by rw [← e26]; simp only [B0, reduceIte, reduceEqDiff], by simp only [f12, B0, reduceIte, reduceEqDiff]⟩
  rintro fr27 h30 ⟨hS31, f28, f29⟩
  simp only [List.drop_succ_cons, List.drop_zero]
  simp only [f28, run_mv, B0, reduceIte, reduceEqDiff]
  obtain ⟨v35, hx36, hF37⟩ := bind_some' hF21
  refine ops_j 7 (fun fr' h' => Sep h' h.length ([]) ∧ fr' 32 = .bool v35 ∧ fr' 1 = .ref [.int .i64 v_0.Epoch, .int .i64 v_0.Leader, lst cI v_0.InStep, .int .i64 v_0.High,
      lst Replica.cells v_0.Replicas] 0) (fun Q32 hN33 => ?_) ?_
  · simp only [List.take_succ_cons, List.take_zero]
    simp only [run_guard (g := 25), B0, reduceIte, reduceEqDiff]
    refine guard_split (t := v19) (fun hg34 => ?_) (fun hg34 => ?_)
    · rw [iteT hg34] at hx36
      simp only [hg34, run_guard (g := 25), guard_off', run_pick, put1_some, xpick_t, run_ops_nil, run_nil, B0, reduceIte, reduceEqDiff]
      have e38 := some_inj hx36
      exact hN33 _ _ ⟨hS31, by rw [← e38]; simp only [B0, reduceIte, reduceEqDiff], by simp only [f29, B0, reduceIte, reduceEqDiff]⟩
    · rw [iteF hg34] at hx36
      simp only [hg34, run_guard (g := 25), guard_false, f29, run_fa, put1_some, Nat.reduceAdd, Nat.zero_add, Nat.add_zero, xfa_ref, run_ld, B0, reduceIte, reduceEqDiff]
      refine put1_eq (v := lst cI v_0.InStep) rfl ?_
      simp only [hg34, run_guard (g := 25), guard_false, f29, run_fa, put1_some, Nat.reduceAdd, Nat.zero_add, Nat.add_zero, xfa_ref, run_ld, B0, reduceIte, reduceEqDiff]
      refine put1_eq (v := .int .i64 v_0.Leader) rfl ?_
      obtain ⟨v39, hx40, hF41⟩ := bind_some' hx36
      simp only [hg34, run_guard (g := 25), guard_false, run_call, B0, reduceIte, reduceEqDiff]
      refine call1 rfl (mapM1 snap_lst (mapM1 snap_int mapM0)) (spec_l1Has_x (fun b hb => decide_eq_true hb) v_0.InStep v_0.Leader v39 hx40) ?_
      simp only [hg34, run_guard (g := 25), guard_false, run_un, put1_some, xnot, run_pick, xpick_f, run_ops_nil, run_nil, B0, reduceIte, reduceEqDiff]
      have e42 := some_inj hF41
      exact hN33 _ _ ⟨hS31, by rw [← e42]; simp only [B0, reduceIte, reduceEqDiff], by simp only [f29, B0, reduceIte, reduceEqDiff]⟩
  rintro fr43 h46 ⟨hS47, f44, f45⟩
  simp only [List.drop_succ_cons, List.drop_zero]
  simp only [f44, run_mv, B0, reduceIte, reduceEqDiff]
  refine ops_j 4 (fun fr' h' => Sep h' h.length ([]) ∧ fr' 37 = .bool (v35 || (decide (v_0.High < 0))) ∧ fr' 1 = .ref [.int .i64 v_0.Epoch, .int .i64 v_0.Leader,
      lst cI v_0.InStep, .int .i64 v_0.High, lst Replica.cells v_0.Replicas] 0) (fun Q48 hN49 => ?_) ?_
  · simp only [List.take_succ_cons, List.take_zero]
    simp only [run_guard (g := 33), B0, reduceIte, reduceEqDiff]
    refine guard_split (t := v35) (fun hg50 => ?_) (fun hg50 => ?_)
    · simp only [hg50, run_guard (g := 33), guard_off', run_pick, put1_some, xpick_t, run_ops_nil, run_nil, B0, reduceIte, reduceEqDiff]
      exact hN49 _ _ ⟨hS47, by rw [orT hg50]; simp only [B0, reduceIte, reduceEqDiff], by simp only [f45, B0, reduceIte, reduceEqDiff]⟩
    · simp only [hg50, run_guard (g := 33), guard_false, f45, run_fa, put1_some, Nat.reduceAdd, Nat.zero_add, Nat.add_zero, xfa_ref, run_ld, B0, reduceIte, reduceEqDiff]
      refine put1_eq (v := .int .i64 v_0.High) rfl ?_
      simp only [hg50, run_guard (g := 33), guard_false, run_bin, put1_some, xlss, run_pick, xpick_f, run_ops_nil, run_nil, B0, reduceIte, reduceEqDiff]
      exact hN49 _ _ ⟨hS47, by rw [orF hg50]; simp only [B0, reduceIte, reduceEqDiff], by simp only [f45, B0, reduceIte, reduceEqDiff]⟩
  rintro fr51 h54 ⟨hS55, f52, f53⟩
  simp only [List.drop_succ_cons, List.drop_zero]
  simp only [run_ops_nil, f52, run_cond, B0, reduceIte, reduceEqDiff]
  refine cond_split (t := (v35 || (decide (v_0.High < 0)))) (fun hc56 => ?_) (fun hc56 => ?_)
  · rw [iteT hc56] at hF37
    simp only [run_seq, run_reg, run_mv, run_ops_nil, run_ret, B0, reduceIte, reduceEqDiff]
    have he := some_inj hF37
    subst he
    simp only [end_ret1, B0, reduceIte, reduceEqDiff]
    exact rfl
  rw [iteF hc56] at hF37
  simp only [run_skip, x35_7, run_seq, run_reg, f53, run_fa, put1_some, Nat.reduceAdd, Nat.zero_add, Nat.add_zero, xfa_ref, run_ld, B0, reduceIte, reduceEqDiff]
  refine put1_eq (v := lst Replica.cells v_0.Replicas) rfl ?_
  simp only [run_len, put1_some, xlen_lst, run_mv, run_ops_nil, B0, reduceIte, reduceEqDiff]
  obtain ⟨oc59, hX61, hk62⟩ := jn_some hF37
  simp only [x35_6]
  refine rangeL_j (σ := Unit) v_0.Replicas (fun i57 x58 _ => spec_GoodGroup_b1 k v_0 i57 x58 ) (fun s fr' h' => fr' 1 = .ref [.int .i64 v_0.Epoch, .int .i64 v_0.Leader,
      lst cI v_0.InStep, .int .i64 v_0.High, lst Replica.cells v_0.Replicas] 0 ∧ fr' 39 = lst Replica.cells v_0.Replicas ∧ Sep h' h.length ([])) hX61 ⟨by simp only [f53, B0,
      reduceIte, reduceEqDiff], by simp only [B0, reduceIte, reduceEqDiff], hS55⟩ (by simp only [B0, reduceIte, reduceEqDiff]) (by simp only [B0, reduceIte,
      reduceEqDiff]) (fun _ _ _ h => h) rfl rfl (fun _ _ _ _ h => h) (fun _ _ _ _ h => h) (fun _ _ _ _ h => h) (by decide) ?_ ?_
  · rintro i57 x58 _ fr71 h72 hx76 ⟨f74, f75, hS73⟩ f77 f78 oc60 hF63 hr64 Q65 hN66 hB70 hK67 hR68 hE69
    unfold spec_GoodGroup_b1 at hF63
    simp only [x35_4, run_seq, run_reg, f77, run_mv, f75, run_ia, B0, reduceIte, reduceEqDiff]
    refine put1_eq (v := .ref (Replica.cells x58) 0) (xia_lstN hx76 rfl) ?_
    simp only [run_ld, B0, reduceIte, reduceEqDiff]
    refine put1_eq (v := .agg [lst Row.cells x58.Log, .int .i64 x58.Epoch, .int .i64 x58.Known]) rfl ?_
    simp only [run_new, B0, reduceIte, reduceEqDiff]
    refine put2_newC hS73 (fun b79 h80 hS81 => ?_)
    simp only [run_mv, run_st, B0, reduceIte, reduceEqDiff]
    refine put2_stCx (us := [lst Row.cells x58.Log, .int .i64 x58.Epoch, .int .i64 x58.Known]) rfl (cs' := [lst Row.cells x58.Log, .int .i64 x58.Epoch,
        .int .i64 x58.Known]) hS81 hW rfl rfl (Nat.le_of_ble_eq_true rfl) rfl (fun h83 hS84 => ?_)
    simp only [run_ops_nil, B0, reduceIte, reduceEqDiff]
    refine frz_stepC hS84 hW (by simp only [B0, reduceIte, reduceEqDiff]) (fun h85 hS86 => ?_)
    simp only [run_frz_nil, x35_3, run_seq, run_reg, run_fa, put1_some, Nat.reduceAdd, Nat.zero_add, Nat.add_zero, xfa_ref, run_ld, B0, reduceIte, reduceEqDiff]
    refine put1_eq (v := lst Row.cells x58.Log) rfl ?_
    simp only [f74, run_fa, put1_some, Nat.reduceAdd, Nat.zero_add, Nat.add_zero, xfa_ref, run_ld, B0, reduceIte, reduceEqDiff]
    refine put1_eq (v := .int .i64 v_0.Epoch) rfl ?_
    obtain ⟨v87, hx88, hF89⟩ := bind_some' hF63
    simp only [run_call, B0, reduceIte, reduceEqDiff]
    refine call1 rfl (mapM1 snap_lst (mapM1 snap_int mapM0)) (spec_l11Log_x (fun b hb => decide_eq_true hb) x58.Log v_0.Epoch v87 hx88) ?_
    simp only [run_un, put1_some, xnot, run_mv, B0, reduceIte, reduceEqDiff]
    refine ops_j 7 (fun fr' h' => Sep h' h.length ([]) ∧ fr' 59 = .bool ((!v87) || (!(spec_l1In x58.Epoch 0 v_0.Epoch))) ∧ fr' 1 = .ref [.int .i64 v_0.Epoch, .int .i64 v_0.Leader,
        lst cI v_0.InStep, .int .i64 v_0.High, lst Replica.cells v_0.Replicas] 0 ∧ fr' 4 = .int .i64 (i57 : Int) ∧ fr' 5 = .ref [lst Row.cells x58.Log, .int .i64 x58.Epoch,
        .int .i64 x58.Known] 0 ∧ fr' 39 = lst Replica.cells v_0.Replicas ∧ fr' 40 = .int .i64 (List.length v_0.Replicas : Int) ∧ fr' 41 = .int .i64 (i57 : Int))
        (fun Q90 hN91 => ?_) ?_
    · simp only [List.take_succ_cons, List.take_zero]
      simp only [run_guard (g := 52), B0, reduceIte, reduceEqDiff]
      refine guard_split (t := (!v87)) (fun hg92 => ?_) (fun hg92 => ?_)
      · simp only [hg92, run_guard (g := 52), guard_off', run_pick, put1_some, xpick_t, run_ops_nil, run_nil, B0, reduceIte, reduceEqDiff]
        exact hN91 _ _ ⟨hS86, by rw [orT hg92]; simp only [B0, reduceIte, reduceEqDiff], by simp only [f74, B0, reduceIte, reduceEqDiff], by simp only [B0, reduceIte,
            reduceEqDiff], by simp only [B0, reduceIte, reduceEqDiff], by simp only [f75, B0, reduceIte, reduceEqDiff], by simp only [f78, B0, reduceIte, reduceEqDiff],
            by simp only [f77, B0, reduceIte, reduceEqDiff]⟩
      · simp only [hg92, run_guard (g := 52), guard_false, run_fa, put1_some, Nat.reduceAdd, Nat.zero_add, Nat.add_zero, xfa_ref, run_ld, B0, reduceIte, reduceEqDiff]
        refine put1_eq (v := .int .i64 x58.Epoch) rfl ?_
        simp only [hg92, run_guard (g := 52), guard_false, f74, run_fa, put1_some, Nat.reduceAdd, Nat.zero_add, Nat.add_zero, xfa_ref, run_ld, B0, reduceIte, reduceEqDiff]
        refine put1_eq (v := .int .i64 v_0.Epoch) rfl ?_
        simp only [hg92, run_guard (g := 52), guard_false, run_call, B0, reduceIte, reduceEqDiff]
        refine call1 rfl (mapM1 snap_int (mapM1 snap_int (mapM1 snap_int mapM0))) (spec_l1In_x (fun b hb => decide_eq_true hb) x58.Epoch 0 v_0.Epoch _ rfl) ?_
        simp only [hg92, run_guard (g := 52), guard_false, run_un, put1_some, xnot, run_pick, xpick_f, run_ops_nil, run_nil, B0, reduceIte, reduceEqDiff]
        exact hN91 _ _ ⟨hS86, by rw [orF hg92]; simp only [B0, reduceIte, reduceEqDiff], by simp only [f74, B0, reduceIte, reduceEqDiff], by simp only [B0, reduceIte,
            reduceEqDiff], by simp only [B0, reduceIte, reduceEqDiff], by simp only [f75, B0, reduceIte, reduceEqDiff], by simp only [f78, B0, reduceIte, reduceEqDiff],
            by simp only [f77, B0, reduceIte, reduceEqDiff]⟩
    rintro fr93 h101 ⟨hS102, f94, f95, f96, f97, f98, f99, f100⟩
    simp only [List.drop_succ_cons, List.drop_zero]
    simp only [f94, run_mv, B0, reduceIte, reduceEqDiff]
    refine ops_j 4 (fun fr' h' => Sep h' h.length ([]) ∧ fr' 64 = .bool (((!v87) || (!(spec_l1In x58.Epoch 0 v_0.Epoch))) || (decide
        (x58.Known < 0))) ∧ fr' 1 = .ref [.int .i64 v_0.Epoch, .int .i64 v_0.Leader, lst cI v_0.InStep, .int .i64 v_0.High,
        lst Replica.cells v_0.Replicas] 0 ∧ fr' 4 = .int .i64 (i57 : Int) ∧ fr' 5 = .ref [lst Row.cells x58.Log, .int .i64 x58.Epoch,
        .int .i64 x58.Known] 0 ∧ fr' 39 = lst Replica.cells v_0.Replicas ∧ fr' 40 = .int .i64 (List.length v_0.Replicas : Int) ∧ fr' 41 = .int .i64 (i57 : Int))
        (fun Q103 hN104 => ?_) ?_
    · simp only [List.take_succ_cons, List.take_zero]
      simp only [run_guard (g := 60), B0, reduceIte, reduceEqDiff]
      refine guard_split (t := ((!v87) || (!(spec_l1In x58.Epoch 0 v_0.Epoch)))) (fun hg105 => ?_) (fun hg105 => ?_)
      · simp only [hg105, run_guard (g := 60), guard_off', run_pick, put1_some, xpick_t, run_ops_nil, run_nil, B0, reduceIte, reduceEqDiff]
        exact hN104 _ _ ⟨hS102, by rw [orT hg105]; simp only [B0, reduceIte, reduceEqDiff], by simp only [f95, B0, reduceIte, reduceEqDiff], by simp only [f96, B0, reduceIte,
            reduceEqDiff], by simp only [f97, B0, reduceIte, reduceEqDiff], by simp only [f98, B0, reduceIte, reduceEqDiff], by simp only [f99, B0, reduceIte, reduceEqDiff],
            by simp only [f100, B0, reduceIte, reduceEqDiff]⟩
      · simp only [hg105, run_guard (g := 60), guard_false, f97, run_fa, put1_some, Nat.reduceAdd, Nat.zero_add, Nat.add_zero, xfa_ref, run_ld, B0, reduceIte, reduceEqDiff]
        refine put1_eq (v := .int .i64 x58.Known) rfl ?_
        simp only [hg105, run_guard (g := 60), guard_false, run_bin, put1_some, xlss, run_pick, xpick_f, run_ops_nil, run_nil, B0, reduceIte, reduceEqDiff]
        exact hN104 _ _ ⟨hS102, by rw [orF hg105]; simp only [B0, reduceIte, reduceEqDiff], by simp only [f95, B0, reduceIte, reduceEqDiff], by simp only [f96, B0, reduceIte,
            reduceEqDiff], by simp only [f97, B0, reduceIte, reduceEqDiff], by simp only [f98, B0, reduceIte, reduceEqDiff], by simp only [f99, B0, reduceIte, reduceEqDiff],
            by simp only [f100, B0, reduceIte, reduceEqDiff]⟩
    rintro fr106 h114 ⟨hS115, f107, f108, f109, f110, f111, f112, f113⟩
    simp only [List.drop_succ_cons, List.drop_zero]
    simp only [f107, run_mv, B0, reduceIte, reduceEqDiff]
    refine ops_j 7 (fun fr' h' => Sep h' h.length ([]) ∧ fr' 72 = .bool ((((!v87) || (!(spec_l1In x58.Epoch 0 v_0.Epoch))) || (decide (x58.Known < 0))) || (decide
        ((List.length x58.Log : Int) < x58.Known))) ∧ fr' 1 = .ref [.int .i64 v_0.Epoch, .int .i64 v_0.Leader, lst cI v_0.InStep, .int .i64 v_0.High,
        lst Replica.cells v_0.Replicas] 0 ∧ fr' 4 = .int .i64 (i57 : Int) ∧ fr' 5 = .ref [lst Row.cells x58.Log, .int .i64 x58.Epoch,
        .int .i64 x58.Known] 0 ∧ fr' 39 = lst Replica.cells v_0.Replicas ∧ fr' 40 = .int .i64 (List.length v_0.Replicas : Int) ∧ fr' 41 = .int .i64 (i57 : Int))
        (fun Q116 hN117 => ?_) ?_
    · simp only [List.take_succ_cons, List.take_zero]
      simp only [run_guard (g := 65), B0, reduceIte, reduceEqDiff]
      refine guard_split (t := (((!v87) || (!(spec_l1In x58.Epoch 0 v_0.Epoch))) || (decide (x58.Known < 0)))) (fun hg118 => ?_) (fun hg118 => ?_)
      · simp only [hg118, run_guard (g := 65), guard_off', run_pick, put1_some, xpick_t, run_ops_nil, run_nil, B0, reduceIte, reduceEqDiff]
        exact hN117 _ _ ⟨hS115, by rw [orT hg118]; simp only [B0, reduceIte, reduceEqDiff], by simp only [f108, B0, reduceIte, reduceEqDiff], by simp only [f109, B0, reduceIte,
            reduceEqDiff], by simp only [f110, B0, reduceIte, reduceEqDiff], by simp only [f111, B0, reduceIte, reduceEqDiff], by simp only [f112, B0, reduceIte, reduceEqDiff],
            by simp only [f113, B0, reduceIte, reduceEqDiff]⟩
      · simp only [hg118, run_guard (g := 65), guard_false, f110, run_fa, put1_some, Nat.reduceAdd, Nat.zero_add, Nat.add_zero, xfa_ref, run_ld, B0, reduceIte, reduceEqDiff]
        refine put1_eq (v := .int .i64 x58.Known) rfl ?_
        simp only [hg118, run_guard (g := 65), guard_false, f110, run_fa, put1_some, Nat.reduceAdd, Nat.zero_add, Nat.add_zero, xfa_ref, run_ld, B0, reduceIte, reduceEqDiff]
        refine put1_eq (v := lst Row.cells x58.Log) rfl ?_
        simp only [hg118, run_guard (g := 65), guard_false, run_len, put1_some, xlen_lst, run_bin, xgtr, run_pick, xpick_f, run_ops_nil, run_nil, B0, reduceIte, reduceEqDiff]
        exact hN117 _ _ ⟨hS115, by rw [orF hg118]; simp only [B0, reduceIte, reduceEqDiff], by simp only [f108, B0, reduceIte, reduceEqDiff], by simp only [f109, B0, reduceIte,
            reduceEqDiff], by simp only [f110, B0, reduceIte, reduceEqDiff], by simp only [f111, B0, reduceIte, reduceEqDiff], by simp only [f112, B0, reduceIte, reduceEqDiff],
            by simp only [f113, B0, reduceIte, reduceEqDiff]⟩
    rintro fr119 h127 ⟨hS128, f120, f121, f122, f123, f124, f125, f126⟩
    simp only [List.drop_succ_cons, List.drop_zero]
    simp only [run_ops_nil, f120, run_cond, B0, reduceIte, reduceEqDiff]
    refine cond_split (t := ((((!v87) || (!(spec_l1In x58.Epoch 0 v_0.Epoch))) || (decide (x58.Known < 0))) || (decide ((List.length x58.Log : Int) < x58.Known))))
        (fun hc129 => ?_) (fun hc129 => ?_)
    · rw [iteT hc129] at hF89
      simp only [run_seq, run_reg, run_mv, run_ops_nil, run_ret, B0, reduceIte, reduceEqDiff]
      have e130 := some_inj hF89
      subst e130
      have ho131 := hr64 _ rfl
      have hk132 := hk62
      rw [ho131] at hk132
      dsimp only [jnO] at hk132
      apply hR68
      have he := some_inj hk132
      subst he
      simp only [end_ret1, B0, reduceIte, reduceEqDiff]
      exact rfl
    rw [iteF hc129] at hF89
    simp only [run_skip, x35_2, run_seq, run_draw, f121, d4_fa, put1d_some, Nat.reduceAdd, Nat.zero_add, Nat.add_zero, xfa_ref, d4_ld, B0, reduceIte, reduceEqDiff]
    refine put1d_eq (v := lst cI v_0.InStep) rfl ?_
    obtain ⟨v133, hx134, hF135⟩ := bind_some' hF89
    simp only [f122, d4_mv, put1d_some, run_d3_call, B0, reduceIte, reduceEqDiff]
    refine call1d rfl (mapM1 snap_lst (mapM1 snap_int mapM0)) (spec_l1Has_x (fun b hb => decide_eq_true hb) v_0.InStep (i57 : Int) v133 hx134) ?_
    simp only [d4_mv, put1d_some, B0, reduceIte, reduceEqDiff]
    simp only [run_guardd (g := 77), B0, reduceIte, reduceEqDiff]
    refine guardd_split (t := v133) (fun hg136 => ?_) (fun hg136 => ?_)
    · rw [iteT hg136] at hF135
      simp only [hg136, run_guardd (g := 77), guardd_true, f123, d4_fa, put1d_some, Nat.reduceAdd, Nat.zero_add, Nat.add_zero, xfa_ref, d4_ld, B0, reduceIte, reduceEqDiff]
      refine put1d_eq (v := lst Row.cells x58.Log) rfl ?_
      simp only [hg136, run_guardd (g := 77), guardd_true, f121, d4_fa, put1d_some, Nat.reduceAdd, Nat.zero_add, Nat.add_zero, xfa_ref, d4_ld, B0, reduceIte, reduceEqDiff]
      refine put1d_eq (v := lst Replica.cells v_0.Replicas) rfl ?_
      simp only [hg136, run_guardd (g := 77), guardd_true, f121, d4_fa, put1d_some, Nat.reduceAdd, Nat.zero_add, Nat.add_zero, xfa_ref, d4_ld, B0, reduceIte, reduceEqDiff]
      refine put1d_eq (v := .int .i64 v_0.Leader) rfl ?_
      obtain ⟨x137, hx138, hF139⟩ := bind_some' hF135
      simp only [hg136, run_guardd (g := 77), guardd_true, d4_ia, B0, reduceIte, reduceEqDiff]
      refine put1d_eq (v := .ref (Replica.cells x137) 0) (xia_lst hx138 rfl) ?_
      simp only [hg136, run_guardd (g := 77), guardd_true, d4_fa, put1d_some, Nat.reduceAdd, Nat.zero_add, Nat.add_zero, xfa_ref, d4_ld, B0, reduceIte, reduceEqDiff]
      refine put1d_eq (v := lst Row.cells x137.Log) rfl ?_
      obtain ⟨v140, hx141, hF142⟩ := bind_some' hF139
      simp only [hg136, run_guardd (g := 77), guardd_true, run_d2_call, B0, reduceIte, reduceEqDiff]
      refine call1q rfl (mapM1 snap_lst (mapM1 snap_lst mapM0)) (spec_l11Same_x (fun b hb => decide_eq_true hb) k x58.Log x137.Log v140 hx141) ?_
      simp only [hg136, run_guardd (g := 77), guardd_true, f121, d1_fa, put1d_some, Nat.reduceAdd, Nat.zero_add, Nat.add_zero, xfa_ref, d1_ld, ldd_ref, B0, reduceIte, reduceEqDiff]
      refine put1d_eq (v := .int .i64 v_0.High) rfl ?_
      simp only [hg136, run_guardd (g := 77), guardd_true, d4_bin, put1d_some, xlss, d4_pick, xpick_t, run_draw_nil, run_cond, B0, reduceIte, reduceEqDiff]
      refine cond_split (t := (decide (v140 < v_0.High))) (fun hc143 => ?_) (fun hc143 => ?_)
      · rw [iteT hc143] at hF142
        simp only [run_seq, run_reg, run_mv, run_ops_nil, run_ret, B0, reduceIte, reduceEqDiff]
        have e144 := some_inj hF142
        subst e144
        have ho145 := hr64 _ rfl
        have hk146 := hk62
        rw [ho145] at hk146
        dsimp only [jnO] at hk146
        apply hR68
        have he := some_inj hk146
        subst he
        simp only [end_ret1, B0, reduceIte, reduceEqDiff]
        exact rfl
      rw [iteF hc143] at hF142
      simp only [run_skip, x35_1, run_seq, run_draw, f123, d4_fa, put1d_some, Nat.reduceAdd, Nat.zero_add, Nat.add_zero, xfa_ref, d4_ld, B0, reduceIte, reduceEqDiff]
      refine put1d_eq (v := .int .i64 x58.Epoch) rfl ?_
      simp only [f121, d4_fa, put1d_some, Nat.reduceAdd, Nat.zero_add, Nat.add_zero, xfa_ref, d4_ld, B0, reduceIte, reduceEqDiff]
      refine put1d_eq (v := .int .i64 v_0.Epoch) rfl ?_
      simp only [d4_bin, put1d_some, xeql, d4_mv, B0, reduceIte, reduceEqDiff]
      simp only [run_guardd (g := 97), B0, reduceIte, reduceEqDiff]
      refine guardd_split (t := (decide (x58.Epoch = v_0.Epoch))) (fun hg147 => ?_) (fun hg147 => ?_)
      · rw [iteT hg147] at hF142
        simp only [hg147, run_guardd (g := 97), guardd_true, f123, d4_fa, put1d_some, Nat.reduceAdd, Nat.zero_add, Nat.add_zero, xfa_ref, d4_ld, B0, reduceIte, reduceEqDiff]
        refine put1d_eq (v := lst Row.cells x58.Log) rfl ?_
        simp only [hg147, run_guardd (g := 97), guardd_true, f121, d4_fa, put1d_some, Nat.reduceAdd, Nat.zero_add, Nat.add_zero, xfa_ref, d4_ld, B0, reduceIte, reduceEqDiff]
        refine put1d_eq (v := lst Replica.cells v_0.Replicas) rfl ?_
        simp only [hg147, run_guardd (g := 97), guardd_true, f121, d4_fa, put1d_some, Nat.reduceAdd, Nat.zero_add, Nat.add_zero, xfa_ref, d4_ld, B0, reduceIte, reduceEqDiff]
        refine put1d_eq (v := .int .i64 v_0.Leader) rfl ?_
        obtain ⟨x148, hx149, hF150⟩ := bind_some' hF142
        simp only [hg147, run_guardd (g := 97), guardd_true, d4_ia, B0, reduceIte, reduceEqDiff]
        refine put1d_eq (v := .ref (Replica.cells x148) 0) (xia_lst hx149 rfl) ?_
        simp only [hg147, run_guardd (g := 97), guardd_true, d4_fa, put1d_some, Nat.reduceAdd, Nat.zero_add, Nat.add_zero, xfa_ref, d4_ld, B0, reduceIte, reduceEqDiff]
        refine put1d_eq (v := lst Row.cells x148.Log) rfl ?_
        obtain ⟨v151, hx152, hF153⟩ := bind_some' hF150
        simp only [hg147, run_guardd (g := 97), guardd_true, run_d2_call, B0, reduceIte, reduceEqDiff]
        refine call1q rfl (mapM1 snap_lst (mapM1 snap_lst mapM0)) (spec_l11Same_x (fun b hb => decide_eq_true hb) k x58.Log x148.Log v151 hx152) ?_
        simp only [hg147, run_guardd (g := 97), guardd_true, f123, d1_fa, put1d_some, Nat.reduceAdd, Nat.zero_add, Nat.add_zero, xfa_ref, d1_ld, ldd_ref, B0, reduceIte,
            reduceEqDiff]
        refine put1d_eq (v := .int .i64 x58.Known) rfl ?_
        simp only [hg147, run_guardd (g := 97), guardd_true, d4_bin, put1d_some, xlss, d4_pick, xpick_t, run_draw_nil, run_cond, B0, reduceIte, reduceEqDiff]
        refine cond_split (t := (decide (v151 < x58.Known))) (fun hc154 => ?_) (fun hc154 => ?_)
        · rw [iteT hc154] at hF153
          simp only [run_seq, run_reg, run_mv, run_ops_nil, run_ret, B0, reduceIte, reduceEqDiff]
          have e155 := some_inj hF153
          subst e155
          have ho156 := hr64 _ rfl
          have hk157 := hk62
          rw [ho156] at hk157
          dsimp only [jnO] at hk157
          apply hR68
          have he := some_inj hk157
          subst he
          simp only [end_ret1, B0, reduceIte, reduceEqDiff]
          exact rfl
        rw [iteF hc154] at hF153
        simp only [run_skip, run_nil, B0, reduceIte, reduceEqDiff]
        have e158 := some_inj hF153
        exact hN66 _ _ _ e158.symm ⟨by simp only [f121, B0, reduceIte, reduceEqDiff], by simp only [f124, B0, reduceIte, reduceEqDiff], hS128⟩ (by simp only [f126, B0, reduceIte,
            reduceEqDiff]) (by simp only [f125, B0, reduceIte, reduceEqDiff])
      rw [iteF hg147] at hF142
      simp only [hg147, run_guardd (g := 97), guardd_off, d4_pick, put1d_some, xpick_f, run_draw_nil, run_cond, cond_false, run_skip, run_nil, B0, reduceIte, reduceEqDiff]
      have e159 := some_inj hF142
      exact hN66 _ _ _ e159.symm ⟨by simp only [f121, B0, reduceIte, reduceEqDiff], by simp only [f124, B0, reduceIte, reduceEqDiff], hS128⟩ (by simp only [f126, B0, reduceIte,
          reduceEqDiff]) (by simp only [f125, B0, reduceIte, reduceEqDiff])
    rw [iteF hg136] at hF135
    simp only [hg136, run_guardd (g := 77), guardd_off, d4_pick, put1d_some, xpick_f, run_draw_nil, run_cond, cond_false, run_skip, x35_1, run_seq, run_draw, f123, d4_fa,
        Nat.reduceAdd, Nat.zero_add, Nat.add_zero, xfa_ref, d4_ld, B0, reduceIte, reduceEqDiff]
    refine put1d_eq (v := .int .i64 x58.Epoch) rfl ?_
    simp only [f121, d4_fa, put1d_some, Nat.reduceAdd, Nat.zero_add, Nat.add_zero, xfa_ref, d4_ld, B0, reduceIte, reduceEqDiff]
    refine put1d_eq (v := .int .i64 v_0.Epoch) rfl ?_
    simp only [d4_bin, put1d_some, xeql, d4_mv, B0, reduceIte, reduceEqDiff]
    simp only [run_guardd (g := 97), B0, reduceIte, reduceEqDiff]
    refine guardd_split (t := (decide (x58.Epoch = v_0.Epoch))) (fun hg160 => ?_) (fun hg160 => ?_)
    · rw [iteT hg160] at hF135
      simp only [hg160, run_guardd (g := 97), guardd_true, f123, d4_fa, put1d_some, Nat.reduceAdd, Nat.zero_add, Nat.add_zero, xfa_ref, d4_ld, B0, reduceIte, reduceEqDiff]
      refine put1d_eq (v := lst Row.cells x58.Log) rfl ?_
      simp only [hg160, run_guardd (g := 97), guardd_true, f121, d4_fa, put1d_some, Nat.reduceAdd, Nat.zero_add, Nat.add_zero, xfa_ref, d4_ld, B0, reduceIte, reduceEqDiff]
      refine put1d_eq (v := lst Replica.cells v_0.Replicas) rfl ?_
      simp only [hg160, run_guardd (g := 97), guardd_true, f121, d4_fa, put1d_some, Nat.reduceAdd, Nat.zero_add, Nat.add_zero, xfa_ref, d4_ld, B0, reduceIte, reduceEqDiff]
      refine put1d_eq (v := .int .i64 v_0.Leader) rfl ?_
      obtain ⟨x161, hx162, hF163⟩ := bind_some' hF135
      simp only [hg160, run_guardd (g := 97), guardd_true, d4_ia, B0, reduceIte, reduceEqDiff]
      refine put1d_eq (v := .ref (Replica.cells x161) 0) (xia_lst hx162 rfl) ?_
      simp only [hg160, run_guardd (g := 97), guardd_true, d4_fa, put1d_some, Nat.reduceAdd, Nat.zero_add, Nat.add_zero, xfa_ref, d4_ld, B0, reduceIte, reduceEqDiff]
      refine put1d_eq (v := lst Row.cells x161.Log) rfl ?_
      obtain ⟨v164, hx165, hF166⟩ := bind_some' hF163
      simp only [hg160, run_guardd (g := 97), guardd_true, run_d2_call, B0, reduceIte, reduceEqDiff]
      refine call1q rfl (mapM1 snap_lst (mapM1 snap_lst mapM0)) (spec_l11Same_x (fun b hb => decide_eq_true hb) k x58.Log x161.Log v164 hx165) ?_
      simp only [hg160, run_guardd (g := 97), guardd_true, f123, d1_fa, put1d_some, Nat.reduceAdd, Nat.zero_add, Nat.add_zero, xfa_ref, d1_ld, ldd_ref, B0, reduceIte, reduceEqDiff]
      refine put1d_eq (v := .int .i64 x58.Known) rfl ?_
      simp only [hg160, run_guardd (g := 97), guardd_true, d4_bin, put1d_some, xlss, d4_pick, xpick_t, run_draw_nil, run_cond, B0, reduceIte, reduceEqDiff]
      refine cond_split (t := (decide (v164 < x58.Known))) (fun hc167 => ?_) (fun hc167 => ?_)
      · rw [iteT hc167] at hF166
        simp only [run_seq, run_reg, run_mv, run_ops_nil, run_ret, B0, reduceIte, reduceEqDiff]
        have e168 := some_inj hF166
        subst e168
        have ho169 := hr64 _ rfl
        have hk170 := hk62
        rw [ho169] at hk170
        dsimp only [jnO] at hk170
        apply hR68
        have he := some_inj hk170
        subst he
        simp only [end_ret1, B0, reduceIte, reduceEqDiff]
        exact rfl
      rw [iteF hc167] at hF166
      simp only [run_skip, run_nil, B0, reduceIte, reduceEqDiff]
      have e171 := some_inj hF166
      exact hN66 _ _ _ e171.symm ⟨by simp only [f121, B0, reduceIte, reduceEqDiff], by simp only [f124, B0, reduceIte, reduceEqDiff], hS128⟩ (by simp only [f126, B0, reduceIte,
          reduceEqDiff]) (by simp only [f125, B0, reduceIte, reduceEqDiff])
    rw [iteF hg160] at hF135
    simp only [hg160, run_guardd (g := 97), guardd_off, d4_pick, put1d_some, xpick_f, run_draw_nil, run_cond, cond_false, run_skip, run_nil, B0, reduceIte, reduceEqDiff]
    have e172 := some_inj hF135
    exact hN66 _ _ _ e172.symm ⟨by simp only [f121, B0, reduceIte, reduceEqDiff], by simp only [f124, B0, reduceIte, reduceEqDiff], hS128⟩ (by simp only [f126, B0, reduceIte,
        reduceEqDiff]) (by simp only [f125, B0, reduceIte, reduceEqDiff])
  rintro _ fr174 h175 rfl ⟨f177, f178, hS176⟩
  dsimp only [jnO] at hk62
  unfold spec_GoodGroup_j1 at hk62
  simp only [run_seq, run_reg, run_mv, run_ops_nil, run_ret, B0, reduceIte, reduceEqDiff]
  have he := some_inj hk62
  subst he
  simp only [end_ret1, B0, reduceIte, reduceEqDiff]
  exact rfl
theorem spec_l11Own_x {W : Nat → Bool} {h : Heap} (hW : ∀ b,
    h.length ≤ b → W b = true) (g_0 : Group) (r : Group) (hF : spec_l11Own g_0 = some r) : Ret E W 46 [.agg [.int .i64 g_0.Epoch, .int .i64 g_0.Leader, lst cI g_0.InStep,
    .int .i64 g_0.High, lst Replica.cells g_0.Replicas]] h (fun v h' => ∃ rv0_2 rc0_2 rv0_4 rc0_4, v = .agg [.int .i64 r.Epoch, .int .i64 r.Leader, rv0_2, .int .i64 r.High,
    rv0_4] ∧ SlF cI 1 3 rv0_2 r.InStep rc0_2 ∧ SlN Replica.R 3 51 rv0_4 r.Replicas rc0_4 ∧ Sep h' h.length (rc0_2 ++ (rc0_4 ++ ([])))) := by
  refine Ret.of (fn := x46) rfl (Run.of ?_)
  unfold spec_l11Own at hF
  have zf0 : argFr [.agg [.int .i64 g_0.Epoch, .int .i64 g_0.Leader, lst cI g_0.InStep, .int .i64 g_0.High, lst Replica.cells g_0.Replicas]] 0 = .agg [.int .i64 g_0.Epoch,
      .int .i64 g_0.Leader, lst cI g_0.InStep, .int .i64 g_0.High, lst Replica.cells g_0.Replicas] := rfl
  generalize argFr [.agg [.int .i64 g_0.Epoch, .int .i64 g_0.Leader, lst cI g_0.InStep, .int .i64 g_0.High, lst Replica.cells g_0.Replicas]] = fr0 at zf0 ⊢
  have hS : Sep h h.length [] := Sep.nil h
  simp only [x46, run_seq, run_reg, run_box, zf0, B0, reduceIte, reduceEqDiff]
  refine put2_boxC (cs := [.int .i64 g_0.Epoch, .int .i64 g_0.Leader, lst cI g_0.InStep, .int .i64 g_0.High, lst Replica.cells g_0.Replicas]) hS rfl rfl rfl (fun b1 h2 hS3 => ?_)
  simp only [run_new, B0, reduceIte, reduceEqDiff]
  refine put2_newC hS3 (fun b5 h6 hS7 => ?_)
  simp only [run_ops_nil, B0, reduceIte, reduceEqDiff]
  refine frz_stepC (Sep.m1 hS7) hW (by simp only [B0, reduceIte, reduceEqDiff]) (fun h9 hS10 => ?_)
  simp only [run_frz_nil, x46_7, run_seq, run_draw, d4_buildS, evp, B0, reduceIte, reduceEqDiff]
  refine put2d_buildSF (n := 1) (f := cI) ([] : List Int) hS10 rfl rfl (fun v11 c12 h13 hv14 hS15 => ?_)
  simp only [d1_new, B0, reduceIte, reduceEqDiff]
  refine put2d_newC hS15 (fun b17 h18 hS19 => ?_)
  simp only [d1_fa, put1d_some, Nat.reduceAdd, Nat.zero_add, Nat.add_zero, xfa_ref, d1_ld, ldd_ref, B0, reduceIte, reduceEqDiff]
  refine put1d_eq (v := .int .i64 g_0.Epoch) rfl ?_
  simp only [d1_fa, put1d_some, Nat.reduceAdd, Nat.zero_add, Nat.add_zero, xfa_ref, d1_ld, ldd_ref, B0, reduceIte, reduceEqDiff]
  refine put1d_eq (v := .int .i64 g_0.Leader) rfl ?_
  simp only [d4_fa, put1d_some, Nat.reduceAdd, Nat.zero_add, Nat.add_zero, xfa_ref, d4_ld, B0, reduceIte, reduceEqDiff]
  refine put1d_eq (v := lst cI g_0.InStep) rfl ?_
  simp only [d2_app, B0, reduceIte, reduceEqDiff]
  obtain ⟨l21, hx22, hF23⟩ := bind_some' hF
  refine put2d_appF (f := cI) hv14 (Sep.m1 hS19) hW (fun _ => rfl) (fun _ => rfl) (firstOf_lst (fun _ => rfl)) hx22 (fun v24 c25 h26 hv27 hS28 => ?_)
  simp only [d1_fa, put1d_some, Nat.reduceAdd, Nat.zero_add, Nat.add_zero, xfa_ref, d1_ld, ldd_ref, B0, reduceIte, reduceEqDiff]
  refine put1d_eq (v := .int .i64 g_0.High) rfl ?_
  simp only [d4_build, evp, B0, reduceIte, reduceEqDiff]
  refine put1d_eq (v := .agg [.int .i64 g_0.Epoch, .int .i64 g_0.Leader, v24, .int .i64 g_0.High,
      .nil]) (pbuild_some (fill1 (us := [.int .i64 g_0.Epoch]) (vs := [.int .i64 g_0.Epoch, .int .i64 0, .nil, .int .i64 0,
      .nil]) rfl rfl (Nat.le_of_ble_eq_true rfl) rfl rfl (fill1 (us := [.int .i64 g_0.Leader]) (vs := [.int .i64 g_0.Epoch, .int .i64 g_0.Leader, .nil, .int .i64 0,
      .nil]) rfl rfl (Nat.le_of_ble_eq_true rfl) rfl rfl (fill1 (us := [v24]) (vs := [.int .i64 g_0.Epoch, .int .i64 g_0.Leader, v24, .int .i64 0,
      .nil]) (cells_one (SlF.one hv27)) rfl (Nat.le_of_ble_eq_true rfl) (all_c (SlF.one hv27) all_n) rfl (fill1 (us := [.int .i64 g_0.High]) (vs := [.int .i64 g_0.Epoch,
      .int .i64 g_0.Leader, v24, .int .i64 g_0.High, .nil]) rfl rfl (Nat.le_of_ble_eq_true rfl) rfl rfl fill0))))) ?_
  simp only [d3_st, B0, reduceIte, reduceEqDiff]
  refine put2d_stCx (us := [.int .i64 g_0.Epoch, .int .i64 g_0.Leader, v24, .int .i64 g_0.High, .nil]) rfl (cs' := [.int .i64 g_0.Epoch, .int .i64 g_0.Leader, v24,
      .int .i64 g_0.High, .nil]) (Sep.m1 hS28) hW rfl (all_c rfl (all_c rfl (all_c (SlF.one hv27) (all_c rfl (all_c rfl all_n))))) (Nat.le_of_ble_eq_true rfl) rfl
      (fun h30 hS31 => ?_)
  simp only [run_draw_nil, x46_6, run_seq, run_reg, run_fa, put1_some, Nat.reduceAdd, Nat.zero_add, Nat.add_zero, xfa_ref, run_ld, B0, reduceIte, reduceEqDiff]
  refine put1_eq (v := lst Replica.cells g_0.Replicas) rfl ?_
  simp only [run_len, put1_some, xlen_lst, run_mv, run_ops_nil, B0, reduceIte, reduceEqDiff]
  obtain ⟨oc44, hX46, hk47⟩ := jn_some hF23
  simp only [x46_5]
  refine rangeL_j (σ := Group) g_0.Replicas (fun i42 x43 s106 => spec_l11Own_b1 l21 i42 x43 s106) (fun s fr' h' => ∃ v39 c40,
      fr' 2 = .ptr b5 0 ∧ fr' 3 = .ptr b17 0 ∧ fr' 18 = lst Replica.cells g_0.Replicas ∧ SlN Replica.R 3 51 v39 s.Replicas c40 ∧ Sep h' h.length ([Blk1 b5 [.int .i64 0,
      .int .i64 0, .nil, .int .i64 0, .nil] 29] ++ ([Blk1 b17 [.int .i64 s.Epoch, .int .i64 s.Leader, v24, .int .i64 s.High, v39] 29] ++ (c25 ++ (c40 ++ ([])))))) hX46 ⟨.nil, [],
      by simp only [B0, reduceIte, reduceEqDiff], by simp only [B0, reduceIte, reduceEqDiff], by simp only [B0, reduceIte, reduceEqDiff], SlN.nil,
      ((Sep.m2 (Sep.m1 (Sep.m1 hS31))) : Sep _ h.length ([Blk1 b5 [.int .i64 0, .int .i64 0, .nil, .int .i64 0, .nil] 29] ++ ([Blk1 b17 [.int .i64 g_0.Epoch, .int .i64 g_0.Leader,
      v24, .int .i64 g_0.High, .nil] 29] ++ (c25 ++ ([])))))⟩ (by simp only [B0, reduceIte, reduceEqDiff]) (by simp only [B0, reduceIte,
      reduceEqDiff]) (fun _ _ _ h => h) rfl rfl (fun _ _ _ _ h => h) (fun _ _ _ _ h => h) (fun _ _ _ _ h => h) (by decide) ?_ ?_
  · rintro i42 x43 s37 fr56 h57 hx62 ⟨v39, c40, f59, f60, f61, hv41, hS58⟩ f63 f64 oc45 hF48 hr49 Q50 hN51 hB55 hK52 hR53 hE54
    unfold spec_l11Own_b1 at hF48
    simp only [x46_3, run_seq, run_reg, f61, f63, run_ia, B0, reduceIte, reduceEqDiff]
    refine put1_eq (v := .ref (Replica.cells x43) 0) (xia_lstN hx62 rfl) ?_
    simp only [run_ld, B0, reduceIte, reduceEqDiff]
    refine put1_eq (v := .agg [lst Row.cells x43.Log, .int .i64 x43.Epoch, .int .i64 x43.Known]) rfl ?_
    simp only [run_new, B0, reduceIte, reduceEqDiff]
    refine put2_newC hS58 (fun b65 h66 hS67 => ?_)
    simp only [run_st, B0, reduceIte, reduceEqDiff]
    refine put2_stCx (us := [lst Row.cells x43.Log, .int .i64 x43.Epoch, .int .i64 x43.Known]) rfl (cs' := [lst Row.cells x43.Log, .int .i64 x43.Epoch,
        .int .i64 x43.Known]) hS67 hW rfl rfl (Nat.le_of_ble_eq_true rfl) rfl (fun h69 hS70 => ?_)
    simp only [run_ops_nil, x46_2, run_seq, run_reg, run_buildS, evp, B0, reduceIte, reduceEqDiff]
    refine put2_buildSF (n := 2) (f := Row.cells) ([] : List Row) hS70 rfl rfl (fun v71 c72 h73 hv74 hS75 => ?_)
    simp only [run_fa, put1_some, Nat.reduceAdd, Nat.zero_add, Nat.add_zero, xfa_ptr, run_ld, B0, reduceIte, reduceEqDiff]
    refine put1_eq (v := lst Row.cells x43.Log) ((xld_b (Sep.bk _ _ _ (Sep.m1 hS75))).trans rfl) ?_
    simp only [run_app, B0, reduceIte, reduceEqDiff]
    obtain ⟨l77, hx78, hF79⟩ := bind_some' hF48
    refine put2_appF (f := Row.cells) hv74 hS75 hW (fun _ => rfl) (fun _ => rfl) (firstOf_lst (fun _ => rfl)) hx78 (fun v80 c81 h82 hv83 hS84 => ?_)
    simp only [run_fa, put1_some, Nat.reduceAdd, Nat.zero_add, Nat.add_zero, xfa_ptr, run_st, B0, reduceIte, reduceEqDiff]
    refine put2_stCx (us := [v80]) (cells_one (SlF.one hv83)) (cs' := [v80, .int .i64 x43.Epoch,
        .int .i64 x43.Known]) (Sep.m1 hS84) hW rfl (all_c (SlF.one hv83) all_n) (Nat.le_of_ble_eq_true rfl) rfl (fun h86 hS87 => ?_)
    simp only [run_ops_nil, x46_1, run_reg, f60, run_fa, put1_some, Nat.reduceAdd, Nat.zero_add, Nat.add_zero, xfa_ptr, run_ld, B0, reduceIte, reduceEqDiff]
    refine put1_eq (v := v39) ((xld_b (Sep.bk _ _ _ (Sep.m3 hS87))).trans rfl) ?_
    simp only [run_ld, B0, reduceIte, reduceEqDiff]
    refine put1_eq (v := .agg [v80, .int .i64 x43.Epoch, .int .i64 x43.Known]) ((xld_bs (Sep.bk _ _ _ hS87)).trans rfl) ?_
    simp only [run_buildS, evp, B0, reduceIte, reduceEqDiff]
    refine put2_buildSN (R := Replica.R) (n := 3) (cs := [v80, .int .i64 x43.Epoch, .int .i64 x43.Known]) (os := c81) (Sep.m1 hS87) (fill1 (us := [v80, .int .i64 x43.Epoch,
        .int .i64 x43.Known]) (vs := [v80, .int .i64 x43.Epoch,
        .int .i64 x43.Known]) rfl rfl (Nat.le_of_ble_eq_true rfl) (all_c (SlF.one hv83) (all_c rfl (all_c rfl all_n))) rfl fill0) (Replica.RI (x :=
        (Replica.mk l77 x43.Epoch x43.Known)) hv83) rfl (fun v88 c89 h90 hv91 hS92 => ?_)
    simp only [run_app, B0, reduceIte, reduceEqDiff]
    obtain ⟨l94, hx95, hF96⟩ := bind_some' hF79
    refine put2_appN (R := Replica.R) (c := c40) hv41 hv91 (Sep.m5 hS92) hW Replica.RO.len Replica.RO.one hx95 (fun v97 c98 h99 hv100 hS101 => ?_)
    simp only [f60, run_fa, put1_some, Nat.reduceAdd, Nat.zero_add, Nat.add_zero, xfa_ptr, run_st, B0, reduceIte, reduceEqDiff]
    refine put2_stCx (us := [v97]) (cells_one (SlN.one hv100)) (cs' := [.int .i64 s37.Epoch, .int .i64 s37.Leader, v24, .int .i64 s37.High,
        v97]) (Sep.m3 hS101) hW rfl (all_c (SlN.one hv100) all_n) (Nat.le_of_ble_eq_true rfl) rfl (fun h103 hS104 => ?_)
    simp only [run_ops_nil, run_nil, B0, reduceIte, reduceEqDiff]
    have e105 := some_inj hF96
    exact hN51 _ _ _ e105.symm ⟨v97, c98, by simp only [f59, B0, reduceIte, reduceEqDiff], by simp only [f60, B0, reduceIte, reduceEqDiff], by simp only [f61, B0, reduceIte,
        reduceEqDiff], hv100, (Sep.m3 (Sep.m2 (Sep.m3 (Sep.m1 (Sep.dc (Sep.m2 hS104))))))⟩ (by simp only [f63, B0, reduceIte, reduceEqDiff]) (by simp only [f64, B0, reduceIte,
        reduceEqDiff])
  rintro s107 fr112 h113 rfl ⟨v109, c110, f115, f116, f117, hv111, hS114⟩
  dsimp only [jnO] at hk47
  unfold spec_l11Own_j1 at hk47
  simp only [run_seq, run_reg, f116, run_ld, B0, reduceIte, reduceEqDiff]
  refine put1_eq (v := .agg [.int .i64 s107.Epoch, .int .i64 s107.Leader, v24, .int .i64 s107.High, v109]) ((xld_bs (Sep.bk _ _ _ (Sep.m1 hS114))).trans rfl) ?_
  simp only [f115, run_st, B0, reduceIte, reduceEqDiff]
  refine put2_stCx (us := [.int .i64 s107.Epoch, .int .i64 s107.Leader, v24, .int .i64 s107.High, v109]) rfl (cs' := [.int .i64 s107.Epoch, .int .i64 s107.Leader, v24,
      .int .i64 s107.High, v109]) hS114 hW rfl (all_c rfl (all_c rfl (all_c (SlF.one hv27) (all_c rfl (all_c (SlN.one hv111) all_n))))) (Nat.le_of_ble_eq_true rfl) rfl
      (fun h118 hS119 => ?_)
  simp only [run_ops_nil, run_ret, B0, reduceIte, reduceEqDiff]
  have he := some_inj hk47
  subst he
  refine end_ret_cell (bb := b5) (oo := 0) (v := .agg [.int .i64 s107.Epoch, .int .i64 s107.Leader, v24, .int .i64 s107.High, v109]) (by simp only [f115, B0, reduceIte,
      reduceEqDiff]) ((xld_bs (Sep.bk _ _ _ hS119)).trans rfl) ?_
  exact ⟨v24, c25, v109, c110, by first | trivial | rfl, hv27, hv111, (Sep.m1 (Sep.m1 (Sep.dc ((Sep.dc (hS119))))))⟩
theorem spec_l11Fetch_x {W : Nat → Bool} {h : Heap} {lo : Nat} {S0 : List Obj} (hW : ∀ b,
    lo ≤ b → W b = true) (k : Nat) (g_0 : Group) (pv0_2 : XV) (pc0_2 : List Obj) (ph0_2 : SlF cI 1 3 pv0_2 g_0.InStep pc0_2) (pv0_4 : XV) (pc0_4 : List Obj)
    (ph0_4 : SlN Replica.R 3 51 pv0_4 g_0.Replicas pc0_4) (k_1 : Int) (n_2 : Int) (r : Group) (hF : spec_l11Fetch k g_0 k_1 n_2 = some r) (hS : Sep h lo (pc0_2 ++ (pc0_4 ++
    (S0)))) : Ret E W 47 [.agg [.int .i64 g_0.Epoch, .int .i64 g_0.Leader, pv0_2, .int .i64 g_0.High, pv0_4], .int .i64 k_1,
    .int .i64 n_2] h (fun v h' => ∃ rv0_2 rc0_2 rv0_4 rc0_4, v = .agg [.int .i64 r.Epoch, .int .i64 r.Leader, rv0_2, .int .i64 r.High,
    rv0_4] ∧ SlF cI 1 3 rv0_2 r.InStep rc0_2 ∧ SlN Replica.R 3 51 rv0_4 r.Replicas rc0_4 ∧ Sep h' lo (rc0_2 ++ (rc0_4 ++ (S0)))) := by
  refine Ret.of (fn := x47) rfl (Run.of ?_)
  unfold spec_l11Fetch at hF
  have zf0 : argFr [.agg [.int .i64 g_0.Epoch, .int .i64 g_0.Leader, pv0_2, .int .i64 g_0.High, pv0_4], .int .i64 k_1, .int .i64 n_2] 0 = .agg [.int .i64 g_0.Epoch,
      .int .i64 g_0.Leader, pv0_2, .int .i64 g_0.High, pv0_4] := rfl
  have zf1 : argFr [.agg [.int .i64 g_0.Epoch, .int .i64 g_0.Leader, pv0_2, .int .i64 g_0.High, pv0_4], .int .i64 k_1, .int .i64 n_2] 1 = .int .i64 k_1 := rfl
  have zf2 : argFr [.agg [.int .i64 g_0.Epoch, .int .i64 g_0.Leader, pv0_2, .int .i64 g_0.High, pv0_4], .int .i64 k_1, .int .i64 n_2] 2 = .int .i64 n_2 := rfl
  generalize argFr [.agg [.int .i64 g_0.Epoch, .int .i64 g_0.Leader, pv0_2, .int .i64 g_0.High, pv0_4], .int .i64 k_1, .int .i64 n_2] = fr0 at zf0 zf1 zf2 ⊢
  simp only [x47, run_seq, run_reg, run_box, zf0, B0, reduceIte, reduceEqDiff]
  refine put2_boxC (cs := [.int .i64 g_0.Epoch, .int .i64 g_0.Leader, pv0_2, .int .i64 g_0.High,
      pv0_4]) hS rfl rfl (all_c rfl (all_c rfl (all_c (SlF.one ph0_2) (all_c rfl (all_c (SlN.one ph0_4) all_n))))) (fun b1 h2 hS3 => ?_)
  simp only [run_new, B0, reduceIte, reduceEqDiff]
  refine put2_newC hS3 (fun b5 h6 hS7 => ?_)
  simp only [run_ops_nil, B0, reduceIte, reduceEqDiff]
  refine frz_stepC (Sep.m1 hS7) hW (by simp only [B0, reduceIte, reduceEqDiff]) (fun h9 hS10 => ?_)
  simp only [run_frz_nil, x47_10, run_seq, run_reg, run_fa, put1_some, Nat.reduceAdd, Nat.zero_add, Nat.add_zero, xfa_ref, run_ld, B0, reduceIte, reduceEqDiff]
  refine put1_eq (v := pv0_4) rfl ?_
  simp only [run_fa, put1_some, Nat.reduceAdd, Nat.zero_add, Nat.add_zero, xfa_ref, run_ld, B0, reduceIte, reduceEqDiff]
  refine put1_eq (v := .int .i64 g_0.Leader) rfl ?_
  obtain ⟨x11, hx12, hF13⟩ := bind_some' hF
  simp only [run_ia, B0, reduceIte, reduceEqDiff]
  obtain ⟨b14, hb15⟩ := SlN.isrow ph0_4 (geti_ne hx12)
  refine put1_eq (SlN.ia ph0_4 hb15 hx12) ?_
  obtain ⟨c16, cs17, os18, hv19, hR20, hS21⟩ := SlG.opn (SlN.toG ph0_4 hb15 Replica.RO.len) hx12 hk_nil Replica.RO.len (Sep.m2 hS10)
  obtain ⟨v23, c24, hv25, rfl, rfl⟩ := hR20
  have hS22 := Sep.no1 hS21
  simp only [run_fa, put1_some, Nat.reduceAdd, Nat.zero_add, Nat.add_zero, xfa_ptr, run_ld, B0, reduceIte, reduceEqDiff]
  refine put1_eq (v := v23) ((SlG.ld (o := 0) hv19 rfl hx12 hS22 (Nat.le_of_ble_eq_true rfl)).trans rfl) ?_
  simp only [run_mv, run_ops_nil, x47_9, run_seq, run_reg, run_fa, put1_some, Nat.reduceAdd, Nat.zero_add, Nat.add_zero, xfa_ref, run_ld, B0, reduceIte, reduceEqDiff]
  refine put1_eq (v := pv0_4) rfl ?_
  obtain ⟨x27, hx28, hF29⟩ := bind_some' hF13
  simp only [zf1, run_mv, run_ia, B0, reduceIte, reduceEqDiff]
  refine put1_eq (SlG.ia hv19 hx28) ?_
  obtain ⟨hp30, hF31⟩ := ck_some hF29
  have hn32 := tn_ne hp30 hx12 hx28
  obtain ⟨c33, cs34, os35, hv36, hR37, hS38⟩ := SlG.opn hv19 hx28 ((hk_ne hn32).trans hk_nil) Replica.RO.len hS22
  obtain ⟨v40, c41, hv42, rfl, rfl⟩ := hR37
  have hS39 := Sep.no1 hS38
  simp only [run_ld, B0, reduceIte, reduceEqDiff]
  refine put1_eq (v := .agg [v40, .int .i64 x27.Epoch, .int .i64 x27.Known]) ((SlG.lds (o := 0) hv36 rfl hx28 hS39 (Nat.le_of_ble_eq_true rfl)).trans rfl) ?_
  simp only [run_new, B0, reduceIte, reduceEqDiff]
  refine put2_newC hS39 (fun b44 h45 hS46 => ?_)
  simp only [run_st, B0, reduceIte, reduceEqDiff]
  refine put2_stCx (us := [v40, .int .i64 x27.Epoch, .int .i64 x27.Known]) rfl (cs' := [v40, .int .i64 x27.Epoch,
      .int .i64 x27.Known]) hS46 hW rfl (all_c (SlF.one hv42) (all_c rfl (all_c rfl all_n))) (Nat.le_of_ble_eq_true rfl) rfl (fun h48 hS49 => ?_)
  simp only [run_ops_nil, x47_8, run_seq, run_reg, run_fa, put1_some, Nat.reduceAdd, Nat.zero_add, Nat.add_zero, xfa_ptr, run_ld, B0, reduceIte, reduceEqDiff]
  refine put1_eq (v := v40) ((xld_b (Sep.bk _ _ _ hS49)).trans rfl) ?_
  obtain ⟨v50, hx51, hF52⟩ := bind_some' hF31
  simp only [run_mv, run_call, B0, reduceIte, reduceEqDiff]
  refine call1 rfl (mapM1 (SlF.snap hv42 (Sep.m2 hS49) rfl (fun _ => rfl) (fun _ => rfl)) (mapM1 (SlF.snap hv25 (Sep.m3 hS49) rfl (fun _ => rfl) (fun _ => rfl)) mapM0))
      (spec_l11Same_x (fun b hb => decide_eq_true hb) k x27.Log x11.Log v50 hx51) ?_
  simp only [run_mv, run_ops_nil, x47_7, run_seq, run_reg, zf2, run_len, put1_some, SlF.plen hv25, run_bin, xsub, xgtr, x47_2, run_cond, B0, reduceIte, reduceEqDiff]
  obtain ⟨s53, hX55, hk56⟩ := bind_some' hF52
  refine cond_j (t := (decide ((IntKind.wrap .i64 ((List.length x11.Log : Int) - v50)) < n_2)))
      (fun fr' h' => fr' 1 = .int .i64 k_1 ∧ fr' 2 = .int .i64 s53 ∧ fr' 3 = .ref [.int .i64 g_0.Epoch, .int .i64 g_0.Leader, pv0_2, .int .i64 g_0.High,
      pv0_4] 0 ∧ fr' 6 = .ptr b5 0 ∧ fr' 7 = v23 ∧ fr' 8 = .ptr b44 0 ∧ fr' 9 = .int .i64 v50 ∧ Sep h' lo (pc0_2 ++ (c33 ++ ([Blk1 b5 [.int .i64 0, .int .i64 0, .nil, .int .i64 0,
      .nil] 29] ++ (c24 ++ ([Blk1 b44 [v40, .int .i64 x27.Epoch, .int .i64 x27.Known] 51] ++ (c41 ++ (S0)))))))) (fun Q57 hN58 hR59 hE60 => ⟨fun hc61 => ?_, fun hc61 => ?_⟩) ?_
  · rw [iteT hc61] at hX55
    simp only [x47_1, run_reg, run_mv, run_len, put1_some, SlF.plen hv25, run_bin, xsub, run_ops_nil, run_nil, B0, reduceIte, reduceEqDiff]
    have e62 := some_inj hX55
    subst e62
    exact hN58 _ _ ⟨by simp only [zf1, B0, reduceIte, reduceEqDiff], by simp only [B0, reduceIte, reduceEqDiff], by simp only [B0, reduceIte, reduceEqDiff], by simp only [B0,
        reduceIte, reduceEqDiff], by simp only [B0, reduceIte, reduceEqDiff], by simp only [B0, reduceIte, reduceEqDiff], by simp only [B0, reduceIte, reduceEqDiff],
        (Sep.m5 (Sep.m4 (Sep.m4 (Sep.m3 (Sep.m1 (Sep.m2 hS49))))))⟩
  · rw [iteF hc61] at hX55
    simp only [run_skip, run_nil, B0, reduceIte, reduceEqDiff]
    have e63 := some_inj hX55
    subst e63
    exact hN58 _ _ ⟨by simp only [zf1, B0, reduceIte, reduceEqDiff], by simp only [zf2, B0, reduceIte, reduceEqDiff], by simp only [B0, reduceIte, reduceEqDiff], by simp only [B0,
        reduceIte, reduceEqDiff], by simp only [B0, reduceIte, reduceEqDiff], by simp only [B0, reduceIte, reduceEqDiff], by simp only [B0, reduceIte, reduceEqDiff],
        (Sep.m5 (Sep.m4 (Sep.m4 (Sep.m3 (Sep.m1 (Sep.m2 hS49))))))⟩
  rintro fr64 h65 ⟨f67, f68, f69, f70, f71, f72, f73, hS66⟩
  unfold spec_l11Fetch_j1 at hk56
  simp only [x47_6, run_seq, run_reg, run_buildS, evp, B0, reduceIte, reduceEqDiff]
  refine put2_buildSF (n := 2) (f := Row.cells) ([] : List Row) hS66 rfl rfl (fun v74 c75 h76 hv77 hS78 => ?_)
  obtain ⟨l80, hx81, hF82⟩ := bind_some' hk56
  simp only [f71, run_mv, f73, f68, run_bin, put1_some, xadd, run_slc, Option.map_some, Option.map_none, B0, reduceIte, reduceEqDiff]
  obtain ⟨w83, i84, he85, hw86⟩ := SlF.win (f := Row.cells) (ty := 98) none (some (IntKind.wrap .i64 (v50 + s53))) hv25 hx81 (Sep.m4 hS78)
  refine put1_eq he85 ?_
  simp only [run_app, B0, reduceIte, reduceEqDiff]
  obtain ⟨l87, hx88, hF89⟩ := bind_some' hF82
  refine put2_appF (f := Row.cells) hv77 hS78 hW (fun _ => rfl) (fun _ => rfl) (SlW.first hw86 hv25 (Sep.m4 hS78) (fun _ => rfl)) hx88 (fun v90 c91 h92 hv93 hS94 => ?_)
  simp only [f72, run_fa, put1_some, Nat.reduceAdd, Nat.zero_add, Nat.add_zero, xfa_ptr, run_st, B0, reduceIte, reduceEqDiff]
  refine put2_stCx (us := [v90]) (cells_one (SlF.one hv93)) (cs' := [v90, .int .i64 x27.Epoch,
      .int .i64 x27.Known]) (Sep.m5 hS94) hW rfl (all_c (SlF.one hv93) all_n) (Nat.le_of_ble_eq_true rfl) rfl (fun h96 hS97 => ?_)
  simp only [run_ops_nil, x47_5, run_seq, run_reg, f69, run_fa, put1_some, Nat.reduceAdd, Nat.zero_add, Nat.add_zero, xfa_ref, run_ld, B0, reduceIte, reduceEqDiff]
  refine put1_eq (v := .int .i64 g_0.Epoch) rfl ?_
  simp only [f72, run_fa, put1_some, Nat.reduceAdd, Nat.zero_add, Nat.add_zero, xfa_ptr, run_st, B0, reduceIte, reduceEqDiff]
  refine put2_stCx (us := [.int .i64 g_0.Epoch]) rfl (cs' := [v90, .int .i64 g_0.Epoch, .int .i64 x27.Known]) hS97 hW rfl rfl (Nat.le_of_ble_eq_true rfl) rfl (fun h98 hS99 => ?_)
  simp only [run_ops_nil, x47_4, run_seq, run_reg, f72, run_fa, put1_some, Nat.reduceAdd, Nat.zero_add, Nat.add_zero, xfa_ptr, run_ld, B0, reduceIte, reduceEqDiff]
  refine put1_eq (v := v90) ((xld_b (Sep.bk _ _ _ hS99)).trans rfl) ?_
  simp only [run_len, put1_some, SlF.plen hv93, f72, run_fa, Nat.reduceAdd, Nat.zero_add, Nat.add_zero, xfa_ptr, run_st, B0, reduceIte, reduceEqDiff]
  refine put2_stCx (us := [.int .i64 (List.length l87 : Int)]) rfl (cs' := [v90, .int .i64 g_0.Epoch,
      .int .i64 (List.length l87 : Int)]) hS99 hW rfl rfl (Nat.le_of_ble_eq_true rfl) rfl (fun h100 hS101 => ?_)
  simp only [run_ops_nil, x47_3, run_seq, run_reg, f69, run_fa, put1_some, Nat.reduceAdd, Nat.zero_add, Nat.add_zero, xfa_ref, run_ld, B0, reduceIte, reduceEqDiff]
  refine put1_eq (v := pv0_4) rfl ?_
  simp only [f67, run_mv, f72, run_ld, B0, reduceIte, reduceEqDiff]
  refine put1_eq (v := .agg [v90, .int .i64 g_0.Epoch, .int .i64 (List.length l87 : Int)]) ((xld_bs (Sep.bk _ _ _ hS101)).trans rfl) ?_
  simp only [run_ia, B0, reduceIte, reduceEqDiff]
  refine put1_eq (SlG.ia hv36 hx28) ?_
  simp only [run_st, B0, reduceIte, reduceEqDiff]
  refine put2_stGx (us := [v90, .int .i64 g_0.Epoch, .int .i64 (List.length l87 : Int)]) (o := 0) (cs' := [v90, .int .i64 g_0.Epoch,
      .int .i64 (List.length l87 : Int)]) rfl hv36 rfl hx28 (Sep.m3 hS101) hW rfl (all_c (SlF.one hv93) (all_c rfl (all_c rfl all_n))) (Nat.le_of_ble_eq_true rfl) rfl
      (fun c104 h102 hv105 hS103 => ?_)
  simp only [run_ops_nil, run_seq, run_reg, f69, run_ld, B0, reduceIte, reduceEqDiff]
  refine put1_eq (v := .agg [.int .i64 g_0.Epoch, .int .i64 g_0.Leader, pv0_2, .int .i64 g_0.High, pv0_4]) rfl ?_
  simp only [f70, run_st, B0, reduceIte, reduceEqDiff]
  refine put2_stCx (us := [.int .i64 g_0.Epoch, .int .i64 g_0.Leader, pv0_2, .int .i64 g_0.High, pv0_4]) rfl (cs' := [.int .i64 g_0.Epoch, .int .i64 g_0.Leader, pv0_2,
      .int .i64 g_0.High, pv0_4]) (Sep.m4 hS103) hW rfl (all_c rfl (all_c rfl (all_c (SlF.one ph0_2) (all_c rfl (all_c (SlG.one hv105) all_n))))) (Nat.le_of_ble_eq_true rfl) rfl
      (fun h106 hS107 => ?_)
  simp only [run_ops_nil, run_ret, B0, reduceIte, reduceEqDiff]
  obtain ⟨c108, hv109, hS110⟩ := SlG.cls (e' := (Replica.mk l87 g_0.Epoch (List.length l87 : Int))) (c := c104) (os := c91) hv105 rfl hx28 ((hk_ne hn32).trans hk_nil) (Replica.RI
      (x := (Replica.mk l87 g_0.Epoch (List.length l87 : Int))) hv93) (Sep.m2 (Sep.m3 hS107))
  have hx111 := geti_set (x' := (Replica.mk l87 g_0.Epoch (List.length l87 : Int))) hx28
  have hx112 := geti_set_ne (e := (Replica.mk l87 g_0.Epoch (List.length l87 : Int))) hx12 (Ne.symm hn32)
  obtain ⟨c113, hv114, hS115⟩ := SlG.cls0 (c := c108) (os := c24) hv109 rfl hx112 hk_nil (Replica.RI (x := x11) hv25) (Sep.m1 (Sep.m4 hS110))
  have hv116 := SlG.toN hv114
  have he := some_inj hF89
  subst he
  refine end_ret_cell (bb := b5) (oo := 0) (v := .agg [.int .i64 g_0.Epoch, .int .i64 g_0.Leader, pv0_2, .int .i64 g_0.High, pv0_4]) (by simp only [f70, B0, reduceIte,
      reduceEqDiff]) ((xld_bs (Sep.bk _ _ _ (Sep.m1 hS115))).trans rfl) ?_
  exact ⟨pv0_2, pc0_2, pv0_4, c113, by first | trivial | rfl, ph0_2, hv116, (Sep.m1 (Sep.dc (Sep.m2 (Sep.dc (Sep.m1 (Sep.dc (Sep.m1 hS115)))))))⟩
end Go.Proofs.Ytefgfcalgjmhjaa.X
