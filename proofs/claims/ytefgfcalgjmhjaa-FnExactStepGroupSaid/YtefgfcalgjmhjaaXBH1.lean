/- The functions' code comes to what the plain functions say (1). -/
import Derived.Test.YtefgfcalgjmhjaaXBF
import Derived.Test.YtefgfcalgjmhjaaXBD
set_option linter.unusedVariables false
set_option linter.unusedSimpArgs false
set_option maxRecDepth 100000
namespace Go.Proofs.Ytefgfcalgjmhjaa.X
open Go
open Nat (reduceEqDiff)
def Replica.R : Rep Replica := fun x cs os => ∃ (v0 : XV) (c0 : List Obj), SlF Row.cells 2 98 v0 x.Log c0 ∧ cs = [v0, .int .i64 x.Epoch, .int .i64 x.Known] ∧ c0 = os
theorem Replica.RI {x : Replica} {v0 : XV} {c0 : List Obj} (h0 : SlF Row.cells 2 98 v0 x.Log c0) : Replica.R x [v0, .int .i64 x.Epoch, .int .i64 x.Known] (c0) := ⟨v0, c0, h0, rfl,
    rfl⟩
theorem Replica.RO : RepOk E.sz Replica.R Replica.cells 3 where
  len := fun {x cs os} H => by
    obtain ⟨v0, c0, h0, rfl, rfl⟩ := H
    rfl
  flen := fun _ => rfl
  one := fun {x cs os} H => by
    obtain ⟨v0, c0, h0, rfl, rfl⟩ := H
    exact (all_c (SlF.one h0) (all_c rfl (all_c rfl all_n)))
  snap := fun {x cs os h lo S} m H hS => by
    obtain ⟨v0, c0, h0, rfl, rfl⟩ := H
    have hS2 : Sep h lo (c0 ++ S) := (by simpa only [List.append_assoc] using hS)
    exact (mapM1 (SlF.snap h0 hS2 rfl (fun _ => rfl) (fun _ => rfl)) (mapM1 snap_int (mapM1 snap_int mapM0)))
  cut := fun {x cs os h lo n0 keep S} m H hS hge => by
    obtain ⟨v0, c0, h0, rfl, rfl⟩ := H
    have hS2 : Sep h lo (c0 ++ S) := (by simpa only [List.append_assoc] using hS)
    exact (mapM1 (SlF.cut h0 hS2 hge rfl (fun _ => rfl) (fun _ => rfl)) (mapM1 rfl (mapM1 rfl mapM0)))
  free := fun {x cs os} H => by
    obtain ⟨v0, c0, h0, rfl, rfl⟩ := H
    exact (all_c (SlF.free1 h0) (all_c rfl (all_c rfl all_n)))
  pf := fun {x cs os} H => by
    obtain ⟨v0, c0, h0, rfl, rfl⟩ := H
    exact (SlF.pf h0 (fun _ => rfl))
theorem slices_Insert_int_x {W : Nat → Bool} {h : Heap} {lo : Nat → Prop} {S0 : List Obj} (hW : ∀ b,
    lo b → W b = true) (pv0 : XV) (pc0 : List Obj) (s_0 : List Int) (ph0 : SlF cI 1 3 pv0 s_0 pc0) (i_1 : Int) (pv2 : XV) (pc2 : List Obj) (v_2 : List Int)
    (ph2 : SlF cI 1 3 pv2 v_2 pc2) (r : List Int × List Int) (hF : slices_Insert_int s_0 i_1 v_2 = some r) (hS : Sep h lo (pc0 ++ (pc2 ++ S0))) : Ret E W 91 [pv0, .int .i64 i_1,
    pv2] h (fun v h' => ∃ rv0 rc0 ic2, v = rv0 ∧ SlF cI 1 3 rv0 r.1 rc0 ∧ SlF cI 1 3 pv2 r.2 ic2 ∧ Sep h' lo (rc0 ++ (ic2 ++ S0))) := ins_x rfl rfl hW ph0 ph2 hF hS
theorem laws_szIntS_x {W : Nat → Bool} {h : Heap} (hW : ∀ b,
    (geL h.length) b → W b = true) (a_0 : List Int) (left_1 : Int) (r : Int) (hF : laws_szIntS a_0 left_1 = some r) : Ret E W 44 [lst cI a_0,
    .int .i64 left_1] h (fun v h' => cut h.length h' E.sz false 9 v = some (.int .i64 r)) := by
  refine Ret.of (fn := x44) rfl (Run.of ?_)
  unfold laws_szIntS at hF
  have zf0 : argFr [lst cI a_0, .int .i64 left_1] 0 = lst cI a_0 := rfl
  have zf1 : argFr [lst cI a_0, .int .i64 left_1] 1 = .int .i64 left_1 := rfl
  generalize argFr [lst cI a_0, .int .i64 left_1] = fr0 at zf0 zf1 ⊢
  have hS : Sep h (geL h.length) [] := Sep.nil h
  simp only [x44, run_seq, run_reg, run_mv, run_ops_nil, x44_2, zf1, zf0, run_len, put1_some, xlen_lst, run_bin, xsub, x44_1, xlss, run_cond, B0, reduceIte, reduceEqDiff]
  refine cond_split (t := (decide ((IntKind.wrap .i64 (left_1 - (List.length a_0 : Int))) < 0))) (fun hc1 => ?_) (fun hc1 => ?_)
  · rw [iteT hc1] at hF
    simp only [run_seq, run_reg, run_mv, run_ops_nil, run_ret, B0, reduceIte, reduceEqDiff]
    have he := some_inj hF
    subst he
    simp only [end_ret1, B0, reduceIte, reduceEqDiff]
    exact rfl
  rw [iteF hc1] at hF
  simp only [run_skip, run_seq, run_reg, run_mv, run_ops_nil, run_ret, B0, reduceIte, reduceEqDiff]
  have he := some_inj hF
  subst he
  simp only [end_ret1, B0, reduceIte, reduceEqDiff]
  exact rfl
theorem laws_szRowS_x {W : Nat → Bool} {h : Heap} (hW : ∀ b,
    (geL h.length) b → W b = true) (a_0 : List Row) (left_1 : Int) (r : Int) (hF : laws_szRowS a_0 left_1 = some r) : Ret E W 92 [lst Row.cells a_0,
    .int .i64 left_1] h (fun v h' => cut h.length h' E.sz false 9 v = some (.int .i64 r)) := by
  refine Ret.of (fn := x92) rfl (Run.of ?_)
  unfold laws_szRowS at hF
  have zf0 : argFr [lst Row.cells a_0, .int .i64 left_1] 0 = lst Row.cells a_0 := rfl
  have zf1 : argFr [lst Row.cells a_0, .int .i64 left_1] 1 = .int .i64 left_1 := rfl
  generalize argFr [lst Row.cells a_0, .int .i64 left_1] = fr0 at zf0 zf1 ⊢
  have hS : Sep h (geL h.length) [] := Sep.nil h
  simp only [x92, run_seq, run_reg, run_mv, run_ops_nil, x92_2, zf1, zf0, run_len, put1_some, xlen_lst, run_bin, xsub, x92_1, xlss, run_cond, B0, reduceIte, reduceEqDiff]
  refine cond_split (t := (decide ((IntKind.wrap .i64 (left_1 - (List.length a_0 : Int))) < 0))) (fun hc1 => ?_) (fun hc1 => ?_)
  · rw [iteT hc1] at hF
    simp only [run_seq, run_reg, run_mv, run_ops_nil, run_ret, B0, reduceIte, reduceEqDiff]
    have he := some_inj hF
    subst he
    simp only [end_ret1, B0, reduceIte, reduceEqDiff]
    exact rfl
  rw [iteF hc1] at hF
  simp only [run_skip, run_seq, run_reg, run_mv, run_ops_nil, run_ret, B0, reduceIte, reduceEqDiff]
  have he := some_inj hF
  subst he
  simp only [end_ret1, B0, reduceIte, reduceEqDiff]
  exact rfl
theorem laws_szReplica_x {W : Nat → Bool} {h : Heap} (hW : ∀ b,
    (geL h.length) b → W b = true) (a_0 : Replica) (left_1 : Int) (r : Int) (hF : laws_szReplica a_0 left_1 = some r) : Ret E W 78 [.agg [lst Row.cells a_0.Log,
    .int .i64 a_0.Epoch, .int .i64 a_0.Known], .int .i64 left_1] h (fun v h' => cut h.length h' E.sz false 9 v = some (.int .i64 r)) := by
  refine Ret.of (fn := x78) rfl (Run.of ?_)
  unfold laws_szReplica at hF
  have zf0 : argFr [.agg [lst Row.cells a_0.Log, .int .i64 a_0.Epoch, .int .i64 a_0.Known], .int .i64 left_1] 0 = .agg [lst Row.cells a_0.Log, .int .i64 a_0.Epoch,
      .int .i64 a_0.Known] := rfl
  have zf1 : argFr [.agg [lst Row.cells a_0.Log, .int .i64 a_0.Epoch, .int .i64 a_0.Known], .int .i64 left_1] 1 = .int .i64 left_1 := rfl
  generalize argFr [.agg [lst Row.cells a_0.Log, .int .i64 a_0.Epoch, .int .i64 a_0.Known], .int .i64 left_1] = fr0 at zf0 zf1 ⊢
  have hS : Sep h (geL h.length) [] := Sep.nil h
  simp only [x78, run_seq, run_reg, run_box, zf0, B0, reduceIte, reduceEqDiff]
  refine put2_boxC (cs := [lst Row.cells a_0.Log, .int .i64 a_0.Epoch, .int .i64 a_0.Known]) hS rfl rfl rfl (fun b1 h2 hS3 => ?_)
  simp only [run_mv, run_ops_nil, B0, reduceIte, reduceEqDiff]
  refine frz_stepC hS3 hW (by simp only [B0, reduceIte, reduceEqDiff]) (fun h5 hS6 => ?_)
  simp only [run_frz_nil, x78_2, run_seq, run_reg, run_fa, put1_some, Nat.reduceAdd, Nat.zero_add, Nat.add_zero, xfa_ref, run_ld, B0, reduceIte, reduceEqDiff]
  refine put1_eq (v := lst Row.cells a_0.Log) rfl ?_
  obtain ⟨v7, hx8, hF9⟩ := bind_some' hF
  simp only [zf1, run_mv, run_call, B0, reduceIte, reduceEqDiff]
  refine call1 rfl (mapM1 snap_lst (mapM1 snap_int mapM0)) (laws_szRowS_x (fun b hb => decide_eq_true hb) a_0.Log left_1 v7 hx8) ?_
  simp only [run_mv, run_ops_nil, x78_1, run_seq, run_reg, run_bin, put1_some, xlss, run_cond, B0, reduceIte, reduceEqDiff]
  refine cond_split (t := (decide (v7 < 0))) (fun hc10 => ?_) (fun hc10 => ?_)
  · rw [iteT hc10] at hF9
    simp only [run_seq, run_reg, run_mv, run_ops_nil, run_ret, B0, reduceIte, reduceEqDiff]
    have he := some_inj hF9
    subst he
    simp only [end_ret1, B0, reduceIte, reduceEqDiff]
    exact rfl
  rw [iteF hc10] at hF9
  simp only [run_skip, run_seq, run_reg, run_mv, run_ops_nil, run_ret, B0, reduceIte, reduceEqDiff]
  have he := some_inj hF9
  subst he
  simp only [end_ret1, B0, reduceIte, reduceEqDiff]
  exact rfl
theorem laws_szReplicaS_x {W : Nat → Bool} {h : Heap} (hW : ∀ b,
    (geL h.length) b → W b = true) (k : Nat) (a_0 : List Replica) (left_1 : Int) (r : Int) (hF : laws_szReplicaS k a_0 left_1 = some r) : Ret E W 45 [lst Replica.cells a_0,
    .int .i64 left_1] h (fun v h' => cut h.length h' E.sz false 9 v = some (.int .i64 r)) := by
  refine Ret.of (fn := x45) rfl (Run.of ?_)
  unfold laws_szReplicaS at hF
  have zf0 : argFr [lst Replica.cells a_0, .int .i64 left_1] 0 = lst Replica.cells a_0 := rfl
  have zf1 : argFr [lst Replica.cells a_0, .int .i64 left_1] 1 = .int .i64 left_1 := rfl
  generalize argFr [lst Replica.cells a_0, .int .i64 left_1] = fr0 at zf0 zf1 ⊢
  have hS : Sep h (geL h.length) [] := Sep.nil h
  simp only [x45, run_seq, run_reg, run_mv, run_ops_nil, x45_9, zf1, zf0, run_len, put1_some, xlen_lst, run_bin, xsub, x45_8, xlss, run_cond, B0, reduceIte, reduceEqDiff]
  refine cond_split (t := (decide ((IntKind.wrap .i64 (left_1 - (List.length a_0 : Int))) < 0))) (fun hc1 => ?_) (fun hc1 => ?_)
  · rw [iteT hc1] at hF
    simp only [run_seq, run_reg, run_mv, run_ops_nil, run_ret, B0, reduceIte, reduceEqDiff]
    have he := some_inj hF
    subst he
    simp only [end_ret1, B0, reduceIte, reduceEqDiff]
    exact rfl
  rw [iteF hc1] at hF
  simp only [run_skip, x45_7, run_seq, run_reg, run_mv, run_ops_nil, B0, reduceIte, reduceEqDiff]
  obtain ⟨oc8, hX10, hk11⟩ := jn_some hF
  simp only [x45_6]
  refine loopF_j (σ := Int × Int) (fun s40 => laws_szReplicaS_b1 a_0 s40.1 s40.2)
      (fun s fr' h' => fr' 0 = lst Replica.cells a_0 ∧ fr' 1 = .int .i64 s.1 ∧ fr' 5 = .int .i64 s.2 ∧ Sep h' (geL h.length) ([])) hX10 ⟨zf0, rfl, rfl, hS⟩ (fun _ _ _ h => h) ?_ ?_
  · rintro ⟨s4, s5⟩ fr20 h21 ⟨f23, f24, f25, hS22⟩ oc9 hF12 hr13 Q14 hN15 hK16 hR17 hE18
    dsimp only at *
    unfold laws_szReplicaS_b1 at hF12
    simp only [x45_4, run_seq, run_reg, f25, run_mv, f23, run_len, put1_some, xlen_lst, run_bin, xlss, run_ops_nil, run_cond, B0, reduceIte, reduceEqDiff]
    refine cond_split (t := (decide (s5 < (List.length a_0 : Int)))) (fun hc27 => ?_) (fun hc27 => ?_)
    · rw [iteT hc27] at hF12
      obtain ⟨x28, hx29, hF30⟩ := bind_some' hF12
      simp only [run_skip, x45_3, run_seq, run_block, x45_2, run_reg, f23, run_mv, f25, run_ia, B0, reduceIte, reduceEqDiff]
      refine put1_eq (v := .ref (Replica.cells x28) 0) (xia_lst hx29 rfl) ?_
      simp only [run_ld, B0, reduceIte, reduceEqDiff]
      refine put1_eq (v := .agg [lst Row.cells x28.Log, .int .i64 x28.Epoch, .int .i64 x28.Known]) rfl ?_
      obtain ⟨v31, hx32, hF33⟩ := bind_some' hF30
      simp only [f24, run_mv, run_call, B0, reduceIte, reduceEqDiff]
      refine call1 rfl (mapM1 (snap_agg (mapM1 snap_lst (mapM1 snap_int (mapM1 snap_int mapM0)))) (mapM1 snap_int mapM0)) (laws_szReplica_x
          (fun b hb => decide_eq_true hb) x28 s4 v31 hx32) ?_
      simp only [run_mv, run_ops_nil, x45_1, run_seq, run_reg, run_bin, put1_some, xlss, run_cond, B0, reduceIte, reduceEqDiff]
      refine cond_split (t := (decide (v31 < 0))) (fun hc34 => ?_) (fun hc34 => ?_)
      · rw [iteT hc34] at hF33
        simp only [run_seq, run_reg, run_mv, run_ops_nil, run_ret, B0, reduceIte, reduceEqDiff]
        have e35 := some_inj hF33
        subst e35
        have ho36 := hr13 _ rfl
        have hk37 := hk11
        rw [ho36] at hk37
        dsimp only [jnO] at hk37
        apply hR17
        have he := some_inj hk37
        subst he
        simp only [end_ret1, B0, reduceIte, reduceEqDiff]
        exact rfl
      rw [iteF hc34] at hF33
      simp only [run_skip, run_blk, run_reg, f25, run_mv, run_bin, put1_some, xadd, run_ops_nil, run_nil, B0, reduceIte, reduceEqDiff]
      have e38 := some_inj hF33
      exact hN15 _ _ _ e38.symm ⟨f23, rfl, rfl, hS22⟩
    rw [iteF hc27] at hF12
    simp only [run_exit, out_code, out_nil, B0, reduceIte, reduceEqDiff]
    have e39 := some_inj hF12
    exact hK16 _ _ _ e39.symm ⟨f23, f24, f25, hS22⟩
  rintro ⟨s41, s42⟩ fr43 h44 rfl ⟨f46, f47, f48, hS45⟩
  dsimp only [jnO] at hk11
  dsimp only at *
  unfold laws_szReplicaS_j1 at hk11
  simp only [run_seq, run_reg, f47, run_mv, run_ops_nil, run_ret, B0, reduceIte, reduceEqDiff]
  have he := some_inj hk11
  subst he
  simp only [end_ret1, B0, reduceIte, reduceEqDiff]
  exact rfl
theorem laws_szGroup_x {W : Nat → Bool} {h : Heap} (hW : ∀ b,
    (geL h.length) b → W b = true) (k : Nat) (a_0 : Group) (left_1 : Int) (r : Int) (hF : laws_szGroup k a_0 left_1 = some r) : Ret E W 8 [.agg [.int .i64 a_0.Epoch,
    .int .i64 a_0.Leader, lst cI a_0.InStep, .int .i64 a_0.High, lst Replica.cells a_0.Replicas],
    .int .i64 left_1] h (fun v h' => cut h.length h' E.sz false 9 v = some (.int .i64 r)) := by
  refine Ret.of (fn := x8) rfl (Run.of ?_)
  unfold laws_szGroup at hF
  have zf0 : argFr [.agg [.int .i64 a_0.Epoch, .int .i64 a_0.Leader, lst cI a_0.InStep, .int .i64 a_0.High, lst Replica.cells a_0.Replicas],
      .int .i64 left_1] 0 = .agg [.int .i64 a_0.Epoch, .int .i64 a_0.Leader, lst cI a_0.InStep, .int .i64 a_0.High, lst Replica.cells a_0.Replicas] := rfl
  have zf1 : argFr [.agg [.int .i64 a_0.Epoch, .int .i64 a_0.Leader, lst cI a_0.InStep, .int .i64 a_0.High, lst Replica.cells a_0.Replicas],
      .int .i64 left_1] 1 = .int .i64 left_1 := rfl
  generalize argFr [.agg [.int .i64 a_0.Epoch, .int .i64 a_0.Leader, lst cI a_0.InStep, .int .i64 a_0.High, lst Replica.cells a_0.Replicas], .int .i64 left_1] = fr0 at zf0 zf1 ⊢
  have hS : Sep h (geL h.length) [] := Sep.nil h
  simp only [x8, run_seq, run_reg, run_box, zf0, B0, reduceIte, reduceEqDiff]
  refine put2_boxC (cs := [.int .i64 a_0.Epoch, .int .i64 a_0.Leader, lst cI a_0.InStep, .int .i64 a_0.High, lst Replica.cells a_0.Replicas]) hS rfl rfl rfl (fun b1 h2 hS3 => ?_)
  simp only [run_mv, run_ops_nil, B0, reduceIte, reduceEqDiff]
  refine frz_stepC hS3 hW (by simp only [B0, reduceIte, reduceEqDiff]) (fun h5 hS6 => ?_)
  simp only [run_frz_nil, x8_4, run_seq, run_reg, run_fa, put1_some, Nat.reduceAdd, Nat.zero_add, Nat.add_zero, xfa_ref, run_ld, B0, reduceIte, reduceEqDiff]
  refine put1_eq (v := lst cI a_0.InStep) rfl ?_
  obtain ⟨v7, hx8, hF9⟩ := bind_some' hF
  simp only [zf1, run_mv, run_call, B0, reduceIte, reduceEqDiff]
  refine call1 rfl (mapM1 snap_lst (mapM1 snap_int mapM0)) (laws_szIntS_x (fun b hb => decide_eq_true hb) a_0.InStep left_1 v7 hx8) ?_
  simp only [run_mv, run_ops_nil, x8_3, run_seq, run_reg, run_bin, put1_some, xlss, run_cond, B0, reduceIte, reduceEqDiff]
  refine cond_split (t := (decide (v7 < 0))) (fun hc10 => ?_) (fun hc10 => ?_)
  · rw [iteT hc10] at hF9
    simp only [run_seq, run_reg, run_mv, run_ops_nil, run_ret, B0, reduceIte, reduceEqDiff]
    have he := some_inj hF9
    subst he
    simp only [end_ret1, B0, reduceIte, reduceEqDiff]
    exact rfl
  rw [iteF hc10] at hF9
  simp only [run_skip, x8_2, run_seq, run_reg, run_fa, put1_some, Nat.reduceAdd, Nat.zero_add, Nat.add_zero, xfa_ref, run_ld, B0, reduceIte, reduceEqDiff]
  refine put1_eq (v := lst Replica.cells a_0.Replicas) rfl ?_
  obtain ⟨v11, hx12, hF13⟩ := bind_some' hF9
  simp only [run_mv, run_call, B0, reduceIte, reduceEqDiff]
  refine call1 rfl (mapM1 snap_lst (mapM1 snap_int mapM0)) (laws_szReplicaS_x (fun b hb => decide_eq_true hb) k a_0.Replicas v7 v11 hx12) ?_
  simp only [run_mv, run_ops_nil, x8_1, run_seq, run_reg, run_bin, put1_some, xlss, run_cond, B0, reduceIte, reduceEqDiff]
  refine cond_split (t := (decide (v11 < 0))) (fun hc14 => ?_) (fun hc14 => ?_)
  · rw [iteT hc14] at hF13
    simp only [run_seq, run_reg, run_mv, run_ops_nil, run_ret, B0, reduceIte, reduceEqDiff]
    have he := some_inj hF13
    subst he
    simp only [end_ret1, B0, reduceIte, reduceEqDiff]
    exact rfl
  rw [iteF hc14] at hF13
  simp only [run_skip, run_seq, run_reg, run_mv, run_ops_nil, run_ret, B0, reduceIte, reduceEqDiff]
  have he := some_inj hF13
  subst he
  simp only [end_ret1, B0, reduceIte, reduceEqDiff]
  exact rfl
theorem laws_toIntS_x {W : Nat → Bool} {h : Heap} (hW : ∀ b,
    (geL h.length) b → W b = true) (k : Nat) (a_0 : List Int) (r : List Int) (hF : laws_toIntS k a_0 = some r) : Ret E W 50 [lst cI a_0] h (fun v h' => ∃ rv0 rc0,
    v = rv0 ∧ SlF cI 1 3 rv0 r rc0 ∧ Sep h' (geL h.length) (rc0 ++ ([]))) := by
  refine Ret.of (fn := x50) rfl (Run.of ?_)
  unfold laws_toIntS at hF
  have zf0 : argFr [lst cI a_0] 0 = lst cI a_0 := rfl
  generalize argFr [lst cI a_0] = fr0 at zf0 ⊢
  have hS : Sep h (geL h.length) [] := Sep.nil h
  obtain ⟨l1, hx2, hF3⟩ := bind_some' hF
  simp only [x50, run_seq, run_reg, run_mv, run_ops_nil, x50_7, zf0, run_len, put1_some, xlen_lst, run_mkS, B0, reduceIte, reduceEqDiff]
  refine put2_mkSF (f := cI) (z := (0 : Int)) hS hx2 rfl (fun v4 c5 h6 hv7 hS8 => ?_)
  simp only [run_mv, run_ops_nil, x50_6, run_seq, run_reg, B0, reduceIte, reduceEqDiff]
  obtain ⟨oc20, hX22, hk23⟩ := jn_some hF3
  simp only [x50_5]
  refine loopF_j (σ := Int × (List Int)) (fun s55 => laws_toIntS_b1 a_0 s55.1 s55.2) (fun s fr' h' => ∃ c16,
      fr' 0 = lst cI a_0 ∧ fr' 3 = v4 ∧ fr' 4 = .int .i64 s.1 ∧ SlF cI 1 3 v4 s.2 c16 ∧ Sep h' (geL h.length) (c16 ++ ([]))) hX22 ⟨c5, zf0, rfl, rfl, hv7,
      hS8⟩ (fun _ _ _ h => h) ?_ ?_
  · rintro ⟨s14, s15⟩ fr32 h33 ⟨c16, f35, f36, f37, hv17, hS34⟩ oc21 hF24 hr25 Q26 hN27 hK28 hR29 hE30
    dsimp only at *
    unfold laws_toIntS_b1 at hF24
    simp only [x50_3, run_seq, run_reg, f37, run_mv, f35, run_len, put1_some, xlen_lst, run_bin, xlss, run_ops_nil, run_cond, B0, reduceIte, reduceEqDiff]
    refine cond_split (t := (decide (s14 < (List.length a_0 : Int)))) (fun hc39 => ?_) (fun hc39 => ?_)
    · rw [iteT hc39] at hF24
      obtain ⟨x40, hx41, hF42⟩ := bind_some' hF24
      simp only [run_skip, x50_2, run_seq, run_block, x50_1, run_reg, f36, run_mv, f37, f35, run_ia, B0, reduceIte, reduceEqDiff]
      refine put1_eq (v := .ref (cI x40) 0) (xia_lst hx41 rfl) ?_
      simp only [run_ld, B0, reduceIte, reduceEqDiff]
      refine put1_eq (v := .int .i64 x40) rfl ?_
      obtain ⟨x43, hx44, hF45⟩ := bind_some' hF42
      simp only [run_ia, B0, reduceIte, reduceEqDiff]
      obtain ⟨b46, hb47⟩ := SlF.isrow hv17 (geti_ne hx44)
      refine put1_eq (SlF.ia hv17 hb47 hx44) ?_
      simp only [run_st, B0, reduceIte, reduceEqDiff]
      refine put2_stF (f := cI) (x' := x40) (o := 0) hv17 hS34 hW hb47 hx44 (fun _ => rfl) rfl rfl (Nat.le_of_ble_eq_true rfl) rfl (fun c50 h48 hv51 hS49 => ?_)
      have hx52 := geti_set (x' := x40) hx44
      simp only [run_ops_nil, run_blk, run_reg, f37, run_mv, run_bin, put1_some, xadd, run_nil, B0, reduceIte, reduceEqDiff]
      have e53 := some_inj hF45
      exact hN27 _ _ _ e53.symm ⟨c50, f35, f36, rfl, hv51, hS49⟩
    rw [iteF hc39] at hF24
    simp only [run_exit, out_code, out_nil, B0, reduceIte, reduceEqDiff]
    have e54 := some_inj hF24
    exact hK28 _ _ _ e54.symm ⟨c16, f35, f36, f37, hv17, hS34⟩
  rintro ⟨s56, s57⟩ fr60 h61 rfl ⟨c58, f63, f64, f65, hv59, hS62⟩
  dsimp only [jnO] at hk23
  dsimp only at *
  unfold laws_toIntS_j1 at hk23
  simp only [run_seq, run_reg, f64, run_mv, run_ops_nil, run_ret, B0, reduceIte, reduceEqDiff]
  have he := some_inj hk23
  subst he
  simp only [end_ret1, B0, reduceIte, reduceEqDiff]
  exact ⟨v4, c58, by first | trivial | rfl, hv59, hS62⟩
theorem laws_toRow_x {W : Nat → Bool} {h : Heap} (hW : ∀ b,
    (geL h.length) b → W b = true) (a_0 : Row) (r : Row) (hF : some (laws_toRow a_0) = some r) : Ret E W 100 [.agg [.int .i64 a_0.Epoch,
    .int .i64 a_0.Value]] h (fun v h' => cut h.length h' E.sz false 9 v = some (.agg [.int .i64 r.Epoch, .int .i64 r.Value])) := by
  refine Ret.of (fn := x100) rfl (Run.of ?_)
  unfold laws_toRow at hF
  have zf0 : argFr [.agg [.int .i64 a_0.Epoch, .int .i64 a_0.Value]] 0 = .agg [.int .i64 a_0.Epoch, .int .i64 a_0.Value] := rfl
  generalize argFr [.agg [.int .i64 a_0.Epoch, .int .i64 a_0.Value]] = fr0 at zf0 ⊢
  have hS : Sep h (geL h.length) [] := Sep.nil h
  simp only [x100, run_seq, run_reg, run_box, zf0, B0, reduceIte, reduceEqDiff]
  refine put2_boxC (cs := [.int .i64 a_0.Epoch, .int .i64 a_0.Value]) hS rfl rfl rfl (fun b1 h2 hS3 => ?_)
  simp only [run_new, B0, reduceIte, reduceEqDiff]
  refine put2_newC hS3 (fun b5 h6 hS7 => ?_)
  simp only [run_ops_nil, B0, reduceIte, reduceEqDiff]
  refine frz_stepC (Sep.m1 hS7) hW (by simp only [B0, reduceIte, reduceEqDiff]) (fun h9 hS10 => ?_)
  simp only [run_frz_nil, x100_3, run_seq, run_reg, run_new, B0, reduceIte, reduceEqDiff]
  refine put2_newC hS10 (fun b11 h12 hS13 => ?_)
  simp only [run_ops_nil, x100_2, run_seq, run_reg, run_fa, put1_some, Nat.reduceAdd, Nat.zero_add, Nat.add_zero, xfa_ref, run_ld, B0, reduceIte, reduceEqDiff]
  refine put1_eq (v := .int .i64 a_0.Epoch) rfl ?_
  simp only [run_fa, put1_some, Nat.reduceAdd, Nat.zero_add, Nat.add_zero, xfa_ptr, run_st, B0, reduceIte, reduceEqDiff]
  refine put2_stCx (us := [.int .i64 a_0.Epoch]) rfl (cs' := [.int .i64 a_0.Epoch, .int .i64 0]) hS13 hW rfl rfl (Nat.le_of_ble_eq_true rfl) rfl (fun h15 hS16 => ?_)
  simp only [run_ops_nil, x100_1, run_seq, run_reg, run_fa, put1_some, Nat.reduceAdd, Nat.zero_add, Nat.add_zero, xfa_ref, run_ld, B0, reduceIte, reduceEqDiff]
  refine put1_eq (v := .int .i64 a_0.Value) rfl ?_
  simp only [run_fa, put1_some, Nat.reduceAdd, Nat.zero_add, Nat.add_zero, xfa_ptr, run_st, B0, reduceIte, reduceEqDiff]
  refine put2_stCx (us := [.int .i64 a_0.Value]) rfl (cs' := [.int .i64 a_0.Epoch, .int .i64 a_0.Value]) hS16 hW rfl rfl (Nat.le_of_ble_eq_true rfl) rfl (fun h17 hS18 => ?_)
  simp only [run_ops_nil, run_seq, run_reg, run_ld, B0, reduceIte, reduceEqDiff]
  refine put1_eq (v := .agg [.int .i64 a_0.Epoch, .int .i64 a_0.Value]) ((xld_bs (Sep.bk _ _ _ hS18)).trans rfl) ?_
  simp only [run_st, B0, reduceIte, reduceEqDiff]
  refine put2_stCx (us := [.int .i64 a_0.Epoch, .int .i64 a_0.Value]) rfl (cs' := [.int .i64 a_0.Epoch,
      .int .i64 a_0.Value]) (Sep.m1 hS18) hW rfl rfl (Nat.le_of_ble_eq_true rfl) rfl (fun h19 hS20 => ?_)
  simp only [run_ops_nil, run_ret, B0, reduceIte, reduceEqDiff]
  have he := some_inj hF
  subst he
  refine end_ret_cell (bb := b5) (oo := 0) (v := .agg [.int .i64 a_0.Epoch, .int .i64 a_0.Value]) (by simp only [B0, reduceIte,
      reduceEqDiff]) ((xld_bs (Sep.bk _ _ _ hS20)).trans rfl) ?_
  exact (cut_agg (mapM1 rfl (mapM1 rfl mapM0)))
theorem laws_toRowS_x {W : Nat → Bool} {h : Heap} (hW : ∀ b,
    (geL h.length) b → W b = true) (k : Nat) (a_0 : List Row) (r : List Row) (hF : laws_toRowS k a_0 = some r) : Ret E W 93 [lst Row.cells a_0] h (fun v h' => ∃ rv0 rc0,
    v = rv0 ∧ SlF Row.cells 2 98 rv0 r rc0 ∧ Sep h' (geL h.length) (rc0 ++ ([]))) := by
  refine Ret.of (fn := x93) rfl (Run.of ?_)
  unfold laws_toRowS at hF
  have zf0 : argFr [lst Row.cells a_0] 0 = lst Row.cells a_0 := rfl
  generalize argFr [lst Row.cells a_0] = fr0 at zf0 ⊢
  have hS : Sep h (geL h.length) [] := Sep.nil h
  obtain ⟨l1, hx2, hF3⟩ := bind_some' hF
  simp only [x93, run_seq, run_reg, run_mv, run_ops_nil, x93_7, zf0, run_len, put1_some, xlen_lst, run_mkS, B0, reduceIte, reduceEqDiff]
  refine put2_mkSF (f := Row.cells) (z := (Row.mk (0 : Int) (0 : Int))) hS hx2 rfl (fun v4 c5 h6 hv7 hS8 => ?_)
  simp only [run_mv, run_ops_nil, x93_6, run_seq, run_reg, B0, reduceIte, reduceEqDiff]
  obtain ⟨oc20, hX22, hk23⟩ := jn_some hF3
  simp only [x93_5]
  refine loopF_j (σ := Int × (List Row)) (fun s55 => laws_toRowS_b1 a_0 s55.1 s55.2) (fun s fr' h' => ∃ c16,
      fr' 0 = lst Row.cells a_0 ∧ fr' 3 = v4 ∧ fr' 4 = .int .i64 s.1 ∧ SlF Row.cells 2 98 v4 s.2 c16 ∧ Sep h' (geL h.length) (c16 ++ ([]))) hX22 ⟨c5, zf0, rfl, rfl, hv7,
      hS8⟩ (fun _ _ _ h => h) ?_ ?_
  · rintro ⟨s14, s15⟩ fr32 h33 ⟨c16, f35, f36, f37, hv17, hS34⟩ oc21 hF24 hr25 Q26 hN27 hK28 hR29 hE30
    dsimp only at *
    unfold laws_toRowS_b1 at hF24
    simp only [x93_3, run_seq, run_reg, f37, run_mv, f35, run_len, put1_some, xlen_lst, run_bin, xlss, run_ops_nil, run_cond, B0, reduceIte, reduceEqDiff]
    refine cond_split (t := (decide (s14 < (List.length a_0 : Int)))) (fun hc39 => ?_) (fun hc39 => ?_)
    · rw [iteT hc39] at hF24
      obtain ⟨x40, hx41, hF42⟩ := bind_some' hF24
      simp only [run_skip, x93_2, run_seq, run_block, x93_1, run_reg, f36, run_mv, f37, f35, run_ia, B0, reduceIte, reduceEqDiff]
      refine put1_eq (v := .ref (Row.cells x40) 0) (xia_lst hx41 rfl) ?_
      simp only [run_ld, B0, reduceIte, reduceEqDiff]
      refine put1_eq (v := .agg [.int .i64 x40.Epoch, .int .i64 x40.Value]) rfl ?_
      simp only [run_call, B0, reduceIte, reduceEqDiff]
      refine call1 rfl (mapM1 (snap_agg (mapM1 snap_int (mapM1 snap_int mapM0))) mapM0) (laws_toRow_x (fun b hb => decide_eq_true hb) x40 _ rfl) ?_
      obtain ⟨x43, hx44, hF45⟩ := bind_some' hF42
      simp only [run_ia, B0, reduceIte, reduceEqDiff]
      obtain ⟨b46, hb47⟩ := SlF.isrow hv17 (geti_ne hx44)
      refine put1_eq (SlF.ia hv17 hb47 hx44) ?_
      simp only [run_st, B0, reduceIte, reduceEqDiff]
      refine put2_stF (f := Row.cells) (x' := (laws_toRow x40)) (o := 0) hv17 hS34 hW hb47 hx44 (fun _ => rfl) rfl rfl (Nat.le_of_ble_eq_true rfl) rfl (fun c50 h48 hv51 hS49 => ?_)
      have hx52 := geti_set (x' := (laws_toRow x40)) hx44
      simp only [run_ops_nil, run_blk, run_reg, f37, run_mv, run_bin, put1_some, xadd, run_nil, B0, reduceIte, reduceEqDiff]
      have e53 := some_inj hF45
      exact hN27 _ _ _ e53.symm ⟨c50, f35, f36, rfl, hv51, hS49⟩
    rw [iteF hc39] at hF24
    simp only [run_exit, out_code, out_nil, B0, reduceIte, reduceEqDiff]
    have e54 := some_inj hF24
    exact hK28 _ _ _ e54.symm ⟨c16, f35, f36, f37, hv17, hS34⟩
  rintro ⟨s56, s57⟩ fr60 h61 rfl ⟨c58, f63, f64, f65, hv59, hS62⟩
  dsimp only [jnO] at hk23
  dsimp only at *
  unfold laws_toRowS_j1 at hk23
  simp only [run_seq, run_reg, f64, run_mv, run_ops_nil, run_ret, B0, reduceIte, reduceEqDiff]
  have he := some_inj hk23
  subst he
  simp only [end_ret1, B0, reduceIte, reduceEqDiff]
  exact ⟨v4, c58, by first | trivial | rfl, hv59, hS62⟩
theorem laws_toReplica_x {W : Nat → Bool} {h : Heap} (hW : ∀ b,
    (geL h.length) b → W b = true) (k : Nat) (a_0 : Replica) (r : Replica) (hF : laws_toReplica k a_0 = some r) : Ret E W 79 [.agg [lst Row.cells a_0.Log, .int .i64 a_0.Epoch,
    .int .i64 a_0.Known]] h (fun v h' => ∃ rv0_0 rc0_0, v = .agg [rv0_0, .int .i64 r.Epoch,
    .int .i64 r.Known] ∧ SlF Row.cells 2 98 rv0_0 r.Log rc0_0 ∧ Sep h' (geL h.length) (rc0_0 ++ ([]))) := by
  refine Ret.of (fn := x79) rfl (Run.of ?_)
  unfold laws_toReplica at hF
  have zf0 : argFr [.agg [lst Row.cells a_0.Log, .int .i64 a_0.Epoch, .int .i64 a_0.Known]] 0 = .agg [lst Row.cells a_0.Log, .int .i64 a_0.Epoch, .int .i64 a_0.Known] := rfl
  generalize argFr [.agg [lst Row.cells a_0.Log, .int .i64 a_0.Epoch, .int .i64 a_0.Known]] = fr0 at zf0 ⊢
  have hS : Sep h (geL h.length) [] := Sep.nil h
  simp only [x79, run_seq, run_reg, run_box, zf0, B0, reduceIte, reduceEqDiff]
  refine put2_boxC (cs := [lst Row.cells a_0.Log, .int .i64 a_0.Epoch, .int .i64 a_0.Known]) hS rfl rfl rfl (fun b1 h2 hS3 => ?_)
  simp only [run_new, B0, reduceIte, reduceEqDiff]
  refine put2_newC hS3 (fun b5 h6 hS7 => ?_)
  simp only [run_ops_nil, B0, reduceIte, reduceEqDiff]
  refine frz_stepC (Sep.m1 hS7) hW (by simp only [B0, reduceIte, reduceEqDiff]) (fun h9 hS10 => ?_)
  simp only [run_frz_nil, x79_4, run_seq, run_reg, run_new, B0, reduceIte, reduceEqDiff]
  refine put2_newC hS10 (fun b11 h12 hS13 => ?_)
  simp only [run_ops_nil, x79_3, run_seq, run_reg, run_fa, put1_some, Nat.reduceAdd, Nat.zero_add, Nat.add_zero, xfa_ref, run_ld, B0, reduceIte, reduceEqDiff]
  refine put1_eq (v := lst Row.cells a_0.Log) rfl ?_
  obtain ⟨v15, hx16, hF17⟩ := bind_some' hF
  simp only [run_call, B0, reduceIte, reduceEqDiff]
  refine call2 rfl hS13 (mapM1 snap_lst mapM0) (laws_toRowS_x (fun b hb => decide_eq_true hb) k a_0.Log v15 hx16) ?_
  rintro v18 h22 ⟨_, c19, rfl, hv20, hS23⟩
  refine ⟨_, free_1 (SlF.free1 hv20), hS23, (pf_app (SlF.pf hv20 (fun _ => rfl)) pf_nil), fun h24 hS25 => ?_⟩
  have hS26 : Sep h24 (geL h.length) (c19 ++ ([Blk1 b11 [.nil, .int .i64 0, .int .i64 0] 51] ++ ([Blk1 b5 [.nil, .int .i64 0,
      .int .i64 0] 51] ++ ([])))) := by simpa only [List.append_assoc, List.nil_append] using hS25
  simp only [run_fa, put1_some, Nat.reduceAdd, Nat.zero_add, Nat.add_zero, xfa_ptr, run_st, B0, reduceIte, reduceEqDiff]
  refine put2_stCx (us := [v18]) (cells_one (SlF.one hv20)) (cs' := [v18, .int .i64 0,
      .int .i64 0]) (Sep.m1 hS26) hW rfl (all_c (SlF.one hv20) all_n) (Nat.le_of_ble_eq_true rfl) rfl (fun h27 hS28 => ?_)
  simp only [run_ops_nil, x79_2, run_seq, run_reg, run_fa, put1_some, Nat.reduceAdd, Nat.zero_add, Nat.add_zero, xfa_ref, run_ld, B0, reduceIte, reduceEqDiff]
  refine put1_eq (v := .int .i64 a_0.Epoch) rfl ?_
  simp only [run_fa, put1_some, Nat.reduceAdd, Nat.zero_add, Nat.add_zero, xfa_ptr, run_st, B0, reduceIte, reduceEqDiff]
  refine put2_stCx (us := [.int .i64 a_0.Epoch]) rfl (cs' := [v18, .int .i64 a_0.Epoch, .int .i64 0]) hS28 hW rfl rfl (Nat.le_of_ble_eq_true rfl) rfl (fun h29 hS30 => ?_)
  simp only [run_ops_nil, x79_1, run_seq, run_reg, run_fa, put1_some, Nat.reduceAdd, Nat.zero_add, Nat.add_zero, xfa_ref, run_ld, B0, reduceIte, reduceEqDiff]
  refine put1_eq (v := .int .i64 a_0.Known) rfl ?_
  simp only [run_fa, put1_some, Nat.reduceAdd, Nat.zero_add, Nat.add_zero, xfa_ptr, run_st, B0, reduceIte, reduceEqDiff]
  refine put2_stCx (us := [.int .i64 a_0.Known]) rfl (cs' := [v18, .int .i64 a_0.Epoch, .int .i64 a_0.Known]) hS30 hW rfl rfl (Nat.le_of_ble_eq_true rfl) rfl (fun h31 hS32 => ?_)
  simp only [run_ops_nil, run_seq, run_reg, run_ld, B0, reduceIte, reduceEqDiff]
  refine put1_eq (v := .agg [v18, .int .i64 a_0.Epoch, .int .i64 a_0.Known]) ((xld_bs (Sep.bk _ _ _ hS32)).trans rfl) ?_
  simp only [run_st, B0, reduceIte, reduceEqDiff]
  refine put2_stCx (us := [v18, .int .i64 a_0.Epoch, .int .i64 a_0.Known]) rfl (cs' := [v18, .int .i64 a_0.Epoch,
      .int .i64 a_0.Known]) (Sep.m2 hS32) hW rfl (all_c (SlF.one hv20) (all_c rfl (all_c rfl all_n))) (Nat.le_of_ble_eq_true rfl) rfl (fun h33 hS34 => ?_)
  simp only [run_ops_nil, run_ret, B0, reduceIte, reduceEqDiff]
  have he := some_inj hF17
  subst he
  refine end_ret_cell (bb := b5) (oo := 0) (v := .agg [v18, .int .i64 a_0.Epoch, .int .i64 a_0.Known]) (by simp only [B0, reduceIte,
      reduceEqDiff]) ((xld_bs (Sep.bk _ _ _ hS34)).trans rfl) ?_
  exact ⟨v18, c19, by first | trivial | rfl, hv20, (Sep.dc ((Sep.dc (hS34))))⟩
theorem laws_toReplicaS_x {W : Nat → Bool} {h : Heap} (hW : ∀ b,
    (geL h.length) b → W b = true) (k : Nat) (a_0 : List Replica) (r : List Replica) (hF : laws_toReplicaS k a_0 = some r) : Ret E W 51 [lst Replica.cells a_0] h
    (fun v h' => ∃ rv0 rc0, v = rv0 ∧ SlN Replica.R 3 51 rv0 r rc0 ∧ Sep h' (geL h.length) (rc0 ++ ([]))) := by
  refine Ret.of (fn := x51) rfl (Run.of ?_)
  unfold laws_toReplicaS at hF
  have zf0 : argFr [lst Replica.cells a_0] 0 = lst Replica.cells a_0 := rfl
  generalize argFr [lst Replica.cells a_0] = fr0 at zf0 ⊢
  have hS : Sep h (geL h.length) [] := Sep.nil h
  obtain ⟨l1, hx2, hF3⟩ := bind_some' hF
  simp only [x51, run_seq, run_reg, run_mv, run_ops_nil, x51_7, zf0, run_len, put1_some, xlen_lst, run_mkS, B0, reduceIte, reduceEqDiff]
  refine put2_mkSN (R := Replica.R) (e := (Replica.mk [] (0 : Int) (0 : Int))) (z := [.nil, .int .i64 0,
      .int .i64 0]) hS hx2 (Replica.RI (x := (Replica.mk [] 0 0)) SlF.nil) rfl (fun v4 c5 h6 hv7 hS8 => ?_)
  simp only [run_mv, run_ops_nil, x51_6, run_seq, run_reg, B0, reduceIte, reduceEqDiff]
  obtain ⟨oc20, hX22, hk23⟩ := jn_some hF3
  simp only [x51_5]
  refine loopF_j (σ := Int × (List Replica)) (fun s82 => laws_toReplicaS_b1 k a_0 s82.1 s82.2) (fun s fr' h' => ∃ c16,
      fr' 0 = lst Replica.cells a_0 ∧ fr' 3 = v4 ∧ fr' 4 = .int .i64 s.1 ∧ SlN Replica.R 3 51 v4 s.2 c16 ∧ Sep h' (geL h.length) (c16 ++ ([]))) hX22 ⟨c5, zf0, rfl, rfl, hv7,
      hS8⟩ (fun _ _ _ h => h) ?_ ?_
  · rintro ⟨s14, s15⟩ fr32 h33 ⟨c16, f35, f36, f37, hv17, hS34⟩ oc21 hF24 hr25 Q26 hN27 hK28 hR29 hE30
    dsimp only at *
    unfold laws_toReplicaS_b1 at hF24
    simp only [x51_3, run_seq, run_reg, f37, run_mv, f35, run_len, put1_some, xlen_lst, run_bin, xlss, run_ops_nil, run_cond, B0, reduceIte, reduceEqDiff]
    refine cond_split (t := (decide (s14 < (List.length a_0 : Int)))) (fun hc39 => ?_) (fun hc39 => ?_)
    · rw [iteT hc39] at hF24
      obtain ⟨x40, hx41, hF42⟩ := bind_some' hF24
      simp only [run_skip, x51_2, run_seq, run_block, x51_1, run_reg, f36, run_mv, f37, f35, run_ia, B0, reduceIte, reduceEqDiff]
      refine put1_eq (v := .ref (Replica.cells x40) 0) (xia_lst hx41 rfl) ?_
      simp only [run_ld, B0, reduceIte, reduceEqDiff]
      refine put1_eq (v := .agg [lst Row.cells x40.Log, .int .i64 x40.Epoch, .int .i64 x40.Known]) rfl ?_
      obtain ⟨v43, hx44, hF45⟩ := bind_some' hF42
      simp only [run_call, B0, reduceIte, reduceEqDiff]
      refine call2 rfl hS34 (mapM1 (snap_agg (mapM1 snap_lst (mapM1 snap_int (mapM1 snap_int mapM0)))) mapM0) (laws_toReplica_x (fun b hb => decide_eq_true hb) k x40 v43 hx44) ?_
      rintro _ h50 ⟨v46, c47, rfl, hv48, hS51⟩
      refine ⟨_, free_a (all_c (SlF.free1 hv48) (all_c rfl (all_c rfl all_n))), hS51, (pf_app (SlF.pf hv48 (fun _ => rfl)) pf_nil), fun h52 hS53 => ?_⟩
      have hS54 : Sep h52 (geL h.length) (c47 ++ (c16 ++ ([]))) := by simpa only [List.append_assoc, List.nil_append] using hS53
      obtain ⟨x55, hx56, hF57⟩ := bind_some' hF45
      simp only [run_ia, B0, reduceIte, reduceEqDiff]
      obtain ⟨b58, hb59⟩ := SlN.isrow hv17 (geti_ne hx56)
      refine put1_eq (SlN.ia hv17 hb59 hx56) ?_
      obtain ⟨c62, cs63, os64, hv65, hR66, hS67⟩ := SlG.opn (SlN.toG hv17 hb59 Replica.RO.len) hx56 hk_nil Replica.RO.len (Sep.m1 hS54)
      obtain ⟨v69, c70, hv71, rfl, rfl⟩ := hR66
      have hS68 := Sep.no1 hS67
      simp only [run_st, B0, reduceIte, reduceEqDiff]
      refine put2_stGx (us := [v46, .int .i64 v43.Epoch, .int .i64 v43.Known]) (o := 0) (cs' := [v46, .int .i64 v43.Epoch,
          .int .i64 v43.Known]) rfl hv65 rfl hx56 hS68 hW rfl (all_c (SlF.one hv48) (all_c rfl (all_c rfl all_n))) (Nat.le_of_ble_eq_true rfl) rfl (fun c73 h60 hv74 hS61 => ?_)
      simp only [run_ops_nil, run_blk, run_reg, f37, run_mv, run_bin, put1_some, xadd, run_nil, B0, reduceIte, reduceEqDiff]
      obtain ⟨c75, hv76, hS77⟩ := SlG.cls (e' := v43) (c := c73) (os := c47) hv74 rfl hx56 hk_nil (Replica.RI (x := v43) hv48) (Sep.m1 (Sep.m2 hS61))
      have hx78 := geti_set (x' := v43) hx56
      have hv79 := SlG.toN hv76
      have e80 := some_inj hF57
      exact hN27 _ _ _ e80.symm ⟨c75, f35, f36, rfl, hv79, (Sep.dc (Sep.m1 hS77))⟩
    rw [iteF hc39] at hF24
    simp only [run_exit, out_code, out_nil, B0, reduceIte, reduceEqDiff]
    have e81 := some_inj hF24
    exact hK28 _ _ _ e81.symm ⟨c16, f35, f36, f37, hv17, hS34⟩
  rintro ⟨s83, s84⟩ fr87 h88 rfl ⟨c85, f90, f91, f92, hv86, hS89⟩
  dsimp only [jnO] at hk23
  dsimp only at *
  unfold laws_toReplicaS_j1 at hk23
  simp only [run_seq, run_reg, f91, run_mv, run_ops_nil, run_ret, B0, reduceIte, reduceEqDiff]
  have he := some_inj hk23
  subst he
  simp only [end_ret1, B0, reduceIte, reduceEqDiff]
  exact ⟨v4, c85, by first | trivial | rfl, hv86, hS89⟩
theorem laws_toGroup_x {W : Nat → Bool} {h : Heap} (hW : ∀ b,
    (geL h.length) b → W b = true) (k : Nat) (a_0 : Group) (r : Group) (hF : laws_toGroup k a_0 = some r) : Ret E W 10 [.agg [.int .i64 a_0.Epoch, .int .i64 a_0.Leader,
    lst cI a_0.InStep, .int .i64 a_0.High, lst Replica.cells a_0.Replicas]] h (fun v h' => ∃ rv0_2 rc0_2 rv0_4 rc0_4, v = .agg [.int .i64 r.Epoch, .int .i64 r.Leader, rv0_2,
    .int .i64 r.High, rv0_4] ∧ SlF cI 1 3 rv0_2 r.InStep rc0_2 ∧ SlN Replica.R 3 51 rv0_4 r.Replicas rc0_4 ∧ Sep h' (geL h.length) (rc0_2 ++ (rc0_4 ++ ([])))) := by
  refine Ret.of (fn := x10) rfl (Run.of ?_)
  unfold laws_toGroup at hF
  have zf0 : argFr [.agg [.int .i64 a_0.Epoch, .int .i64 a_0.Leader, lst cI a_0.InStep, .int .i64 a_0.High, lst Replica.cells a_0.Replicas]] 0 = .agg [.int .i64 a_0.Epoch,
      .int .i64 a_0.Leader, lst cI a_0.InStep, .int .i64 a_0.High, lst Replica.cells a_0.Replicas] := rfl
  generalize argFr [.agg [.int .i64 a_0.Epoch, .int .i64 a_0.Leader, lst cI a_0.InStep, .int .i64 a_0.High, lst Replica.cells a_0.Replicas]] = fr0 at zf0 ⊢
  have hS : Sep h (geL h.length) [] := Sep.nil h
  simp only [x10, run_seq, run_reg, run_box, zf0, B0, reduceIte, reduceEqDiff]
  refine put2_boxC (cs := [.int .i64 a_0.Epoch, .int .i64 a_0.Leader, lst cI a_0.InStep, .int .i64 a_0.High, lst Replica.cells a_0.Replicas]) hS rfl rfl rfl (fun b1 h2 hS3 => ?_)
  simp only [run_new, B0, reduceIte, reduceEqDiff]
  refine put2_newC hS3 (fun b5 h6 hS7 => ?_)
  simp only [run_ops_nil, B0, reduceIte, reduceEqDiff]
  refine frz_stepC (Sep.m1 hS7) hW (by simp only [B0, reduceIte, reduceEqDiff]) (fun h9 hS10 => ?_)
  simp only [run_frz_nil, x10_6, run_seq, run_reg, run_new, B0, reduceIte, reduceEqDiff]
  refine put2_newC hS10 (fun b11 h12 hS13 => ?_)
  simp only [run_ops_nil, x10_5, run_seq, run_reg, run_fa, put1_some, Nat.reduceAdd, Nat.zero_add, Nat.add_zero, xfa_ref, run_ld, B0, reduceIte, reduceEqDiff]
  refine put1_eq (v := .int .i64 a_0.Epoch) rfl ?_
  simp only [run_fa, put1_some, Nat.reduceAdd, Nat.zero_add, Nat.add_zero, xfa_ptr, run_st, B0, reduceIte, reduceEqDiff]
  refine put2_stCx (us := [.int .i64 a_0.Epoch]) rfl (cs' := [.int .i64 a_0.Epoch, .int .i64 0, .nil, .int .i64 0,
      .nil]) hS13 hW rfl rfl (Nat.le_of_ble_eq_true rfl) rfl (fun h15 hS16 => ?_)
  simp only [run_ops_nil, x10_4, run_seq, run_reg, run_fa, put1_some, Nat.reduceAdd, Nat.zero_add, Nat.add_zero, xfa_ref, run_ld, B0, reduceIte, reduceEqDiff]
  refine put1_eq (v := .int .i64 a_0.Leader) rfl ?_
  simp only [run_fa, put1_some, Nat.reduceAdd, Nat.zero_add, Nat.add_zero, xfa_ptr, run_st, B0, reduceIte, reduceEqDiff]
  refine put2_stCx (us := [.int .i64 a_0.Leader]) rfl (cs' := [.int .i64 a_0.Epoch, .int .i64 a_0.Leader, .nil, .int .i64 0,
      .nil]) hS16 hW rfl rfl (Nat.le_of_ble_eq_true rfl) rfl (fun h17 hS18 => ?_)
  simp only [run_ops_nil, x10_3, run_seq, run_reg, run_fa, put1_some, Nat.reduceAdd, Nat.zero_add, Nat.add_zero, xfa_ref, run_ld, B0, reduceIte, reduceEqDiff]
  refine put1_eq (v := lst cI a_0.InStep) rfl ?_
  obtain ⟨v19, hx20, hF21⟩ := bind_some' hF
  simp only [run_call, B0, reduceIte, reduceEqDiff]
  refine call2 rfl hS18 (mapM1 snap_lst mapM0) (laws_toIntS_x (fun b hb => decide_eq_true hb) k a_0.InStep v19 hx20) ?_
  rintro v22 h26 ⟨_, c23, rfl, hv24, hS27⟩
  refine ⟨_, free_1 (SlF.free1 hv24), hS27, (pf_app (SlF.pf hv24 (fun _ => rfl)) pf_nil), fun h28 hS29 => ?_⟩
  have hS30 : Sep h28 (geL h.length) (c23 ++ ([Blk1 b11 [.int .i64 a_0.Epoch, .int .i64 a_0.Leader, .nil, .int .i64 0, .nil] 29] ++ ([Blk1 b5 [.int .i64 0, .int .i64 0, .nil,
      .int .i64 0, .nil] 29] ++ ([])))) := by simpa only [List.append_assoc, List.nil_append] using hS29
  simp only [run_fa, put1_some, Nat.reduceAdd, Nat.zero_add, Nat.add_zero, xfa_ptr, run_st, B0, reduceIte, reduceEqDiff]
  refine put2_stCx (us := [v22]) (cells_one (SlF.one hv24)) (cs' := [.int .i64 a_0.Epoch, .int .i64 a_0.Leader, v22, .int .i64 0,
      .nil]) (Sep.m1 hS30) hW rfl (all_c (SlF.one hv24) all_n) (Nat.le_of_ble_eq_true rfl) rfl (fun h31 hS32 => ?_)
  simp only [run_ops_nil, x10_2, run_seq, run_reg, run_fa, put1_some, Nat.reduceAdd, Nat.zero_add, Nat.add_zero, xfa_ref, run_ld, B0, reduceIte, reduceEqDiff]
  refine put1_eq (v := .int .i64 a_0.High) rfl ?_
  simp only [run_fa, put1_some, Nat.reduceAdd, Nat.zero_add, Nat.add_zero, xfa_ptr, run_st, B0, reduceIte, reduceEqDiff]
  refine put2_stCx (us := [.int .i64 a_0.High]) rfl (cs' := [.int .i64 a_0.Epoch, .int .i64 a_0.Leader, v22, .int .i64 a_0.High,
      .nil]) hS32 hW rfl rfl (Nat.le_of_ble_eq_true rfl) rfl (fun h33 hS34 => ?_)
  simp only [run_ops_nil, x10_1, run_seq, run_reg, run_fa, put1_some, Nat.reduceAdd, Nat.zero_add, Nat.add_zero, xfa_ref, run_ld, B0, reduceIte, reduceEqDiff]
  refine put1_eq (v := lst Replica.cells a_0.Replicas) rfl ?_
  obtain ⟨v35, hx36, hF37⟩ := bind_some' hF21
  simp only [run_call, B0, reduceIte, reduceEqDiff]
  refine call2 rfl hS34 (mapM1 snap_lst mapM0) (laws_toReplicaS_x (fun b hb => decide_eq_true hb) k a_0.Replicas v35 hx36) ?_
  rintro v38 h42 ⟨_, c39, rfl, hv40, hS43⟩
  refine ⟨_, free_1 (SlN.free1 hv40), hS43, (pf_app (SlN.pf hv40 Replica.RO) pf_nil), fun h44 hS45 => ?_⟩
  have hS46 : Sep h44 (geL h.length) (c39 ++ ([Blk1 b11 [.int .i64 a_0.Epoch, .int .i64 a_0.Leader, v22, .int .i64 a_0.High, .nil] 29] ++ (c23 ++ ([Blk1 b5 [.int .i64 0,
      .int .i64 0, .nil, .int .i64 0, .nil] 29] ++ ([]))))) := by simpa only [List.append_assoc, List.nil_append] using hS45
  simp only [run_fa, put1_some, Nat.reduceAdd, Nat.zero_add, Nat.add_zero, xfa_ptr, run_st, B0, reduceIte, reduceEqDiff]
  refine put2_stCx (us := [v38]) (cells_one (SlN.one hv40)) (cs' := [.int .i64 a_0.Epoch, .int .i64 a_0.Leader, v22, .int .i64 a_0.High,
      v38]) (Sep.m1 hS46) hW rfl (all_c (SlN.one hv40) all_n) (Nat.le_of_ble_eq_true rfl) rfl (fun h47 hS48 => ?_)
  simp only [run_ops_nil, run_seq, run_reg, run_ld, B0, reduceIte, reduceEqDiff]
  refine put1_eq (v := .agg [.int .i64 a_0.Epoch, .int .i64 a_0.Leader, v22, .int .i64 a_0.High, v38]) ((xld_bs (Sep.bk _ _ _ hS48)).trans rfl) ?_
  simp only [run_st, B0, reduceIte, reduceEqDiff]
  refine put2_stCx (us := [.int .i64 a_0.Epoch, .int .i64 a_0.Leader, v22, .int .i64 a_0.High, v38]) rfl (cs' := [.int .i64 a_0.Epoch, .int .i64 a_0.Leader, v22,
      .int .i64 a_0.High, v38]) (Sep.m3 hS48) hW rfl (all_c rfl (all_c rfl (all_c (SlF.one hv24) (all_c rfl (all_c (SlN.one hv40) all_n))))) (Nat.le_of_ble_eq_true rfl) rfl
      (fun h49 hS50 => ?_)
  simp only [run_ops_nil, run_ret, B0, reduceIte, reduceEqDiff]
  have he := some_inj hF37
  subst he
  refine end_ret_cell (bb := b5) (oo := 0) (v := .agg [.int .i64 a_0.Epoch, .int .i64 a_0.Leader, v22, .int .i64 a_0.High, v38]) (by simp only [B0, reduceIte,
      reduceEqDiff]) ((xld_bs (Sep.bk _ _ _ hS50)).trans rfl) ?_
  exact ⟨v22, c23, v38, c39, by first | trivial | rfl, hv24, hv40, (Sep.m1 (Sep.dc ((Sep.dc (hS50)))))⟩
theorem laws_eqIntS_x {W : Nat → Bool} {h : Heap} (hW : ∀ b,
    (geL h.length) b → W b = true) (k : Nat) (a_0 : List Int) (b_1 : List Int) (r : Bool) (hF : laws_eqIntS k a_0 b_1 = some r) : Ret E W 56 [lst cI a_0,
    lst cI b_1] h (fun v h' => cut h.length h' E.sz false 9 v = some (.bool r)) := by
  refine Ret.of (fn := x56) rfl (Run.of ?_)
  unfold laws_eqIntS at hF
  have zf0 : argFr [lst cI a_0, lst cI b_1] 0 = lst cI a_0 := rfl
  have zf1 : argFr [lst cI a_0, lst cI b_1] 1 = lst cI b_1 := rfl
  generalize argFr [lst cI a_0, lst cI b_1] = fr0 at zf0 zf1 ⊢
  have hS : Sep h (geL h.length) [] := Sep.nil h
  simp only [x56, run_seq, run_reg, run_mv, run_ops_nil, x56_7, zf0, run_len, put1_some, xlen_lst, zf1, run_bin, xneq, run_cond, B0, reduceIte, reduceEqDiff]
  refine cond_split (t := (decide ((List.length a_0 : Int) ≠ (List.length b_1 : Int)))) (fun hc1 => ?_) (fun hc1 => ?_)
  · rw [iteT hc1] at hF
    simp only [run_seq, run_reg, run_mv, run_ops_nil, run_ret, B0, reduceIte, reduceEqDiff]
    have he := some_inj hF
    subst he
    simp only [end_ret1, B0, reduceIte, reduceEqDiff]
    exact rfl
  rw [iteF hc1] at hF
  simp only [run_skip, x56_6, run_seq, run_reg, run_mv, run_ops_nil, B0, reduceIte, reduceEqDiff]
  obtain ⟨oc6, hX8, hk9⟩ := jn_some hF
  simp only [x56_5]
  refine loopF_j (σ := Int) (fun s38 => laws_eqIntS_b1 a_0 b_1 s38) (fun s fr' h' => fr' 0 = lst cI a_0 ∧ fr' 1 = lst cI b_1 ∧ fr' 5 = .int .i64 s ∧ Sep h' (geL h.length)
      ([])) hX8 ⟨zf0, zf1, rfl, hS⟩ (fun _ _ _ h => h) ?_ ?_
  · rintro s3 fr18 h19 ⟨f21, f22, f23, hS20⟩ oc7 hF10 hr11 Q12 hN13 hK14 hR15 hE16
    unfold laws_eqIntS_b1 at hF10
    simp only [x56_3, run_seq, run_reg, f23, run_mv, f21, run_len, put1_some, xlen_lst, run_bin, xlss, run_ops_nil, run_cond, B0, reduceIte, reduceEqDiff]
    refine cond_split (t := (decide (s3 < (List.length a_0 : Int)))) (fun hc25 => ?_) (fun hc25 => ?_)
    · rw [iteT hc25] at hF10
      obtain ⟨x26, hx27, hF28⟩ := bind_some' hF10
      simp only [run_skip, x56_2, run_seq, run_block, x56_1, run_draw, f21, d4_mv, put1d_some, f23, d4_ia, B0, reduceIte, reduceEqDiff]
      refine put1d_eq (v := .ref (cI x26) 0) (xia_lst hx27 rfl) ?_
      simp only [d4_ld, B0, reduceIte, reduceEqDiff]
      refine put1d_eq (v := .int .i64 x26) rfl ?_
      obtain ⟨x29, hx30, hF31⟩ := bind_some' hF28
      simp only [f22, d4_mv, put1d_some, f23, d4_ia, B0, reduceIte, reduceEqDiff]
      refine put1d_eq (v := .ref (cI x29) 0) (xia_lst hx30 rfl) ?_
      simp only [d4_ld, B0, reduceIte, reduceEqDiff]
      refine put1d_eq (v := .int .i64 x29) rfl ?_
      simp only [d4_bin, put1d_some, xneq, run_draw_nil, run_cond, B0, reduceIte, reduceEqDiff]
      refine cond_split (t := (decide (x26 ≠ x29))) (fun hc32 => ?_) (fun hc32 => ?_)
      · rw [iteT hc32] at hF31
        simp only [run_seq, run_reg, run_mv, run_ops_nil, run_ret, B0, reduceIte, reduceEqDiff]
        have e33 := some_inj hF31
        subst e33
        have ho34 := hr11 _ rfl
        have hk35 := hk9
        rw [ho34] at hk35
        dsimp only [jnO] at hk35
        apply hR15
        have he := some_inj hk35
        subst he
        simp only [end_ret1, B0, reduceIte, reduceEqDiff]
        exact rfl
      rw [iteF hc32] at hF31
      simp only [run_skip, run_blk, run_reg, f23, run_mv, run_bin, put1_some, xadd, run_ops_nil, run_nil, B0, reduceIte, reduceEqDiff]
      have e36 := some_inj hF31
      exact hN13 _ _ _ e36.symm ⟨f21, f22, rfl, hS20⟩
    rw [iteF hc25] at hF10
    simp only [run_exit, out_code, out_nil, B0, reduceIte, reduceEqDiff]
    have e37 := some_inj hF10
    exact hK14 _ _ _ e37.symm ⟨f21, f22, f23, hS20⟩
  rintro s39 fr40 h41 rfl ⟨f43, f44, f45, hS42⟩
  dsimp only [jnO] at hk9
  unfold laws_eqIntS_j1 at hk9
  simp only [run_seq, run_reg, run_mv, run_ops_nil, run_ret, B0, reduceIte, reduceEqDiff]
  have he := some_inj hk9
  subst he
  simp only [end_ret1, B0, reduceIte, reduceEqDiff]
  exact rfl
theorem laws_eqRow_x {W : Nat → Bool} {h : Heap} (hW : ∀ b,
    (geL h.length) b → W b = true) (a_0 : Row) (b_1 : Row) (r : Bool) (hF : laws_eqRow a_0 b_1 = some r) : Ret E W 101 [.agg [.int .i64 a_0.Epoch, .int .i64 a_0.Value],
    .agg [.int .i64 b_1.Epoch, .int .i64 b_1.Value]] h (fun v h' => cut h.length h' E.sz false 9 v = some (.bool r)) := by
  refine Ret.of (fn := x101) rfl (Run.of ?_)
  unfold laws_eqRow at hF
  have zf0 : argFr [.agg [.int .i64 a_0.Epoch, .int .i64 a_0.Value], .agg [.int .i64 b_1.Epoch, .int .i64 b_1.Value]] 0 = .agg [.int .i64 a_0.Epoch, .int .i64 a_0.Value] := rfl
  have zf1 : argFr [.agg [.int .i64 a_0.Epoch, .int .i64 a_0.Value], .agg [.int .i64 b_1.Epoch, .int .i64 b_1.Value]] 1 = .agg [.int .i64 b_1.Epoch, .int .i64 b_1.Value] := rfl
  generalize argFr [.agg [.int .i64 a_0.Epoch, .int .i64 a_0.Value], .agg [.int .i64 b_1.Epoch, .int .i64 b_1.Value]] = fr0 at zf0 zf1 ⊢
  have hS : Sep h (geL h.length) [] := Sep.nil h
  simp only [x101, run_seq, run_reg, run_box, zf0, B0, reduceIte, reduceEqDiff]
  refine put2_boxC (cs := [.int .i64 a_0.Epoch, .int .i64 a_0.Value]) hS rfl rfl rfl (fun b1 h2 hS3 => ?_)
  simp only [run_box, zf1, B0, reduceIte, reduceEqDiff]
  refine put2_boxC (cs := [.int .i64 b_1.Epoch, .int .i64 b_1.Value]) hS3 rfl rfl rfl (fun b5 h6 hS7 => ?_)
  simp only [run_mv, run_ops_nil, B0, reduceIte, reduceEqDiff]
  refine frz_stepC (Sep.m1 hS7) hW (by simp only [B0, reduceIte, reduceEqDiff]) (fun h9 hS10 => ?_)
  refine frz_stepC hS10 hW (by simp only [B0, reduceIte, reduceEqDiff]) (fun h11 hS12 => ?_)
  simp only [run_frz_nil, x101_2, run_seq, run_reg, run_fa, put1_some, Nat.reduceAdd, Nat.zero_add, Nat.add_zero, xfa_ref, run_ld, B0, reduceIte, reduceEqDiff]
  refine put1_eq (v := .int .i64 a_0.Epoch) rfl ?_
  simp only [run_fa, put1_some, Nat.reduceAdd, Nat.zero_add, Nat.add_zero, xfa_ref, run_ld, B0, reduceIte, reduceEqDiff]
  refine put1_eq (v := .int .i64 b_1.Epoch) rfl ?_
  simp only [run_bin, put1_some, xneq, run_ops_nil, run_cond, B0, reduceIte, reduceEqDiff]
  refine cond_split (t := (decide (a_0.Epoch ≠ b_1.Epoch))) (fun hc13 => ?_) (fun hc13 => ?_)
  · rw [iteT hc13] at hF
    simp only [run_seq, run_reg, run_mv, run_ops_nil, run_ret, B0, reduceIte, reduceEqDiff]
    have he := some_inj hF
    subst he
    simp only [end_ret1, B0, reduceIte, reduceEqDiff]
    exact rfl
  rw [iteF hc13] at hF
  simp only [run_skip, x101_1, run_seq, run_reg, run_fa, put1_some, Nat.reduceAdd, Nat.zero_add, Nat.add_zero, xfa_ref, run_ld, B0, reduceIte, reduceEqDiff]
  refine put1_eq (v := .int .i64 a_0.Value) rfl ?_
  simp only [run_fa, put1_some, Nat.reduceAdd, Nat.zero_add, Nat.add_zero, xfa_ref, run_ld, B0, reduceIte, reduceEqDiff]
  refine put1_eq (v := .int .i64 b_1.Value) rfl ?_
  simp only [run_bin, put1_some, xneq, run_ops_nil, run_cond, B0, reduceIte, reduceEqDiff]
  refine cond_split (t := (decide (a_0.Value ≠ b_1.Value))) (fun hc14 => ?_) (fun hc14 => ?_)
  · rw [iteT hc14] at hF
    simp only [run_seq, run_reg, run_mv, run_ops_nil, run_ret, B0, reduceIte, reduceEqDiff]
    have he := some_inj hF
    subst he
    simp only [end_ret1, B0, reduceIte, reduceEqDiff]
    exact rfl
  rw [iteF hc14] at hF
  simp only [run_skip, run_seq, run_reg, run_mv, run_ops_nil, run_ret, B0, reduceIte, reduceEqDiff]
  have he := some_inj hF
  subst he
  simp only [end_ret1, B0, reduceIte, reduceEqDiff]
  exact rfl
theorem laws_eqRowS_x {W : Nat → Bool} {h : Heap} (hW : ∀ b,
    (geL h.length) b → W b = true) (k : Nat) (a_0 : List Row) (b_1 : List Row) (r : Bool) (hF : laws_eqRowS k a_0 b_1 = some r) : Ret E W 95 [lst Row.cells a_0,
    lst Row.cells b_1] h (fun v h' => cut h.length h' E.sz false 9 v = some (.bool r)) := by
  refine Ret.of (fn := x95) rfl (Run.of ?_)
  unfold laws_eqRowS at hF
  have zf0 : argFr [lst Row.cells a_0, lst Row.cells b_1] 0 = lst Row.cells a_0 := rfl
  have zf1 : argFr [lst Row.cells a_0, lst Row.cells b_1] 1 = lst Row.cells b_1 := rfl
  generalize argFr [lst Row.cells a_0, lst Row.cells b_1] = fr0 at zf0 zf1 ⊢
  have hS : Sep h (geL h.length) [] := Sep.nil h
  simp only [x95, run_seq, run_reg, run_mv, run_ops_nil, x95_7, zf0, run_len, put1_some, xlen_lst, zf1, run_bin, xneq, run_cond, B0, reduceIte, reduceEqDiff]
  refine cond_split (t := (decide ((List.length a_0 : Int) ≠ (List.length b_1 : Int)))) (fun hc1 => ?_) (fun hc1 => ?_)
  · rw [iteT hc1] at hF
    simp only [run_seq, run_reg, run_mv, run_ops_nil, run_ret, B0, reduceIte, reduceEqDiff]
    have he := some_inj hF
    subst he
    simp only [end_ret1, B0, reduceIte, reduceEqDiff]
    exact rfl
  rw [iteF hc1] at hF
  simp only [run_skip, x95_6, run_seq, run_reg, run_mv, run_ops_nil, B0, reduceIte, reduceEqDiff]
  obtain ⟨oc6, hX8, hk9⟩ := jn_some hF
  simp only [x95_5]
  refine loopF_j (σ := Int) (fun s41 => laws_eqRowS_b1 a_0 b_1 s41) (fun s fr' h' => fr' 0 = lst Row.cells a_0 ∧ fr' 1 = lst Row.cells b_1 ∧ fr' 5 = .int .i64 s ∧ Sep h'
      (geL h.length) ([])) hX8 ⟨zf0, zf1, rfl, hS⟩ (fun _ _ _ h => h) ?_ ?_
  · rintro s3 fr18 h19 ⟨f21, f22, f23, hS20⟩ oc7 hF10 hr11 Q12 hN13 hK14 hR15 hE16
    unfold laws_eqRowS_b1 at hF10
    simp only [x95_3, run_seq, run_reg, f23, run_mv, f21, run_len, put1_some, xlen_lst, run_bin, xlss, run_ops_nil, run_cond, B0, reduceIte, reduceEqDiff]
    refine cond_split (t := (decide (s3 < (List.length a_0 : Int)))) (fun hc25 => ?_) (fun hc25 => ?_)
    · rw [iteT hc25] at hF10
      obtain ⟨x26, hx27, hF28⟩ := bind_some' hF10
      simp only [run_skip, x95_2, run_seq, run_block, x95_1, run_draw, f21, d4_mv, put1d_some, f23, d4_ia, B0, reduceIte, reduceEqDiff]
      refine put1d_eq (v := .ref (Row.cells x26) 0) (xia_lst hx27 rfl) ?_
      simp only [d4_ld, B0, reduceIte, reduceEqDiff]
      refine put1d_eq (v := .agg [.int .i64 x26.Epoch, .int .i64 x26.Value]) rfl ?_
      obtain ⟨x29, hx30, hF31⟩ := bind_some' hF28
      simp only [f22, d4_mv, put1d_some, f23, d4_ia, B0, reduceIte, reduceEqDiff]
      refine put1d_eq (v := .ref (Row.cells x29) 0) (xia_lst hx30 rfl) ?_
      simp only [d4_ld, B0, reduceIte, reduceEqDiff]
      refine put1d_eq (v := .agg [.int .i64 x29.Epoch, .int .i64 x29.Value]) rfl ?_
      obtain ⟨v32, hx33, hF34⟩ := bind_some' hF31
      simp only [run_d3_call, B0, reduceIte, reduceEqDiff]
      refine call1d rfl (mapM1 (snap_agg (mapM1 snap_int (mapM1 snap_int mapM0))) (mapM1 (snap_agg (mapM1 snap_int (mapM1 snap_int mapM0))) mapM0)) (laws_eqRow_x
          (fun b hb => decide_eq_true hb) x26 x29 v32 hx33) ?_
      simp only [d4_un, put1d_some, xnot, run_draw_nil, run_cond, B0, reduceIte, reduceEqDiff]
      refine cond_split (t := (!v32)) (fun hc35 => ?_) (fun hc35 => ?_)
      · rw [iteT hc35] at hF34
        simp only [run_seq, run_reg, run_mv, run_ops_nil, run_ret, B0, reduceIte, reduceEqDiff]
        have e36 := some_inj hF34
        subst e36
        have ho37 := hr11 _ rfl
        have hk38 := hk9
        rw [ho37] at hk38
        dsimp only [jnO] at hk38
        apply hR15
        have he := some_inj hk38
        subst he
        simp only [end_ret1, B0, reduceIte, reduceEqDiff]
        exact rfl
      rw [iteF hc35] at hF34
      simp only [run_skip, run_blk, run_reg, f23, run_mv, run_bin, put1_some, xadd, run_ops_nil, run_nil, B0, reduceIte, reduceEqDiff]
      have e39 := some_inj hF34
      exact hN13 _ _ _ e39.symm ⟨f21, f22, rfl, hS20⟩
    rw [iteF hc25] at hF10
    simp only [run_exit, out_code, out_nil, B0, reduceIte, reduceEqDiff]
    have e40 := some_inj hF10
    exact hK14 _ _ _ e40.symm ⟨f21, f22, f23, hS20⟩
  rintro s42 fr43 h44 rfl ⟨f46, f47, f48, hS45⟩
  dsimp only [jnO] at hk9
  unfold laws_eqRowS_j1 at hk9
  simp only [run_seq, run_reg, run_mv, run_ops_nil, run_ret, B0, reduceIte, reduceEqDiff]
  have he := some_inj hk9
  subst he
  simp only [end_ret1, B0, reduceIte, reduceEqDiff]
  exact rfl
theorem laws_eqReplica_x {W : Nat → Bool} {h : Heap} (hW : ∀ b,
    (geL h.length) b → W b = true) (k : Nat) (a_0 : Replica) (b_1 : Replica) (r : Bool) (hF : laws_eqReplica k a_0 b_1 = some r) : Ret E W 83 [.agg [lst Row.cells a_0.Log,
    .int .i64 a_0.Epoch, .int .i64 a_0.Known], .agg [lst Row.cells b_1.Log, .int .i64 b_1.Epoch,
    .int .i64 b_1.Known]] h (fun v h' => cut h.length h' E.sz false 9 v = some (.bool r)) := by
  refine Ret.of (fn := x83) rfl (Run.of ?_)
  unfold laws_eqReplica at hF
  have zf0 : argFr [.agg [lst Row.cells a_0.Log, .int .i64 a_0.Epoch, .int .i64 a_0.Known], .agg [lst Row.cells b_1.Log, .int .i64 b_1.Epoch,
      .int .i64 b_1.Known]] 0 = .agg [lst Row.cells a_0.Log, .int .i64 a_0.Epoch, .int .i64 a_0.Known] := rfl
  have zf1 : argFr [.agg [lst Row.cells a_0.Log, .int .i64 a_0.Epoch, .int .i64 a_0.Known], .agg [lst Row.cells b_1.Log, .int .i64 b_1.Epoch,
      .int .i64 b_1.Known]] 1 = .agg [lst Row.cells b_1.Log, .int .i64 b_1.Epoch, .int .i64 b_1.Known] := rfl
  generalize argFr [.agg [lst Row.cells a_0.Log, .int .i64 a_0.Epoch, .int .i64 a_0.Known], .agg [lst Row.cells b_1.Log, .int .i64 b_1.Epoch,
      .int .i64 b_1.Known]] = fr0 at zf0 zf1 ⊢
  have hS : Sep h (geL h.length) [] := Sep.nil h
  simp only [x83, run_seq, run_reg, run_box, zf0, B0, reduceIte, reduceEqDiff]
  refine put2_boxC (cs := [lst Row.cells a_0.Log, .int .i64 a_0.Epoch, .int .i64 a_0.Known]) hS rfl rfl rfl (fun b1 h2 hS3 => ?_)
  simp only [run_box, zf1, B0, reduceIte, reduceEqDiff]
  refine put2_boxC (cs := [lst Row.cells b_1.Log, .int .i64 b_1.Epoch, .int .i64 b_1.Known]) hS3 rfl rfl rfl (fun b5 h6 hS7 => ?_)
  simp only [run_mv, run_ops_nil, B0, reduceIte, reduceEqDiff]
  refine frz_stepC (Sep.m1 hS7) hW (by simp only [B0, reduceIte, reduceEqDiff]) (fun h9 hS10 => ?_)
  refine frz_stepC hS10 hW (by simp only [B0, reduceIte, reduceEqDiff]) (fun h11 hS12 => ?_)
  simp only [run_frz_nil, x83_3, run_seq, run_reg, run_fa, put1_some, Nat.reduceAdd, Nat.zero_add, Nat.add_zero, xfa_ref, run_ld, B0, reduceIte, reduceEqDiff]
  refine put1_eq (v := lst Row.cells a_0.Log) rfl ?_
  simp only [run_fa, put1_some, Nat.reduceAdd, Nat.zero_add, Nat.add_zero, xfa_ref, run_ld, B0, reduceIte, reduceEqDiff]
  refine put1_eq (v := lst Row.cells b_1.Log) rfl ?_
  obtain ⟨v13, hx14, hF15⟩ := bind_some' hF
  simp only [run_call, B0, reduceIte, reduceEqDiff]
  refine call1 rfl (mapM1 snap_lst (mapM1 snap_lst mapM0)) (laws_eqRowS_x (fun b hb => decide_eq_true hb) k a_0.Log b_1.Log v13 hx14) ?_
  simp only [run_un, put1_some, xnot, run_ops_nil, run_cond, B0, reduceIte, reduceEqDiff]
  refine cond_split (t := (!v13)) (fun hc16 => ?_) (fun hc16 => ?_)
  · rw [iteT hc16] at hF15
    simp only [run_seq, run_reg, run_mv, run_ops_nil, run_ret, B0, reduceIte, reduceEqDiff]
    have he := some_inj hF15
    subst he
    simp only [end_ret1, B0, reduceIte, reduceEqDiff]
    exact rfl
  rw [iteF hc16] at hF15
  simp only [run_skip, x83_2, run_seq, run_reg, run_fa, put1_some, Nat.reduceAdd, Nat.zero_add, Nat.add_zero, xfa_ref, run_ld, B0, reduceIte, reduceEqDiff]
  refine put1_eq (v := .int .i64 a_0.Epoch) rfl ?_
  simp only [run_fa, put1_some, Nat.reduceAdd, Nat.zero_add, Nat.add_zero, xfa_ref, run_ld, B0, reduceIte, reduceEqDiff]
  refine put1_eq (v := .int .i64 b_1.Epoch) rfl ?_
  simp only [run_bin, put1_some, xneq, run_ops_nil, run_cond, B0, reduceIte, reduceEqDiff]
  refine cond_split (t := (decide (a_0.Epoch ≠ b_1.Epoch))) (fun hc17 => ?_) (fun hc17 => ?_)
  · rw [iteT hc17] at hF15
    simp only [run_seq, run_reg, run_mv, run_ops_nil, run_ret, B0, reduceIte, reduceEqDiff]
    have he := some_inj hF15
    subst he
    simp only [end_ret1, B0, reduceIte, reduceEqDiff]
    exact rfl
  rw [iteF hc17] at hF15
  simp only [run_skip, x83_1, run_seq, run_reg, run_fa, put1_some, Nat.reduceAdd, Nat.zero_add, Nat.add_zero, xfa_ref, run_ld, B0, reduceIte, reduceEqDiff]
  refine put1_eq (v := .int .i64 a_0.Known) rfl ?_
  simp only [run_fa, put1_some, Nat.reduceAdd, Nat.zero_add, Nat.add_zero, xfa_ref, run_ld, B0, reduceIte, reduceEqDiff]
  refine put1_eq (v := .int .i64 b_1.Known) rfl ?_
  simp only [run_bin, put1_some, xneq, run_ops_nil, run_cond, B0, reduceIte, reduceEqDiff]
  refine cond_split (t := (decide (a_0.Known ≠ b_1.Known))) (fun hc18 => ?_) (fun hc18 => ?_)
  · rw [iteT hc18] at hF15
    simp only [run_seq, run_reg, run_mv, run_ops_nil, run_ret, B0, reduceIte, reduceEqDiff]
    have he := some_inj hF15
    subst he
    simp only [end_ret1, B0, reduceIte, reduceEqDiff]
    exact rfl
  rw [iteF hc18] at hF15
  simp only [run_skip, run_seq, run_reg, run_mv, run_ops_nil, run_ret, B0, reduceIte, reduceEqDiff]
  have he := some_inj hF15
  subst he
  simp only [end_ret1, B0, reduceIte, reduceEqDiff]
  exact rfl
end Go.Proofs.Ytefgfcalgjmhjaa.X
namespace Go.Proofs.Ytefgfcalgjmhjaa.X
open Go
open Nat (reduceEqDiff)
theorem laws_eqReplicaS_x {W : Nat → Bool} {h : Heap} (hW : ∀ b,
    (geL h.length) b → W b = true) (k : Nat) (a_0 : List Replica) (b_1 : List Replica) (r : Bool) (hF : laws_eqReplicaS k a_0 b_1 = some r) : Ret E W 57 [lst Replica.cells a_0,
    lst Replica.cells b_1] h (fun v h' => cut h.length h' E.sz false 9 v = some (.bool r)) := by
  refine Ret.of (fn := x57) rfl (Run.of ?_)
  unfold laws_eqReplicaS at hF
  have zf0 : argFr [lst Replica.cells a_0, lst Replica.cells b_1] 0 = lst Replica.cells a_0 := rfl
  have zf1 : argFr [lst Replica.cells a_0, lst Replica.cells b_1] 1 = lst Replica.cells b_1 := rfl
  generalize argFr [lst Replica.cells a_0, lst Replica.cells b_1] = fr0 at zf0 zf1 ⊢
  have hS : Sep h (geL h.length) [] := Sep.nil h
  simp only [x57, run_seq, run_reg, run_mv, run_ops_nil, x57_7, zf0, run_len, put1_some, xlen_lst, zf1, run_bin, xneq, run_cond, B0, reduceIte, reduceEqDiff]
  refine cond_split (t := (decide ((List.length a_0 : Int) ≠ (List.length b_1 : Int)))) (fun hc1 => ?_) (fun hc1 => ?_)
  · rw [iteT hc1] at hF
    simp only [run_seq, run_reg, run_mv, run_ops_nil, run_ret, B0, reduceIte, reduceEqDiff]
    have he := some_inj hF
    subst he
    simp only [end_ret1, B0, reduceIte, reduceEqDiff]
    exact rfl
  rw [iteF hc1] at hF
  simp only [run_skip, x57_6, run_seq, run_reg, run_mv, run_ops_nil, B0, reduceIte, reduceEqDiff]
  obtain ⟨oc6, hX8, hk9⟩ := jn_some hF
  simp only [x57_5]
  refine loopF_j (σ := Int) (fun s41 => laws_eqReplicaS_b1 k a_0 b_1 s41)
      (fun s fr' h' => fr' 0 = lst Replica.cells a_0 ∧ fr' 1 = lst Replica.cells b_1 ∧ fr' 5 = .int .i64 s ∧ Sep h' (geL h.length) ([])) hX8 ⟨zf0, zf1, rfl,
      hS⟩ (fun _ _ _ h => h) ?_ ?_
  · rintro s3 fr18 h19 ⟨f21, f22, f23, hS20⟩ oc7 hF10 hr11 Q12 hN13 hK14 hR15 hE16
    unfold laws_eqReplicaS_b1 at hF10
    simp only [x57_3, run_seq, run_reg, f23, run_mv, f21, run_len, put1_some, xlen_lst, run_bin, xlss, run_ops_nil, run_cond, B0, reduceIte, reduceEqDiff]
    refine cond_split (t := (decide (s3 < (List.length a_0 : Int)))) (fun hc25 => ?_) (fun hc25 => ?_)
    · rw [iteT hc25] at hF10
      obtain ⟨x26, hx27, hF28⟩ := bind_some' hF10
      simp only [run_skip, x57_2, run_seq, run_block, x57_1, run_draw, f21, d4_mv, put1d_some, f23, d4_ia, B0, reduceIte, reduceEqDiff]
      refine put1d_eq (v := .ref (Replica.cells x26) 0) (xia_lst hx27 rfl) ?_
      simp only [d4_ld, B0, reduceIte, reduceEqDiff]
      refine put1d_eq (v := .agg [lst Row.cells x26.Log, .int .i64 x26.Epoch, .int .i64 x26.Known]) rfl ?_
      obtain ⟨x29, hx30, hF31⟩ := bind_some' hF28
      simp only [f22, d4_mv, put1d_some, f23, d4_ia, B0, reduceIte, reduceEqDiff]
      refine put1d_eq (v := .ref (Replica.cells x29) 0) (xia_lst hx30 rfl) ?_
      simp only [d4_ld, B0, reduceIte, reduceEqDiff]
      refine put1d_eq (v := .agg [lst Row.cells x29.Log, .int .i64 x29.Epoch, .int .i64 x29.Known]) rfl ?_
      obtain ⟨v32, hx33, hF34⟩ := bind_some' hF31
      simp only [run_d3_call, B0, reduceIte, reduceEqDiff]
      refine call1d rfl (mapM1 (snap_agg (mapM1 snap_lst (mapM1 snap_int (mapM1 snap_int mapM0)))) (mapM1 (snap_agg (mapM1 snap_lst (mapM1 snap_int
          (mapM1 snap_int mapM0)))) mapM0)) (laws_eqReplica_x (fun b hb => decide_eq_true hb) k x26 x29 v32 hx33) ?_
      simp only [d4_un, put1d_some, xnot, run_draw_nil, run_cond, B0, reduceIte, reduceEqDiff]
      refine cond_split (t := (!v32)) (fun hc35 => ?_) (fun hc35 => ?_)
      · rw [iteT hc35] at hF34
        simp only [run_seq, run_reg, run_mv, run_ops_nil, run_ret, B0, reduceIte, reduceEqDiff]
        have e36 := some_inj hF34
        subst e36
        have ho37 := hr11 _ rfl
        have hk38 := hk9
        rw [ho37] at hk38
        dsimp only [jnO] at hk38
        apply hR15
        have he := some_inj hk38
        subst he
        simp only [end_ret1, B0, reduceIte, reduceEqDiff]
        exact rfl
      rw [iteF hc35] at hF34
      simp only [run_skip, run_blk, run_reg, f23, run_mv, run_bin, put1_some, xadd, run_ops_nil, run_nil, B0, reduceIte, reduceEqDiff]
      have e39 := some_inj hF34
      exact hN13 _ _ _ e39.symm ⟨f21, f22, rfl, hS20⟩
    rw [iteF hc25] at hF10
    simp only [run_exit, out_code, out_nil, B0, reduceIte, reduceEqDiff]
    have e40 := some_inj hF10
    exact hK14 _ _ _ e40.symm ⟨f21, f22, f23, hS20⟩
  rintro s42 fr43 h44 rfl ⟨f46, f47, f48, hS45⟩
  dsimp only [jnO] at hk9
  unfold laws_eqReplicaS_j1 at hk9
  simp only [run_seq, run_reg, run_mv, run_ops_nil, run_ret, B0, reduceIte, reduceEqDiff]
  have he := some_inj hk9
  subst he
  simp only [end_ret1, B0, reduceIte, reduceEqDiff]
  exact rfl
theorem laws_eqGroup_x {W : Nat → Bool} {h : Heap} (hW : ∀ b,
    (geL h.length) b → W b = true) (k : Nat) (a_0 : Group) (b_1 : Group) (r : Bool) (hF : laws_eqGroup k a_0 b_1 = some r) : Ret E W 12 [.agg [.int .i64 a_0.Epoch,
    .int .i64 a_0.Leader, lst cI a_0.InStep, .int .i64 a_0.High, lst Replica.cells a_0.Replicas], .agg [.int .i64 b_1.Epoch, .int .i64 b_1.Leader, lst cI b_1.InStep,
    .int .i64 b_1.High, lst Replica.cells b_1.Replicas]] h (fun v h' => cut h.length h' E.sz false 9 v = some (.bool r)) := by
  refine Ret.of (fn := x12) rfl (Run.of ?_)
  unfold laws_eqGroup at hF
  have zf0 : argFr [.agg [.int .i64 a_0.Epoch, .int .i64 a_0.Leader, lst cI a_0.InStep, .int .i64 a_0.High, lst Replica.cells a_0.Replicas], .agg [.int .i64 b_1.Epoch,
      .int .i64 b_1.Leader, lst cI b_1.InStep, .int .i64 b_1.High, lst Replica.cells b_1.Replicas]] 0 = .agg [.int .i64 a_0.Epoch, .int .i64 a_0.Leader, lst cI a_0.InStep,
      .int .i64 a_0.High, lst Replica.cells a_0.Replicas] := rfl
  have zf1 : argFr [.agg [.int .i64 a_0.Epoch, .int .i64 a_0.Leader, lst cI a_0.InStep, .int .i64 a_0.High, lst Replica.cells a_0.Replicas], .agg [.int .i64 b_1.Epoch,
      .int .i64 b_1.Leader, lst cI b_1.InStep, .int .i64 b_1.High, lst Replica.cells b_1.Replicas]] 1 = .agg [.int .i64 b_1.Epoch, .int .i64 b_1.Leader, lst cI b_1.InStep,
      .int .i64 b_1.High, lst Replica.cells b_1.Replicas] := rfl
  generalize argFr [.agg [.int .i64 a_0.Epoch, .int .i64 a_0.Leader, lst cI a_0.InStep, .int .i64 a_0.High, lst Replica.cells a_0.Replicas], .agg [.int .i64 b_1.Epoch,
      .int .i64 b_1.Leader, lst cI b_1.InStep, .int .i64 b_1.High, lst Replica.cells b_1.Replicas]] = fr0 at zf0 zf1 ⊢
  have hS : Sep h (geL h.length) [] := Sep.nil h
  simp only [x12, run_seq, run_reg, run_box, zf0, B0, reduceIte, reduceEqDiff]
  refine put2_boxC (cs := [.int .i64 a_0.Epoch, .int .i64 a_0.Leader, lst cI a_0.InStep, .int .i64 a_0.High, lst Replica.cells a_0.Replicas]) hS rfl rfl rfl (fun b1 h2 hS3 => ?_)
  simp only [run_box, zf1, B0, reduceIte, reduceEqDiff]
  refine put2_boxC (cs := [.int .i64 b_1.Epoch, .int .i64 b_1.Leader, lst cI b_1.InStep, .int .i64 b_1.High, lst Replica.cells b_1.Replicas]) hS3 rfl rfl rfl (fun b5 h6 hS7 => ?_)
  simp only [run_mv, run_ops_nil, B0, reduceIte, reduceEqDiff]
  refine frz_stepC (Sep.m1 hS7) hW (by simp only [B0, reduceIte, reduceEqDiff]) (fun h9 hS10 => ?_)
  refine frz_stepC hS10 hW (by simp only [B0, reduceIte, reduceEqDiff]) (fun h11 hS12 => ?_)
  simp only [run_frz_nil, x12_5, run_seq, run_reg, run_fa, put1_some, Nat.reduceAdd, Nat.zero_add, Nat.add_zero, xfa_ref, run_ld, B0, reduceIte, reduceEqDiff]
  refine put1_eq (v := .int .i64 a_0.Epoch) rfl ?_
  simp only [run_fa, put1_some, Nat.reduceAdd, Nat.zero_add, Nat.add_zero, xfa_ref, run_ld, B0, reduceIte, reduceEqDiff]
  refine put1_eq (v := .int .i64 b_1.Epoch) rfl ?_
  simp only [run_bin, put1_some, xneq, run_ops_nil, run_cond, B0, reduceIte, reduceEqDiff]
  refine cond_split (t := (decide (a_0.Epoch ≠ b_1.Epoch))) (fun hc13 => ?_) (fun hc13 => ?_)
  · rw [iteT hc13] at hF
    simp only [run_seq, run_reg, run_mv, run_ops_nil, run_ret, B0, reduceIte, reduceEqDiff]
    have he := some_inj hF
    subst he
    simp only [end_ret1, B0, reduceIte, reduceEqDiff]
    exact rfl
  rw [iteF hc13] at hF
  simp only [run_skip, x12_4, run_seq, run_reg, run_fa, put1_some, Nat.reduceAdd, Nat.zero_add, Nat.add_zero, xfa_ref, run_ld, B0, reduceIte, reduceEqDiff]
  refine put1_eq (v := .int .i64 a_0.Leader) rfl ?_
  simp only [run_fa, put1_some, Nat.reduceAdd, Nat.zero_add, Nat.add_zero, xfa_ref, run_ld, B0, reduceIte, reduceEqDiff]
  refine put1_eq (v := .int .i64 b_1.Leader) rfl ?_
  simp only [run_bin, put1_some, xneq, run_ops_nil, run_cond, B0, reduceIte, reduceEqDiff]
  refine cond_split (t := (decide (a_0.Leader ≠ b_1.Leader))) (fun hc14 => ?_) (fun hc14 => ?_)
  · rw [iteT hc14] at hF
    simp only [run_seq, run_reg, run_mv, run_ops_nil, run_ret, B0, reduceIte, reduceEqDiff]
    have he := some_inj hF
    subst he
    simp only [end_ret1, B0, reduceIte, reduceEqDiff]
    exact rfl
  rw [iteF hc14] at hF
  simp only [run_skip, x12_3, run_seq, run_reg, run_fa, put1_some, Nat.reduceAdd, Nat.zero_add, Nat.add_zero, xfa_ref, run_ld, B0, reduceIte, reduceEqDiff]
  refine put1_eq (v := lst cI a_0.InStep) rfl ?_
  simp only [run_fa, put1_some, Nat.reduceAdd, Nat.zero_add, Nat.add_zero, xfa_ref, run_ld, B0, reduceIte, reduceEqDiff]
  refine put1_eq (v := lst cI b_1.InStep) rfl ?_
  obtain ⟨v15, hx16, hF17⟩ := bind_some' hF
  simp only [run_call, B0, reduceIte, reduceEqDiff]
  refine call1 rfl (mapM1 snap_lst (mapM1 snap_lst mapM0)) (laws_eqIntS_x (fun b hb => decide_eq_true hb) k a_0.InStep b_1.InStep v15 hx16) ?_
  simp only [run_un, put1_some, xnot, run_ops_nil, run_cond, B0, reduceIte, reduceEqDiff]
  refine cond_split (t := (!v15)) (fun hc18 => ?_) (fun hc18 => ?_)
  · rw [iteT hc18] at hF17
    simp only [run_seq, run_reg, run_mv, run_ops_nil, run_ret, B0, reduceIte, reduceEqDiff]
    have he := some_inj hF17
    subst he
    simp only [end_ret1, B0, reduceIte, reduceEqDiff]
    exact rfl
  rw [iteF hc18] at hF17
  simp only [run_skip, x12_2, run_seq, run_reg, run_fa, put1_some, Nat.reduceAdd, Nat.zero_add, Nat.add_zero, xfa_ref, run_ld, B0, reduceIte, reduceEqDiff]
  refine put1_eq (v := .int .i64 a_0.High) rfl ?_
  simp only [run_fa, put1_some, Nat.reduceAdd, Nat.zero_add, Nat.add_zero, xfa_ref, run_ld, B0, reduceIte, reduceEqDiff]
  refine put1_eq (v := .int .i64 b_1.High) rfl ?_
  simp only [run_bin, put1_some, xneq, run_ops_nil, run_cond, B0, reduceIte, reduceEqDiff]
  refine cond_split (t := (decide (a_0.High ≠ b_1.High))) (fun hc19 => ?_) (fun hc19 => ?_)
  · rw [iteT hc19] at hF17
    simp only [run_seq, run_reg, run_mv, run_ops_nil, run_ret, B0, reduceIte, reduceEqDiff]
    have he := some_inj hF17
    subst he
    simp only [end_ret1, B0, reduceIte, reduceEqDiff]
    exact rfl
  rw [iteF hc19] at hF17
  simp only [run_skip, x12_1, run_seq, run_reg, run_fa, put1_some, Nat.reduceAdd, Nat.zero_add, Nat.add_zero, xfa_ref, run_ld, B0, reduceIte, reduceEqDiff]
  refine put1_eq (v := lst Replica.cells a_0.Replicas) rfl ?_
  simp only [run_fa, put1_some, Nat.reduceAdd, Nat.zero_add, Nat.add_zero, xfa_ref, run_ld, B0, reduceIte, reduceEqDiff]
  refine put1_eq (v := lst Replica.cells b_1.Replicas) rfl ?_
  obtain ⟨v20, hx21, hF22⟩ := bind_some' hF17
  simp only [run_call, B0, reduceIte, reduceEqDiff]
  refine call1 rfl (mapM1 snap_lst (mapM1 snap_lst mapM0)) (laws_eqReplicaS_x (fun b hb => decide_eq_true hb) k a_0.Replicas b_1.Replicas v20 hx21) ?_
  simp only [run_un, put1_some, xnot, run_ops_nil, run_cond, B0, reduceIte, reduceEqDiff]
  refine cond_split (t := (!v20)) (fun hc23 => ?_) (fun hc23 => ?_)
  · rw [iteT hc23] at hF22
    simp only [run_seq, run_reg, run_mv, run_ops_nil, run_ret, B0, reduceIte, reduceEqDiff]
    have he := some_inj hF22
    subst he
    simp only [end_ret1, B0, reduceIte, reduceEqDiff]
    exact rfl
  rw [iteF hc23] at hF22
  simp only [run_skip, run_seq, run_reg, run_mv, run_ops_nil, run_ret, B0, reduceIte, reduceEqDiff]
  have he := some_inj hF22
  subst he
  simp only [end_ret1, B0, reduceIte, reduceEqDiff]
  exact rfl
theorem laws_markIntS_x {W : Nat → Bool} {h : Heap} {lo : Nat → Prop} {S0 : List Obj} (hW : ∀ b,
    lo b → W b = true) (k : Nat) (pv0 : XV) (pc0 : List Obj) (a_0 : List Int) (ph0 : SlF cI 1 3 pv0 a_0 pc0) (k_1 : Int) (r : Int × (List Int))
    (hF : laws_markIntS k a_0 k_1 = some r) (hS : Sep h lo (pc0 ++ (S0))) : Ret E W 58 [pv0, .int .i64 k_1] h (fun v h' => ∃ ic0,
    v = .int .i64 r.1 ∧ SlF cI 1 3 pv0 r.2 ic0 ∧ Sep h' lo (ic0 ++ (S0))) := by
  refine Ret.of (fn := x58) rfl (Run.of ?_)
  unfold laws_markIntS at hF
  have zf0 : argFr [pv0, .int .i64 k_1] 0 = pv0 := rfl
  have zf1 : argFr [pv0, .int .i64 k_1] 1 = .int .i64 k_1 := rfl
  generalize argFr [pv0, .int .i64 k_1] = fr0 at zf0 zf1 ⊢
  simp only [x58, run_seq, run_reg, run_mv, run_ops_nil, x58_6, B0, reduceIte, reduceEqDiff]
  obtain ⟨oc13, hX15, hk16⟩ := jn_some hF
  simp only [x58_5]
  refine loopF_j (σ := Int × Int × (List Int)) (fun s45 => laws_markIntS_b1 s45.1 s45.2.1 s45.2.2) (fun s fr' h' => ∃ c9,
      fr' 0 = pv0 ∧ fr' 1 = .int .i64 s.1 ∧ fr' 5 = .int .i64 s.2.1 ∧ SlF cI 1 3 pv0 s.2.2 c9 ∧ Sep h' lo (c9 ++ (S0))) hX15 ⟨pc0, zf0, zf1, rfl, ph0, hS⟩ (fun _ _ _ h => h) ?_ ?_
  · rintro ⟨s6, s7, s8⟩ fr25 h26 ⟨c9, f28, f29, f30, hv10, hS27⟩ oc14 hF17 hr18 Q19 hN20 hK21 hR22 hE23
    dsimp only at *
    unfold laws_markIntS_b1 at hF17
    simp only [x58_3, run_seq, run_reg, f30, run_mv, f28, run_len, put1_some, SlF.plen hv10, run_bin, xlss, run_ops_nil, run_cond, B0, reduceIte, reduceEqDiff]
    refine cond_split (t := (decide (s7 < (List.length s8 : Int)))) (fun hc32 => ?_) (fun hc32 => ?_)
    · rw [iteT hc32] at hF17
      obtain ⟨x33, hx34, hF35⟩ := bind_some' hF17
      simp only [run_skip, x58_2, run_seq, run_block, x58_1, run_reg, f28, run_mv, f30, f29, run_ia, B0, reduceIte, reduceEqDiff]
      obtain ⟨b36, hb37⟩ := SlF.isrow hv10 (geti_ne hx34)
      refine put1_eq (SlF.ia hv10 hb37 hx34) ?_
      simp only [run_st, B0, reduceIte, reduceEqDiff]
      refine put2_stF (f := cI) (x' := s6) (o := 0) hv10 hS27 hW hb37 hx34 (fun _ => rfl) rfl rfl (Nat.le_of_ble_eq_true rfl) rfl (fun c40 h38 hv41 hS39 => ?_)
      have hx42 := geti_set (x' := s6) hx34
      simp only [run_ops_nil, run_reg, f29, run_mv, run_bin, put1_some, xadd, run_blk, f30, run_nil, B0, reduceIte, reduceEqDiff]
      have e43 := some_inj hF35
      exact hN20 _ _ _ e43.symm ⟨c40, f28, rfl, rfl, hv41, hS39⟩
    rw [iteF hc32] at hF17
    simp only [run_exit, out_code, out_nil, B0, reduceIte, reduceEqDiff]
    have e44 := some_inj hF17
    exact hK21 _ _ _ e44.symm ⟨c9, f28, f29, f30, hv10, hS27⟩
  rintro ⟨s46, s47, s48⟩ fr51 h52 rfl ⟨c49, f54, f55, f56, hv50, hS53⟩
  dsimp only [jnO] at hk16
  dsimp only at *
  unfold laws_markIntS_j1 at hk16
  simp only [run_seq, run_reg, f55, run_mv, run_ops_nil, run_ret, B0, reduceIte, reduceEqDiff]
  have he := some_inj hk16
  subst he
  simp only [end_ret1, B0, reduceIte, reduceEqDiff]
  exact ⟨c49, by first | trivial | rfl, hv50, hS53⟩
theorem laws_markRowS_x {W : Nat → Bool} {h : Heap} {lo : Nat → Prop} {S0 : List Obj} (hW : ∀ b,
    lo b → W b = true) (k : Nat) (pv0 : XV) (pc0 : List Obj) (a_0 : List Row) (ph0 : SlF Row.cells 2 98 pv0 a_0 pc0) (k_1 : Int) (r : Int × (List Row))
    (hF : laws_markRowS k a_0 k_1 = some r) (hS : Sep h lo (pc0 ++ (S0))) : Ret E W 84 [pv0, .int .i64 k_1] h (fun v h' => ∃ ic0,
    v = .int .i64 r.1 ∧ SlF Row.cells 2 98 pv0 r.2 ic0 ∧ Sep h' lo (ic0 ++ (S0))) := by
  refine Ret.of (fn := x84) rfl (Run.of ?_)
  unfold laws_markRowS at hF
  have zf0 : argFr [pv0, .int .i64 k_1] 0 = pv0 := rfl
  have zf1 : argFr [pv0, .int .i64 k_1] 1 = .int .i64 k_1 := rfl
  generalize argFr [pv0, .int .i64 k_1] = fr0 at zf0 zf1 ⊢
  simp only [x84, run_seq, run_reg, run_mv, run_ops_nil, x84_8, B0, reduceIte, reduceEqDiff]
  obtain ⟨oc13, hX15, hk16⟩ := jn_some hF
  simp only [x84_7]
  refine loopF_j (σ := Int × Int × (List Row)) (fun s50 => laws_markRowS_b1 s50.1 s50.2.1 s50.2.2) (fun s fr' h' => ∃ c9,
      fr' 0 = pv0 ∧ fr' 1 = .int .i64 s.1 ∧ fr' 5 = .int .i64 s.2.1 ∧ SlF Row.cells 2 98 pv0 s.2.2 c9 ∧ Sep h' lo (c9 ++ (S0))) hX15 ⟨pc0, zf0, zf1, rfl, ph0,
      hS⟩ (fun _ _ _ h => h) ?_ ?_
  · rintro ⟨s6, s7, s8⟩ fr25 h26 ⟨c9, f28, f29, f30, hv10, hS27⟩ oc14 hF17 hr18 Q19 hN20 hK21 hR22 hE23
    dsimp only at *
    unfold laws_markRowS_b1 at hF17
    simp only [x84_5, run_seq, run_reg, f30, run_mv, f28, run_len, put1_some, SlF.plen hv10, run_bin, xlss, run_ops_nil, run_cond, B0, reduceIte, reduceEqDiff]
    refine cond_split (t := (decide (s7 < (List.length s8 : Int)))) (fun hc32 => ?_) (fun hc32 => ?_)
    · rw [iteT hc32] at hF17
      obtain ⟨x33, hx34, hF35⟩ := bind_some' hF17
      simp only [run_skip, x84_4, run_seq, run_block, x84_3, run_reg, f28, run_mv, f30, f29, run_ia, B0, reduceIte, reduceEqDiff]
      obtain ⟨b36, hb37⟩ := SlF.isrow hv10 (geti_ne hx34)
      refine put1_eq (SlF.ia hv10 hb37 hx34) ?_
      simp only [run_fa, put1_some, Nat.reduceAdd, Nat.zero_add, Nat.add_zero, xfa_ptr, run_st, B0, reduceIte, reduceEqDiff]
      refine put2_stF (f := Row.cells) (x' := (Row.mk s6 x33.Value)) (o := 0) hv10 hS27 hW hb37 hx34 (fun _ => rfl) rfl rfl (Nat.le_of_ble_eq_true rfl) rfl
          (fun c40 h38 hv41 hS39 => ?_)
      have hx42 := geti_set (x' := (Row.mk s6 x33.Value)) hx34
      simp only [run_ops_nil, x84_2, run_seq, run_reg, f29, run_mv, run_bin, put1_some, xadd, x84_1, f28, f30, run_ia, B0, reduceIte, reduceEqDiff]
      refine put1_eq (SlF.ia hv41 hb37 hx42) ?_
      simp only [run_fa, put1_some, Nat.reduceAdd, Nat.zero_add, Nat.add_zero, xfa_ptr, run_st, B0, reduceIte, reduceEqDiff]
      refine put2_stF (f := Row.cells) (x' := (Row.mk s6 (IntKind.wrap .i64 (s6 + 1)))) (o := 1) hv41 hS39 hW hb37 hx42 (fun _ => rfl) rfl rfl (Nat.le_of_ble_eq_true rfl) rfl
          (fun c45 h43 hv46 hS44 => ?_)
      rw [List.set_set] at hv46
      have hx47 := geti_set (x' := (Row.mk s6 (IntKind.wrap .i64 (s6 + 1)))) hx34
      simp only [run_ops_nil, run_reg, run_mv, run_bin, put1_some, xadd, run_blk, f30, run_nil, B0, reduceIte, reduceEqDiff]
      have e48 := some_inj hF35
      exact hN20 _ _ _ e48.symm ⟨c45, f28, rfl, rfl, hv46, hS44⟩
    rw [iteF hc32] at hF17
    simp only [run_exit, out_code, out_nil, B0, reduceIte, reduceEqDiff]
    have e49 := some_inj hF17
    exact hK21 _ _ _ e49.symm ⟨c9, f28, f29, f30, hv10, hS27⟩
  rintro ⟨s51, s52, s53⟩ fr56 h57 rfl ⟨c54, f59, f60, f61, hv55, hS58⟩
  dsimp only [jnO] at hk16
  dsimp only at *
  unfold laws_markRowS_j1 at hk16
  simp only [run_seq, run_reg, f60, run_mv, run_ops_nil, run_ret, B0, reduceIte, reduceEqDiff]
  have he := some_inj hk16
  subst he
  simp only [end_ret1, B0, reduceIte, reduceEqDiff]
  exact ⟨c54, by first | trivial | rfl, hv55, hS58⟩
theorem laws_markReplicaS_x {W : Nat → Bool} {h : Heap} {lo : Nat → Prop} {S0 : List Obj} (hW : ∀ b,
    lo b → W b = true) (k : Nat) (pv0 : XV) (pc0 : List Obj) (a_0 : List Replica) (ph0 : SlN Replica.R 3 51 pv0 a_0 pc0) (k_1 : Int) (r : Int × (List Replica))
    (hF : laws_markReplicaS k a_0 k_1 = some r) (hS : Sep h lo (pc0 ++ (S0))) : Ret E W 59 [pv0, .int .i64 k_1] h (fun v h' => ∃ ic0,
    v = .int .i64 r.1 ∧ SlN Replica.R 3 51 pv0 r.2 ic0 ∧ Sep h' lo (ic0 ++ (S0))) := by
  refine Ret.of (fn := x59) rfl (Run.of ?_)
  unfold laws_markReplicaS at hF
  have zf0 : argFr [pv0, .int .i64 k_1] 0 = pv0 := rfl
  have zf1 : argFr [pv0, .int .i64 k_1] 1 = .int .i64 k_1 := rfl
  generalize argFr [pv0, .int .i64 k_1] = fr0 at zf0 zf1 ⊢
  simp only [x59, run_seq, run_reg, run_mv, run_ops_nil, x59_9, B0, reduceIte, reduceEqDiff]
  obtain ⟨oc13, hX15, hk16⟩ := jn_some hF
  simp only [x59_8]
  refine loopF_j (σ := Int × Int × (List Replica)) (fun s71 => laws_markReplicaS_b1 k s71.1 s71.2.1 s71.2.2) (fun s fr' h' => ∃ c9,
      fr' 0 = pv0 ∧ fr' 1 = .int .i64 s.1 ∧ fr' 5 = .int .i64 s.2.1 ∧ SlN Replica.R 3 51 pv0 s.2.2 c9 ∧ Sep h' lo (c9 ++ (S0))) hX15 ⟨pc0, zf0, zf1, rfl, ph0,
      hS⟩ (fun _ _ _ h => h) ?_ ?_
  · rintro ⟨s6, s7, s8⟩ fr25 h26 ⟨c9, f28, f29, f30, hv10, hS27⟩ oc14 hF17 hr18 Q19 hN20 hK21 hR22 hE23
    dsimp only at *
    unfold laws_markReplicaS_b1 at hF17
    simp only [x59_6, run_seq, run_reg, f30, run_mv, f28, run_len, put1_some, SlN.len hv10, run_bin, xlss, run_ops_nil, run_cond, B0, reduceIte, reduceEqDiff]
    refine cond_split (t := (decide (s7 < (List.length s8 : Int)))) (fun hc32 => ?_) (fun hc32 => ?_)
    · rw [iteT hc32] at hF17
      obtain ⟨x33, hx34, hF35⟩ := bind_some' hF17
      simp only [run_skip, x59_5, run_seq, run_block, x59_4, run_reg, f28, run_mv, f30, run_ia, B0, reduceIte, reduceEqDiff]
      obtain ⟨b36, hb37⟩ := SlN.isrow hv10 (geti_ne hx34)
      refine put1_eq (SlN.ia hv10 hb37 hx34) ?_
      obtain ⟨c38, cs39, os40, hv41, hR42, hS43⟩ := SlG.opn (SlN.toG hv10 hb37 Replica.RO.len) hx34 hk_nil Replica.RO.len hS27
      obtain ⟨v45, c46, hv47, rfl, rfl⟩ := hR42
      have hS44 := Sep.no1 hS43
      simp only [run_fa, put1_some, Nat.reduceAdd, Nat.zero_add, Nat.add_zero, xfa_ptr, run_ld, B0, reduceIte, reduceEqDiff]
      refine put1_eq (v := v45) ((SlG.ld (o := 0) hv41 rfl hx34 hS44 (Nat.le_of_ble_eq_true rfl)).trans rfl) ?_
      obtain ⟨v49, hx50, hF51⟩ := bind_some' hF35
      simp only [f29, run_mv, run_call, B0, reduceIte, reduceEqDiff]
      refine call0 rfl (laws_markRowS_x hW k v45 c46 x33.Log hv47 s6 v49 hx50 (Sep.m1 hS44)) ?_
      rintro _ h54 ⟨c52, rfl, hv53, hS55⟩
      simp only [run_mv, run_ops_nil, x59_3, run_seq, run_reg, f28, f30, run_ia, B0, reduceIte, reduceEqDiff]
      refine put1_eq (SlG.ia hv41 hx34) ?_
      simp only [run_fa, put1_some, Nat.reduceAdd, Nat.zero_add, Nat.add_zero, xfa_ptr, run_st, B0, reduceIte, reduceEqDiff]
      refine put2_stGx (us := [.int .i64 v49.1]) (o := 1) (cs' := [v45, .int .i64 v49.1,
          .int .i64 x33.Known]) rfl hv41 rfl hx34 (Sep.m1 hS55) hW rfl rfl (Nat.le_of_ble_eq_true rfl) rfl (fun c58 h56 hv59 hS57 => ?_)
      simp only [run_ops_nil, x59_2, run_seq, run_reg, run_mv, run_bin, put1_some, xadd, x59_1, f28, f30, run_ia, B0, reduceIte, reduceEqDiff]
      refine put1_eq (SlG.ia hv59 hx34) ?_
      simp only [run_fa, put1_some, Nat.reduceAdd, Nat.zero_add, Nat.add_zero, xfa_ptr, run_st, B0, reduceIte, reduceEqDiff]
      refine put2_stGx (us := [.int .i64 (IntKind.wrap .i64 (v49.1 + 1))]) (o := 2) (cs' := [v45, .int .i64 v49.1,
          .int .i64 (IntKind.wrap .i64 (v49.1 + 1))]) rfl hv59 rfl hx34 hS57 hW rfl rfl (Nat.le_of_ble_eq_true rfl) rfl (fun c62 h60 hv63 hS61 => ?_)
      simp only [run_ops_nil, run_reg, run_mv, run_bin, put1_some, xadd, run_blk, f30, run_nil, B0, reduceIte, reduceEqDiff]
      obtain ⟨c64, hv65, hS66⟩ := SlG.cls (e' := (Replica.mk v49.2 v49.1 (IntKind.wrap .i64 (v49.1 + 1)))) (c := c62) (os := c52) hv63 rfl hx34 hk_nil (Replica.RI (x :=
          (Replica.mk v49.2 v49.1 (IntKind.wrap .i64 (v49.1 + 1)))) hv53) (Sep.m1 (Sep.m1 hS61))
      have hx67 := geti_set (x' := (Replica.mk v49.2 v49.1 (IntKind.wrap .i64 (v49.1 + 1)))) hx34
      have hv68 := SlG.toN hv65
      have e69 := some_inj hF51
      exact hN20 _ _ _ e69.symm ⟨c64, f28, rfl, rfl, hv68, hS66⟩
    rw [iteF hc32] at hF17
    simp only [run_exit, out_code, out_nil, B0, reduceIte, reduceEqDiff]
    have e70 := some_inj hF17
    exact hK21 _ _ _ e70.symm ⟨c9, f28, f29, f30, hv10, hS27⟩
  rintro ⟨s72, s73, s74⟩ fr77 h78 rfl ⟨c75, f80, f81, f82, hv76, hS79⟩
  dsimp only [jnO] at hk16
  dsimp only at *
  unfold laws_markReplicaS_j1 at hk16
  simp only [run_seq, run_reg, f81, run_mv, run_ops_nil, run_ret, B0, reduceIte, reduceEqDiff]
  have he := some_inj hk16
  subst he
  simp only [end_ret1, B0, reduceIte, reduceEqDiff]
  exact ⟨c75, by first | trivial | rfl, hv76, hS79⟩
theorem laws_markGroup_x {W : Nat → Bool} {h : Heap} {lo : Nat → Prop} {S0 : List Obj} (hW : ∀ b,
    lo b → W b = true) (k : Nat) (a_0 : Group) (pv0_2 : XV) (pc0_2 : List Obj) (ph0_2 : SlF cI 1 3 pv0_2 a_0.InStep pc0_2) (pv0_4 : XV) (pc0_4 : List Obj)
    (ph0_4 : SlN Replica.R 3 51 pv0_4 a_0.Replicas pc0_4) (k_1 : Int) (r : Int × Group) (hF : laws_markGroup k a_0 k_1 = some r) (hS : Sep h lo (pc0_2 ++ (pc0_4 ++
    (S0)))) : Ret E W 13 [.agg [.int .i64 a_0.Epoch, .int .i64 a_0.Leader, pv0_2, .int .i64 a_0.High, pv0_4], .int .i64 k_1] h (fun v h' => ∃ ic0_2 ic0_4,
    v = .int .i64 r.1 ∧ SlF cI 1 3 pv0_2 r.2.InStep ic0_2 ∧ SlN Replica.R 3 51 pv0_4 r.2.Replicas ic0_4 ∧ Sep h' lo (ic0_2 ++ (ic0_4 ++ (S0)))) := by
  refine Ret.of (fn := x13) rfl (Run.of ?_)
  unfold laws_markGroup at hF
  have zf0 : argFr [.agg [.int .i64 a_0.Epoch, .int .i64 a_0.Leader, pv0_2, .int .i64 a_0.High, pv0_4], .int .i64 k_1] 0 = .agg [.int .i64 a_0.Epoch, .int .i64 a_0.Leader, pv0_2,
      .int .i64 a_0.High, pv0_4] := rfl
  have zf1 : argFr [.agg [.int .i64 a_0.Epoch, .int .i64 a_0.Leader, pv0_2, .int .i64 a_0.High, pv0_4], .int .i64 k_1] 1 = .int .i64 k_1 := rfl
  generalize argFr [.agg [.int .i64 a_0.Epoch, .int .i64 a_0.Leader, pv0_2, .int .i64 a_0.High, pv0_4], .int .i64 k_1] = fr0 at zf0 zf1 ⊢
  simp only [x13, run_seq, run_reg, run_box, zf0, B0, reduceIte, reduceEqDiff]
  refine put2_boxC (cs := [.int .i64 a_0.Epoch, .int .i64 a_0.Leader, pv0_2, .int .i64 a_0.High,
      pv0_4]) hS rfl rfl (all_c rfl (all_c rfl (all_c (SlF.one ph0_2) (all_c rfl (all_c (SlN.one ph0_4) all_n))))) (fun b1 h2 hS3 => ?_)
  simp only [run_mv, run_ops_nil, B0, reduceIte, reduceEqDiff]
  refine frz_stepC hS3 hW (by simp only [B0, reduceIte, reduceEqDiff]) (fun h5 hS6 => ?_)
  simp only [run_frz_nil, x13_2, run_seq, run_reg, run_fa, put1_some, Nat.reduceAdd, Nat.zero_add, Nat.add_zero, xfa_ref, run_ld, B0, reduceIte, reduceEqDiff]
  refine put1_eq (v := pv0_2) rfl ?_
  obtain ⟨v7, hx8, hF9⟩ := bind_some' hF
  simp only [zf1, run_mv, run_call, B0, reduceIte, reduceEqDiff]
  refine call0 rfl (laws_markIntS_x hW k pv0_2 pc0_2 a_0.InStep ph0_2 k_1 v7 hx8 hS6) ?_
  rintro _ h12 ⟨c10, rfl, hv11, hS13⟩
  simp only [run_mv, run_ops_nil, x13_1, run_seq, run_reg, run_fa, put1_some, Nat.reduceAdd, Nat.zero_add, Nat.add_zero, xfa_ref, run_ld, B0, reduceIte, reduceEqDiff]
  refine put1_eq (v := pv0_4) rfl ?_
  obtain ⟨v14, hx15, hF16⟩ := bind_some' hF9
  simp only [run_mv, run_call, B0, reduceIte, reduceEqDiff]
  refine call0 rfl (laws_markReplicaS_x hW k pv0_4 pc0_4 a_0.Replicas ph0_4 v7.1 v14 hx15 (Sep.m1 hS13)) ?_
  rintro _ h19 ⟨c17, rfl, hv18, hS20⟩
  simp only [run_mv, run_ops_nil, run_seq, run_reg, run_ret, B0, reduceIte, reduceEqDiff]
  have he := some_inj hF16
  subst he
  simp only [end_ret1, B0, reduceIte, reduceEqDiff]
  exact ⟨c10, c17, by first | trivial | rfl, hv11, hv18, (Sep.m1 hS20)⟩
theorem laws_heldIntS_x {W : Nat → Bool} {h : Heap} (hW : ∀ b,
    (geL h.length) b → W b = true) (k : Nat) (a_0 : List Int) (k_1 : Int) (r : Int) (hF : laws_heldIntS k a_0 k_1 = some r) : Ret E W 60 [lst cI a_0,
    .int .i64 k_1] h (fun v h' => cut h.length h' E.sz false 9 v = some (.int .i64 r)) := by
  refine Ret.of (fn := x60) rfl (Run.of ?_)
  unfold laws_heldIntS at hF
  have zf0 : argFr [lst cI a_0, .int .i64 k_1] 0 = lst cI a_0 := rfl
  have zf1 : argFr [lst cI a_0, .int .i64 k_1] 1 = .int .i64 k_1 := rfl
  generalize argFr [lst cI a_0, .int .i64 k_1] = fr0 at zf0 zf1 ⊢
  have hS : Sep h (geL h.length) [] := Sep.nil h
  simp only [x60, run_seq, run_reg, run_mv, run_ops_nil, x60_6, B0, reduceIte, reduceEqDiff]
  obtain ⟨oc7, hX9, hk10⟩ := jn_some hF
  simp only [x60_5]
  refine loopF_j (σ := Int × Int) (fun s36 => laws_heldIntS_b1 a_0 s36.1 s36.2) (fun s fr' h' => fr' 0 = lst cI a_0 ∧ fr' 1 = .int .i64 s.1 ∧ fr' 5 = .int .i64 s.2 ∧ Sep h'
      (geL h.length) ([])) hX9 ⟨zf0, zf1, rfl, hS⟩ (fun _ _ _ h => h) ?_ ?_
  · rintro ⟨s3, s4⟩ fr19 h20 ⟨f22, f23, f24, hS21⟩ oc8 hF11 hr12 Q13 hN14 hK15 hR16 hE17
    dsimp only at *
    unfold laws_heldIntS_b1 at hF11
    simp only [x60_3, run_seq, run_reg, f24, run_mv, f22, run_len, put1_some, xlen_lst, run_bin, xlss, run_ops_nil, run_cond, B0, reduceIte, reduceEqDiff]
    refine cond_split (t := (decide (s4 < (List.length a_0 : Int)))) (fun hc26 => ?_) (fun hc26 => ?_)
    · rw [iteT hc26] at hF11
      obtain ⟨x27, hx28, hF29⟩ := bind_some' hF11
      simp only [run_skip, x60_2, run_seq, run_block, x60_1, run_reg, f22, run_mv, f24, run_ia, B0, reduceIte, reduceEqDiff]
      refine put1_eq (v := .ref (cI x27) 0) (xia_lst hx28 rfl) ?_
      simp only [run_ld, B0, reduceIte, reduceEqDiff]
      refine put1_eq (v := .int .i64 x27) rfl ?_
      simp only [f23, run_mv, run_bin, put1_some, xneq, run_ops_nil, run_cond, B0, reduceIte, reduceEqDiff]
      refine cond_split (t := (decide (x27 ≠ s3))) (fun hc30 => ?_) (fun hc30 => ?_)
      · rw [iteT hc30] at hF29
        simp only [run_seq, run_reg, run_mv, run_ops_nil, run_ret, B0, reduceIte, reduceEqDiff]
        have e31 := some_inj hF29
        subst e31
        have ho32 := hr12 _ rfl
        have hk33 := hk10
        rw [ho32] at hk33
        dsimp only [jnO] at hk33
        apply hR16
        have he := some_inj hk33
        subst he
        simp only [end_ret1, B0, reduceIte, reduceEqDiff]
        exact rfl
      rw [iteF hc30] at hF29
      simp only [run_skip, run_reg, f23, run_mv, run_bin, put1_some, xadd, run_ops_nil, run_blk, f24, run_nil, B0, reduceIte, reduceEqDiff]
      have e34 := some_inj hF29
      exact hN14 _ _ _ e34.symm ⟨f22, rfl, rfl, hS21⟩
    rw [iteF hc26] at hF11
    simp only [run_exit, out_code, out_nil, B0, reduceIte, reduceEqDiff]
    have e35 := some_inj hF11
    exact hK15 _ _ _ e35.symm ⟨f22, f23, f24, hS21⟩
  rintro ⟨s37, s38⟩ fr39 h40 rfl ⟨f42, f43, f44, hS41⟩
  dsimp only [jnO] at hk10
  dsimp only at *
  unfold laws_heldIntS_j1 at hk10
  simp only [run_seq, run_reg, f43, run_mv, run_ops_nil, run_ret, B0, reduceIte, reduceEqDiff]
  have he := some_inj hk10
  subst he
  simp only [end_ret1, B0, reduceIte, reduceEqDiff]
  exact rfl
theorem laws_heldRowS_x {W : Nat → Bool} {h : Heap} (hW : ∀ b,
    (geL h.length) b → W b = true) (k : Nat) (a_0 : List Row) (k_1 : Int) (r : Int) (hF : laws_heldRowS k a_0 k_1 = some r) : Ret E W 85 [lst Row.cells a_0,
    .int .i64 k_1] h (fun v h' => cut h.length h' E.sz false 9 v = some (.int .i64 r)) := by
  refine Ret.of (fn := x85) rfl (Run.of ?_)
  unfold laws_heldRowS at hF
  have zf0 : argFr [lst Row.cells a_0, .int .i64 k_1] 0 = lst Row.cells a_0 := rfl
  have zf1 : argFr [lst Row.cells a_0, .int .i64 k_1] 1 = .int .i64 k_1 := rfl
  generalize argFr [lst Row.cells a_0, .int .i64 k_1] = fr0 at zf0 zf1 ⊢
  have hS : Sep h (geL h.length) [] := Sep.nil h
  simp only [x85, run_seq, run_reg, run_mv, run_ops_nil, x85_8, B0, reduceIte, reduceEqDiff]
  obtain ⟨oc7, hX9, hk10⟩ := jn_some hF
  simp only [x85_7]
  refine loopF_j (σ := Int × Int) (fun s43 => laws_heldRowS_b1 a_0 s43.1 s43.2)
      (fun s fr' h' => fr' 0 = lst Row.cells a_0 ∧ fr' 1 = .int .i64 s.1 ∧ fr' 5 = .int .i64 s.2 ∧ Sep h' (geL h.length) ([])) hX9 ⟨zf0, zf1, rfl, hS⟩ (fun _ _ _ h => h) ?_ ?_
  · rintro ⟨s3, s4⟩ fr19 h20 ⟨f22, f23, f24, hS21⟩ oc8 hF11 hr12 Q13 hN14 hK15 hR16 hE17
    dsimp only at *
    unfold laws_heldRowS_b1 at hF11
    simp only [x85_5, run_seq, run_reg, f24, run_mv, f22, run_len, put1_some, xlen_lst, run_bin, xlss, run_ops_nil, run_cond, B0, reduceIte, reduceEqDiff]
    refine cond_split (t := (decide (s4 < (List.length a_0 : Int)))) (fun hc26 => ?_) (fun hc26 => ?_)
    · rw [iteT hc26] at hF11
      obtain ⟨x27, hx28, hF29⟩ := bind_some' hF11
      simp only [run_skip, x85_4, run_seq, run_block, x85_3, run_reg, f22, run_mv, f24, run_ia, B0, reduceIte, reduceEqDiff]
      refine put1_eq (v := .ref (Row.cells x27) 0) (xia_lst hx28 rfl) ?_
      simp only [run_fa, put1_some, Nat.reduceAdd, Nat.zero_add, Nat.add_zero, xfa_ref, run_ld, B0, reduceIte, reduceEqDiff]
      refine put1_eq (v := .int .i64 x27.Epoch) rfl ?_
      simp only [f23, run_mv, run_bin, put1_some, xneq, run_ops_nil, run_cond, B0, reduceIte, reduceEqDiff]
      refine cond_split (t := (decide (x27.Epoch ≠ s3))) (fun hc30 => ?_) (fun hc30 => ?_)
      · rw [iteT hc30] at hF29
        simp only [run_seq, run_reg, run_mv, run_ops_nil, run_ret, B0, reduceIte, reduceEqDiff]
        have e31 := some_inj hF29
        subst e31
        have ho32 := hr12 _ rfl
        have hk33 := hk10
        rw [ho32] at hk33
        dsimp only [jnO] at hk33
        apply hR16
        have he := some_inj hk33
        subst he
        simp only [end_ret1, B0, reduceIte, reduceEqDiff]
        exact rfl
      rw [iteF hc30] at hF29
      obtain ⟨x34, hx35, hF36⟩ := bind_some' hF29
      simp only [run_skip, x85_2, run_seq, run_reg, f23, run_mv, run_bin, put1_some, xadd, run_ops_nil, x85_1, f22, f24, run_ia, B0, reduceIte, reduceEqDiff]
      refine put1_eq (v := .ref (Row.cells x34) 0) (xia_lst hx35 rfl) ?_
      simp only [run_fa, put1_some, Nat.reduceAdd, Nat.zero_add, Nat.add_zero, xfa_ref, run_ld, B0, reduceIte, reduceEqDiff]
      refine put1_eq (v := .int .i64 x34.Value) rfl ?_
      simp only [run_mv, run_bin, put1_some, xneq, run_ops_nil, run_cond, B0, reduceIte, reduceEqDiff]
      refine cond_split (t := (decide (x34.Value ≠ (IntKind.wrap .i64 (s3 + 1))))) (fun hc37 => ?_) (fun hc37 => ?_)
      · rw [iteT hc37] at hF36
        simp only [run_seq, run_reg, run_mv, run_ops_nil, run_ret, B0, reduceIte, reduceEqDiff]
        have e38 := some_inj hF36
        subst e38
        have ho39 := hr12 _ rfl
        have hk40 := hk10
        rw [ho39] at hk40
        dsimp only [jnO] at hk40
        apply hR16
        have he := some_inj hk40
        subst he
        simp only [end_ret1, B0, reduceIte, reduceEqDiff]
        exact rfl
      rw [iteF hc37] at hF36
      simp only [run_skip, run_reg, run_mv, run_bin, put1_some, xadd, run_ops_nil, run_blk, f24, run_nil, B0, reduceIte, reduceEqDiff]
      have e41 := some_inj hF36
      exact hN14 _ _ _ e41.symm ⟨f22, rfl, rfl, hS21⟩
    rw [iteF hc26] at hF11
    simp only [run_exit, out_code, out_nil, B0, reduceIte, reduceEqDiff]
    have e42 := some_inj hF11
    exact hK15 _ _ _ e42.symm ⟨f22, f23, f24, hS21⟩
  rintro ⟨s44, s45⟩ fr46 h47 rfl ⟨f49, f50, f51, hS48⟩
  dsimp only [jnO] at hk10
  dsimp only at *
  unfold laws_heldRowS_j1 at hk10
  simp only [run_seq, run_reg, f50, run_mv, run_ops_nil, run_ret, B0, reduceIte, reduceEqDiff]
  have he := some_inj hk10
  subst he
  simp only [end_ret1, B0, reduceIte, reduceEqDiff]
  exact rfl
theorem laws_heldReplicaS_x {W : Nat → Bool} {h : Heap} (hW : ∀ b,
    (geL h.length) b → W b = true) (k : Nat) (a_0 : List Replica) (k_1 : Int) (r : Int) (hF : laws_heldReplicaS k a_0 k_1 = some r) : Ret E W 61 [lst Replica.cells a_0,
    .int .i64 k_1] h (fun v h' => cut h.length h' E.sz false 9 v = some (.int .i64 r)) := by
  refine Ret.of (fn := x61) rfl (Run.of ?_)
  unfold laws_heldReplicaS at hF
  have zf0 : argFr [lst Replica.cells a_0, .int .i64 k_1] 0 = lst Replica.cells a_0 := rfl
  have zf1 : argFr [lst Replica.cells a_0, .int .i64 k_1] 1 = .int .i64 k_1 := rfl
  generalize argFr [lst Replica.cells a_0, .int .i64 k_1] = fr0 at zf0 zf1 ⊢
  have hS : Sep h (geL h.length) [] := Sep.nil h
  simp only [x61, run_seq, run_reg, run_mv, run_ops_nil, x61_10, B0, reduceIte, reduceEqDiff]
  obtain ⟨oc7, hX9, hk10⟩ := jn_some hF
  simp only [x61_9]
  refine loopF_j (σ := Int × Int) (fun s53 => laws_heldReplicaS_b1 k a_0 s53.1 s53.2)
      (fun s fr' h' => fr' 0 = lst Replica.cells a_0 ∧ fr' 1 = .int .i64 s.1 ∧ fr' 5 = .int .i64 s.2 ∧ Sep h' (geL h.length) ([])) hX9 ⟨zf0, zf1, rfl, hS⟩ (fun _ _ _ h => h) ?_ ?_
  · rintro ⟨s3, s4⟩ fr19 h20 ⟨f22, f23, f24, hS21⟩ oc8 hF11 hr12 Q13 hN14 hK15 hR16 hE17
    dsimp only at *
    unfold laws_heldReplicaS_b1 at hF11
    simp only [x61_7, run_seq, run_reg, f24, run_mv, f22, run_len, put1_some, xlen_lst, run_bin, xlss, run_ops_nil, run_cond, B0, reduceIte, reduceEqDiff]
    refine cond_split (t := (decide (s4 < (List.length a_0 : Int)))) (fun hc26 => ?_) (fun hc26 => ?_)
    · rw [iteT hc26] at hF11
      obtain ⟨x27, hx28, hF29⟩ := bind_some' hF11
      simp only [run_skip, x61_6, run_seq, run_block, x61_5, run_reg, f22, run_mv, f24, run_ia, B0, reduceIte, reduceEqDiff]
      refine put1_eq (v := .ref (Replica.cells x27) 0) (xia_lst hx28 rfl) ?_
      simp only [run_fa, put1_some, Nat.reduceAdd, Nat.zero_add, Nat.add_zero, xfa_ref, run_ld, B0, reduceIte, reduceEqDiff]
      refine put1_eq (v := lst Row.cells x27.Log) rfl ?_
      obtain ⟨v30, hx31, hF32⟩ := bind_some' hF29
      simp only [f23, run_mv, run_call, B0, reduceIte, reduceEqDiff]
      refine call1 rfl (mapM1 snap_lst (mapM1 snap_int mapM0)) (laws_heldRowS_x (fun b hb => decide_eq_true hb) k x27.Log s3 v30 hx31) ?_
      simp only [run_mv, run_ops_nil, x61_4, run_seq, run_reg, run_bin, put1_some, xlss, run_cond, B0, reduceIte, reduceEqDiff]
      refine cond_split (t := (decide (v30 < 0))) (fun hc33 => ?_) (fun hc33 => ?_)
      · rw [iteT hc33] at hF32
        simp only [run_seq, run_reg, run_mv, run_ops_nil, run_ret, B0, reduceIte, reduceEqDiff]
        have e34 := some_inj hF32
        subst e34
        have ho35 := hr12 _ rfl
        have hk36 := hk10
        rw [ho35] at hk36
        dsimp only [jnO] at hk36
        apply hR16
        have he := some_inj hk36
        subst he
        simp only [end_ret1, B0, reduceIte, reduceEqDiff]
        exact rfl
      rw [iteF hc33] at hF32
      obtain ⟨x37, hx38, hF39⟩ := bind_some' hF32
      simp only [run_skip, x61_3, run_seq, run_reg, f22, run_mv, f24, run_ia, B0, reduceIte, reduceEqDiff]
      refine put1_eq (v := .ref (Replica.cells x37) 0) (xia_lst hx38 rfl) ?_
      simp only [run_fa, put1_some, Nat.reduceAdd, Nat.zero_add, Nat.add_zero, xfa_ref, run_ld, B0, reduceIte, reduceEqDiff]
      refine put1_eq (v := .int .i64 x37.Epoch) rfl ?_
      simp only [run_mv, run_bin, put1_some, xneq, run_ops_nil, run_cond, B0, reduceIte, reduceEqDiff]
      refine cond_split (t := (decide (x37.Epoch ≠ v30))) (fun hc40 => ?_) (fun hc40 => ?_)
      · rw [iteT hc40] at hF39
        simp only [run_seq, run_reg, run_mv, run_ops_nil, run_ret, B0, reduceIte, reduceEqDiff]
        have e41 := some_inj hF39
        subst e41
        have ho42 := hr12 _ rfl
        have hk43 := hk10
        rw [ho42] at hk43
        dsimp only [jnO] at hk43
        apply hR16
        have he := some_inj hk43
        subst he
        simp only [end_ret1, B0, reduceIte, reduceEqDiff]
        exact rfl
      rw [iteF hc40] at hF39
      obtain ⟨x44, hx45, hF46⟩ := bind_some' hF39
      simp only [run_skip, x61_2, run_seq, run_reg, run_mv, run_bin, put1_some, xadd, run_ops_nil, x61_1, f22, f24, run_ia, B0, reduceIte, reduceEqDiff]
      refine put1_eq (v := .ref (Replica.cells x44) 0) (xia_lst hx45 rfl) ?_
      simp only [run_fa, put1_some, Nat.reduceAdd, Nat.zero_add, Nat.add_zero, xfa_ref, run_ld, B0, reduceIte, reduceEqDiff]
      refine put1_eq (v := .int .i64 x44.Known) rfl ?_
      simp only [run_mv, run_bin, put1_some, xneq, run_ops_nil, run_cond, B0, reduceIte, reduceEqDiff]
      refine cond_split (t := (decide (x44.Known ≠ (IntKind.wrap .i64 (v30 + 1))))) (fun hc47 => ?_) (fun hc47 => ?_)
      · rw [iteT hc47] at hF46
        simp only [run_seq, run_reg, run_mv, run_ops_nil, run_ret, B0, reduceIte, reduceEqDiff]
        have e48 := some_inj hF46
        subst e48
        have ho49 := hr12 _ rfl
        have hk50 := hk10
        rw [ho49] at hk50
        dsimp only [jnO] at hk50
        apply hR16
        have he := some_inj hk50
        subst he
        simp only [end_ret1, B0, reduceIte, reduceEqDiff]
        exact rfl
      rw [iteF hc47] at hF46
      simp only [run_skip, run_reg, run_mv, run_bin, put1_some, xadd, run_ops_nil, run_blk, f24, run_nil, B0, reduceIte, reduceEqDiff]
      have e51 := some_inj hF46
      exact hN14 _ _ _ e51.symm ⟨f22, rfl, rfl, hS21⟩
    rw [iteF hc26] at hF11
    simp only [run_exit, out_code, out_nil, B0, reduceIte, reduceEqDiff]
    have e52 := some_inj hF11
    exact hK15 _ _ _ e52.symm ⟨f22, f23, f24, hS21⟩
  rintro ⟨s54, s55⟩ fr56 h57 rfl ⟨f59, f60, f61, hS58⟩
  dsimp only [jnO] at hk10
  dsimp only at *
  unfold laws_heldReplicaS_j1 at hk10
  simp only [run_seq, run_reg, f60, run_mv, run_ops_nil, run_ret, B0, reduceIte, reduceEqDiff]
  have he := some_inj hk10
  subst he
  simp only [end_ret1, B0, reduceIte, reduceEqDiff]
  exact rfl
theorem laws_heldGroup_x {W : Nat → Bool} {h : Heap} (hW : ∀ b,
    (geL h.length) b → W b = true) (k : Nat) (a_0 : Group) (k_1 : Int) (r : Int) (hF : laws_heldGroup k a_0 k_1 = some r) : Ret E W 14 [.agg [.int .i64 a_0.Epoch,
    .int .i64 a_0.Leader, lst cI a_0.InStep, .int .i64 a_0.High, lst Replica.cells a_0.Replicas],
    .int .i64 k_1] h (fun v h' => cut h.length h' E.sz false 9 v = some (.int .i64 r)) := by
  refine Ret.of (fn := x14) rfl (Run.of ?_)
  unfold laws_heldGroup at hF
  have zf0 : argFr [.agg [.int .i64 a_0.Epoch, .int .i64 a_0.Leader, lst cI a_0.InStep, .int .i64 a_0.High, lst Replica.cells a_0.Replicas],
      .int .i64 k_1] 0 = .agg [.int .i64 a_0.Epoch, .int .i64 a_0.Leader, lst cI a_0.InStep, .int .i64 a_0.High, lst Replica.cells a_0.Replicas] := rfl
  have zf1 : argFr [.agg [.int .i64 a_0.Epoch, .int .i64 a_0.Leader, lst cI a_0.InStep, .int .i64 a_0.High, lst Replica.cells a_0.Replicas], .int .i64 k_1] 1 = .int .i64 k_1 := rfl
  generalize argFr [.agg [.int .i64 a_0.Epoch, .int .i64 a_0.Leader, lst cI a_0.InStep, .int .i64 a_0.High, lst Replica.cells a_0.Replicas], .int .i64 k_1] = fr0 at zf0 zf1 ⊢
  have hS : Sep h (geL h.length) [] := Sep.nil h
  simp only [x14, run_seq, run_reg, run_box, zf0, B0, reduceIte, reduceEqDiff]
  refine put2_boxC (cs := [.int .i64 a_0.Epoch, .int .i64 a_0.Leader, lst cI a_0.InStep, .int .i64 a_0.High, lst Replica.cells a_0.Replicas]) hS rfl rfl rfl (fun b1 h2 hS3 => ?_)
  simp only [run_mv, run_ops_nil, B0, reduceIte, reduceEqDiff]
  refine frz_stepC hS3 hW (by simp only [B0, reduceIte, reduceEqDiff]) (fun h5 hS6 => ?_)
  simp only [run_frz_nil, x14_4, run_seq, run_reg, run_fa, put1_some, Nat.reduceAdd, Nat.zero_add, Nat.add_zero, xfa_ref, run_ld, B0, reduceIte, reduceEqDiff]
  refine put1_eq (v := lst cI a_0.InStep) rfl ?_
  obtain ⟨v7, hx8, hF9⟩ := bind_some' hF
  simp only [zf1, run_mv, run_call, B0, reduceIte, reduceEqDiff]
  refine call1 rfl (mapM1 snap_lst (mapM1 snap_int mapM0)) (laws_heldIntS_x (fun b hb => decide_eq_true hb) k a_0.InStep k_1 v7 hx8) ?_
  simp only [run_mv, run_ops_nil, x14_3, run_seq, run_reg, run_bin, put1_some, xlss, run_cond, B0, reduceIte, reduceEqDiff]
  refine cond_split (t := (decide (v7 < 0))) (fun hc10 => ?_) (fun hc10 => ?_)
  · rw [iteT hc10] at hF9
    simp only [run_seq, run_reg, run_mv, run_ops_nil, run_ret, B0, reduceIte, reduceEqDiff]
    have he := some_inj hF9
    subst he
    simp only [end_ret1, B0, reduceIte, reduceEqDiff]
    exact rfl
  rw [iteF hc10] at hF9
  simp only [run_skip, x14_2, run_seq, run_reg, run_fa, put1_some, Nat.reduceAdd, Nat.zero_add, Nat.add_zero, xfa_ref, run_ld, B0, reduceIte, reduceEqDiff]
  refine put1_eq (v := lst Replica.cells a_0.Replicas) rfl ?_
  obtain ⟨v11, hx12, hF13⟩ := bind_some' hF9
  simp only [run_mv, run_call, B0, reduceIte, reduceEqDiff]
  refine call1 rfl (mapM1 snap_lst (mapM1 snap_int mapM0)) (laws_heldReplicaS_x (fun b hb => decide_eq_true hb) k a_0.Replicas v7 v11 hx12) ?_
  simp only [run_mv, run_ops_nil, x14_1, run_seq, run_reg, run_bin, put1_some, xlss, run_cond, B0, reduceIte, reduceEqDiff]
  refine cond_split (t := (decide (v11 < 0))) (fun hc14 => ?_) (fun hc14 => ?_)
  · rw [iteT hc14] at hF13
    simp only [run_seq, run_reg, run_mv, run_ops_nil, run_ret, B0, reduceIte, reduceEqDiff]
    have he := some_inj hF13
    subst he
    simp only [end_ret1, B0, reduceIte, reduceEqDiff]
    exact rfl
  rw [iteF hc14] at hF13
  simp only [run_skip, run_seq, run_reg, run_mv, run_ops_nil, run_ret, B0, reduceIte, reduceEqDiff]
  have he := some_inj hF13
  subst he
  simp only [end_ret1, B0, reduceIte, reduceEqDiff]
  exact rfl
theorem impl_in_x {W : Nat → Bool} {h : Heap} (hW : ∀ b,
    (geL h.length) b → W b = true) (n_0 : Int) (low_1 : Int) (high_2 : Int) (r : Bool) (hF : some (impl_in n_0 low_1 high_2) = some r) : Ret E W 64 [.int .i64 n_0,
    .int .i64 low_1, .int .i64 high_2] h (fun v h' => cut h.length h' E.sz false 9 v = some (.bool r)) := by
  refine Ret.of (fn := x64) rfl (Run.of ?_)
  unfold impl_in at hF
  have zf0 : argFr [.int .i64 n_0, .int .i64 low_1, .int .i64 high_2] 0 = .int .i64 n_0 := rfl
  have zf1 : argFr [.int .i64 n_0, .int .i64 low_1, .int .i64 high_2] 1 = .int .i64 low_1 := rfl
  have zf2 : argFr [.int .i64 n_0, .int .i64 low_1, .int .i64 high_2] 2 = .int .i64 high_2 := rfl
  generalize argFr [.int .i64 n_0, .int .i64 low_1, .int .i64 high_2] = fr0 at zf0 zf1 zf2 ⊢
  have hS : Sep h (geL h.length) [] := Sep.nil h
  simp only [x64, run_seq, run_reg, run_mv, run_ops_nil, x64_1, zf0, zf1, run_bin, put1_some, xgeq, B0, reduceIte, reduceEqDiff]
  refine ops_j 4 (fun fr' h' => Sep h' (geL h.length) ([]) ∧ fr' 14 = .bool ((decide (low_1 ≤ n_0)) && (decide (n_0 ≤ high_2)))) (fun Q1 hN2 => ?_) ?_
  · simp only [List.take_succ_cons, List.take_zero]
    simp only [run_guard (g := 10), B0, reduceIte, reduceEqDiff]
    refine guard_split (t := (decide (low_1 ≤ n_0))) (fun hg3 => ?_) (fun hg3 => ?_)
    · simp only [hg3, run_guard (g := 10), guard_true, zf0, run_mv, zf2, run_bin, put1_some, xleq, run_pick, xpick_t, run_ops_nil, run_nil, B0, reduceIte, reduceEqDiff]
      exact hN2 _ _ ⟨hS, by rw [andT hg3]; simp only [B0, reduceIte, reduceEqDiff]⟩
    · simp only [hg3, run_guard (g := 10), guard_off, run_pick, put1_some, xpick_f, run_ops_nil, run_nil, B0, reduceIte, reduceEqDiff]
      exact hN2 _ _ ⟨hS, by rw [andF hg3]; simp only [B0, reduceIte, reduceEqDiff]⟩
  rintro fr4 h6 ⟨hS7, f5⟩
  simp only [List.drop_succ_cons, List.drop_zero]
  simp only [f5, run_mv, run_ops_nil, run_ret, B0, reduceIte, reduceEqDiff]
  have he := some_inj hF
  subst he
  simp only [end_ret1, B0, reduceIte, reduceEqDiff]
  exact rfl
theorem impl_Group_shared_x {W : Nat → Bool} {h : Heap} (hW : ∀ b,
    (geL h.length) b → W b = true) (k : Nat) (g_0 : Group) (k_1 : Int) (r : Int) (hF : impl_Group_shared k g_0 k_1 = some r) : Ret E W 69 [.agg [.int .i64 g_0.Epoch,
    .int .i64 g_0.Leader, lst cI g_0.InStep, .int .i64 g_0.High, lst Replica.cells g_0.Replicas],
    .int .i64 k_1] h (fun v h' => cut h.length h' E.sz false 9 v = some (.int .i64 r)) := by
  refine Ret.of (fn := x69) rfl (Run.of ?_)
  unfold impl_Group_shared at hF
  have zf0 : argFr [.agg [.int .i64 g_0.Epoch, .int .i64 g_0.Leader, lst cI g_0.InStep, .int .i64 g_0.High, lst Replica.cells g_0.Replicas],
      .int .i64 k_1] 0 = .agg [.int .i64 g_0.Epoch, .int .i64 g_0.Leader, lst cI g_0.InStep, .int .i64 g_0.High, lst Replica.cells g_0.Replicas] := rfl
  have zf1 : argFr [.agg [.int .i64 g_0.Epoch, .int .i64 g_0.Leader, lst cI g_0.InStep, .int .i64 g_0.High, lst Replica.cells g_0.Replicas], .int .i64 k_1] 1 = .int .i64 k_1 := rfl
  generalize argFr [.agg [.int .i64 g_0.Epoch, .int .i64 g_0.Leader, lst cI g_0.InStep, .int .i64 g_0.High, lst Replica.cells g_0.Replicas], .int .i64 k_1] = fr0 at zf0 zf1 ⊢
  have hS : Sep h (geL h.length) [] := Sep.nil h
  simp only [x69, run_seq, run_reg, run_box, zf0, B0, reduceIte, reduceEqDiff]
  refine put2_boxC (cs := [.int .i64 g_0.Epoch, .int .i64 g_0.Leader, lst cI g_0.InStep, .int .i64 g_0.High, lst Replica.cells g_0.Replicas]) hS rfl rfl rfl (fun b1 h2 hS3 => ?_)
  simp only [run_mv, run_ops_nil, B0, reduceIte, reduceEqDiff]
  refine frz_stepC hS3 hW (by simp only [B0, reduceIte, reduceEqDiff]) (fun h5 hS6 => ?_)
  simp only [run_frz_nil, x69_5, run_seq, run_draw, d4_fa, put1d_some, Nat.reduceAdd, Nat.zero_add, Nat.add_zero, xfa_ref, d4_ld, B0, reduceIte, reduceEqDiff]
  refine put1d_eq (v := lst Replica.cells g_0.Replicas) rfl ?_
  obtain ⟨x7, hx8, hF9⟩ := bind_some' hF
  simp only [zf1, d4_mv, put1d_some, d4_ia, B0, reduceIte, reduceEqDiff]
  refine put1d_eq (v := .ref (Replica.cells x7) 0) (xia_lst hx8 rfl) ?_
  simp only [d4_fa, put1d_some, Nat.reduceAdd, Nat.zero_add, Nat.add_zero, xfa_ref, d4_ld, B0, reduceIte, reduceEqDiff]
  refine put1d_eq (v := lst Row.cells x7.Log) rfl ?_
  simp only [d4_fa, put1d_some, Nat.reduceAdd, Nat.zero_add, Nat.add_zero, xfa_ref, d4_ld, B0, reduceIte, reduceEqDiff]
  refine put1d_eq (v := lst Replica.cells g_0.Replicas) rfl ?_
  simp only [d4_fa, put1d_some, Nat.reduceAdd, Nat.zero_add, Nat.add_zero, xfa_ref, d4_ld, B0, reduceIte, reduceEqDiff]
  refine put1d_eq (v := .int .i64 g_0.Leader) rfl ?_
  obtain ⟨x10, hx11, hF12⟩ := bind_some' hF9
  simp only [d4_ia, B0, reduceIte, reduceEqDiff]
  refine put1d_eq (v := .ref (Replica.cells x10) 0) (xia_lst hx11 rfl) ?_
  simp only [d4_fa, put1d_some, Nat.reduceAdd, Nat.zero_add, Nat.add_zero, xfa_ref, d4_ld, B0, reduceIte, reduceEqDiff]
  refine put1d_eq (v := lst Row.cells x10.Log) rfl ?_
  simp only [d4_mv, put1d_some, run_draw_nil, x69_4, run_seq, run_reg, run_mv, run_ops_nil, x69_3, B0, reduceIte, reduceEqDiff]
  obtain ⟨oc17, hX19, hk20⟩ := jn_some hF12
  simp only [x69_2]
  refine loopF_j (σ := Int) (fun s60 => impl_Group_shared_b1 x7 x10 s60)
      (fun s fr' h' => fr' 5 = lst Row.cells x7.Log ∧ fr' 6 = lst Row.cells x10.Log ∧ fr' 7 = .int .i64 s ∧ Sep h' (geL h.length) ([])) hX19 ⟨rfl, rfl, rfl,
      hS6⟩ (fun _ _ _ h => h) ?_ ?_
  · rintro s14 fr29 h30 ⟨f32, f33, f34, hS31⟩ oc18 hF21 hr22 Q23 hN24 hK25 hR26 hE27
    unfold impl_Group_shared_b1 at hF21
    simp only [x69_1, run_seq, run_draw, f34, d4_mv, put1d_some, f32, d4_len, xlen_lst, f33, d4_mnx, pminI, d4_bin, xlss, B0, reduceIte, reduceEqDiff]
    obtain ⟨v39, hx40, hF41⟩ := bind_some' hF21
    refine draw_j 10 (fun fr' h' => Sep h' (geL h.length) ([]) ∧ fr' 38 = .bool v39 ∧ fr' 5 = lst Row.cells x7.Log ∧ fr' 6 = lst Row.cells x10.Log ∧ fr' 7 = .int .i64 s14) rfl
        (fun Q36 hN37 => ?_) ?_
    · simp only [List.take_succ_cons, List.take_zero]
      simp only [run_guardd (g := 28), B0, reduceIte, reduceEqDiff]
      refine guardd_split (t := (decide (s14 < (mnI (List.length x7.Log : Int) (List.length x10.Log : Int))))) (fun hg38 => ?_) (fun hg38 => ?_)
      · rw [iteT hg38] at hx40
        obtain ⟨x42, hx43, hF44⟩ := bind_some' hx40
        simp only [hg38, run_guardd (g := 28), guardd_true, f32, d4_mv, put1d_some, f34, d4_ia, B0, reduceIte, reduceEqDiff]
        refine put1d_eq (v := .ref (Row.cells x42) 0) (xia_lst hx43 rfl) ?_
        simp only [hg38, run_guardd (g := 28), guardd_true, d4_ld, B0, reduceIte, reduceEqDiff]
        refine put1d_eq (v := .agg [.int .i64 x42.Epoch, .int .i64 x42.Value]) rfl ?_
        obtain ⟨x45, hx46, hF47⟩ := bind_some' hF44
        simp only [hg38, run_guardd (g := 28), guardd_true, f33, d4_mv, put1d_some, f34, d4_ia, B0, reduceIte, reduceEqDiff]
        refine put1d_eq (v := .ref (Row.cells x45) 0) (xia_lst hx46 rfl) ?_
        simp only [hg38, run_guardd (g := 28), guardd_true, d4_ld, B0, reduceIte, reduceEqDiff]
        refine put1d_eq (v := .agg [.int .i64 x45.Epoch, .int .i64 x45.Value]) rfl ?_
        simp only [hg38, run_guardd (g := 28), guardd_true, d4_eqs, B0, reduceIte, reduceEqDiff]
        refine put1d_eq (v := .bool ((x42.Epoch == x45.Epoch) && ((x42.Value == x45.Value) && true))) rfl ?_
        simp only [hg38, d4_pick, put1d_some, xpick_t, run_draw_nil, run_nil, B0, reduceIte, reduceEqDiff]
        have e48 := some_inj hF47
        exact hN37 _ _ ⟨hS31, by rw [← e48]; simp only [B0, reduceIte, reduceEqDiff], f32, f33, f34⟩
      · rw [iteF hg38] at hx40
        simp only [hg38, run_guardd (g := 28), guardd_off, d4_pick, put1d_some, xpick_f, run_draw_nil, run_nil, B0, reduceIte, reduceEqDiff]
        have e49 := some_inj hx40
        exact hN37 _ _ ⟨hS31, by rw [← e49]; simp only [B0, reduceIte, reduceEqDiff], f32, f33, f34⟩
    rintro fr50 h55 ⟨hS56, f51, f52, f53, f54⟩
    simp only [List.drop_succ_cons, List.drop_zero]
    simp only [run_draw_nil, f51, run_cond, B0, reduceIte, reduceEqDiff]
    refine cond_split (t := v39) (fun hc57 => ?_) (fun hc57 => ?_)
    · rw [iteT hc57] at hF41
      simp only [run_skip, run_block, run_reg, f54, run_mv, run_bin, put1_some, xadd, run_ops_nil, run_blk, run_nil, B0, reduceIte, reduceEqDiff]
      have e58 := some_inj hF41
      exact hN24 _ _ _ e58.symm ⟨f52, f53, rfl, hS56⟩
    rw [iteF hc57] at hF41
    simp only [run_exit, out_code, out_nil, B0, reduceIte, reduceEqDiff]
    have e59 := some_inj hF41
    exact hK25 _ _ _ e59.symm ⟨f52, f53, f54, hS56⟩
  rintro s61 fr62 h63 rfl ⟨f65, f66, f67, hS64⟩
  dsimp only [jnO] at hk20
  unfold impl_Group_shared_j1 at hk20
  simp only [run_seq, run_reg, f67, run_mv, run_ops_nil, run_ret, B0, reduceIte, reduceEqDiff]
  have he := some_inj hk20
  subst he
  simp only [end_ret1, B0, reduceIte, reduceEqDiff]
  exact rfl
theorem impl_areMembers_x {W : Nat → Bool} {h : Heap} (hW : ∀ b,
    (geL h.length) b → W b = true) (list_0 : List Int) (many_1 : Int) (r : Bool) (hF : impl_areMembers list_0 many_1 = some r) : Ret E W 80 [lst cI list_0,
    .int .i64 many_1] h (fun v h' => cut h.length h' E.sz false 9 v = some (.bool r)) := by
  refine Ret.of (fn := x80) rfl (Run.of ?_)
  unfold impl_areMembers at hF
  have zf0 : argFr [lst cI list_0, .int .i64 many_1] 0 = lst cI list_0 := rfl
  have zf1 : argFr [lst cI list_0, .int .i64 many_1] 1 = .int .i64 many_1 := rfl
  generalize argFr [lst cI list_0, .int .i64 many_1] = fr0 at zf0 zf1 ⊢
  have hS : Sep h (geL h.length) [] := Sep.nil h
  simp only [x80, run_seq, run_reg, run_mv, run_ops_nil, x80_5, zf0, run_len, put1_some, xlen_lst, B0, reduceIte, reduceEqDiff]
  obtain ⟨oc3, hX5, hk6⟩ := jn_some hF
  simp only [x80_4]
  refine rangeL_j (σ := Unit) list_0 (fun i1 x2 _ => impl_areMembers_b1 list_0 many_1 i1 x2 )
      (fun s fr' h' => fr' 0 = lst cI list_0 ∧ fr' 1 = .int .i64 many_1 ∧ fr' 7 = lst cI list_0 ∧ Sep h' (geL h.length) ([])) hX5 ⟨zf0, zf1, rfl, hS⟩ (by simp only [B0, reduceIte,
      reduceEqDiff]) (by simp only [B0, reduceIte, reduceEqDiff]) (fun _ _ _ h => h) rfl rfl (fun _ _ _ _ h => h) (fun _ _ _ _ h => h) (fun _ _ _ _ h => h) (by decide) ?_ ?_
  · rintro i1 x2 _ fr15 h16 hx21 ⟨f18, f19, f20, hS17⟩ f22 f23 oc4 hF7 hr8 Q9 hN10 hB14 hK11 hR12 hE13
    unfold impl_areMembers_b1 at hF7
    simp only [x80_2, run_seq, run_reg, f22, run_mv, f20, run_ia, B0, reduceIte, reduceEqDiff]
    refine put1_eq (v := .ref (cI x2) 0) (xia_lstN hx21 rfl) ?_
    simp only [run_ld, B0, reduceIte, reduceEqDiff]
    refine put1_eq (v := .int .i64 x2) rfl ?_
    simp only [run_mv, run_ops_nil, x80_1, run_seq, run_reg, f19, run_bin, put1_some, xsub, run_call, B0, reduceIte, reduceEqDiff]
    refine call1 rfl (mapM1 snap_int (mapM1 snap_int (mapM1 snap_int mapM0))) (impl_in_x (fun b hb => decide_eq_true hb) x2 0 (IntKind.wrap .i64 (many_1 - 1)) _ rfl) ?_
    simp only [run_un, put1_some, xnot, run_mv, B0, reduceIte, reduceEqDiff]
    obtain ⟨v27, hx28, hF29⟩ := bind_some' hF7
    refine ops_j 12 (fun fr' h' => Sep h' (geL h.length) ([]) ∧ fr' 31 = .bool v27 ∧ fr' 0 = lst cI list_0 ∧ fr' 1 = .int .i64 many_1 ∧ fr' 7 = lst cI list_0 ∧ fr' 8 = .int .i64
        (List.length list_0 : Int) ∧ fr' 9 = .int .i64 (i1 : Int)) (fun Q24 hN25 => ?_) ?_
    · simp only [List.take_succ_cons, List.take_zero]
      simp only [run_guard (g := 19), B0, reduceIte, reduceEqDiff]
      refine guard_split (t := (!(impl_in x2 0 (IntKind.wrap .i64 (many_1 - 1))))) (fun hg26 => ?_) (fun hg26 => ?_)
      · rw [iteT hg26] at hx28
        simp only [hg26, run_guard (g := 19), guard_off', run_guard (g := 22), guard_tup, run_pick, put1_some, xpick_t, run_ops_nil, run_nil, B0, reduceIte, reduceEqDiff]
        have e30 := some_inj hx28
        exact hN25 _ _ ⟨hS17, by rw [← e30]; simp only [B0, reduceIte, reduceEqDiff], f18, f19, f20, f23, f22⟩
      · rw [iteF hg26] at hx28
        simp only [hg26, run_guard (g := 19), guard_false, run_mv, run_bin, put1_some, xgtr, B0, reduceIte, reduceEqDiff]
        obtain ⟨v34, hx35, hF36⟩ := bind_some' hx28
        refine ops_j 8 (fun fr' h' => Sep h' (geL h.length)
            ([]) ∧ fr' 30 = .bool v34 ∧ fr' 0 = lst cI list_0 ∧ fr' 1 = .int .i64 many_1 ∧ fr' 7 = lst cI list_0 ∧ fr' 8 = .int .i64
            (List.length list_0 : Int) ∧ fr' 9 = .int .i64 (i1 : Int) ∧ fr' 19 = .bool (!(impl_in x2 0 (IntKind.wrap .i64 (many_1 - 1))))) (fun Q31 hN32 => ?_) ?_
        · simp only [List.take_succ_cons, List.take_zero]
          simp only [run_guard (g := 22), B0, reduceIte, reduceEqDiff]
          refine guard_split (t := (decide ((0 : Int) < (i1 : Int)))) (fun hg33 => ?_) (fun hg33 => ?_)
          · rw [iteT hg33] at hx35
            obtain ⟨x37, hx38, hF39⟩ := bind_some' hx35
            simp only [hg33, run_guard (g := 22), guard_true, f18, run_mv, run_bin, put1_some, xsub, run_ia, B0, reduceIte, reduceEqDiff]
            refine put1_eq (v := .ref (cI x37) 0) (xia_lst hx38 rfl) ?_
            simp only [hg33, run_guard (g := 22), guard_true, run_ld, B0, reduceIte, reduceEqDiff]
            refine put1_eq (v := .int .i64 x37) rfl ?_
            simp only [hg33, run_guard (g := 22), guard_true, run_mv, run_bin, put1_some, xgeq, hg26, run_guard (g := 19), guard_false, run_pick, xpick_t, run_ops_nil, run_nil,
                B0, reduceIte, reduceEqDiff]
            have e40 := some_inj hF39
            exact hN32 _ _ ⟨hS17, by rw [← e40]; simp only [B0, reduceIte, reduceEqDiff], f18, f19, f20, f23, f22, by simp only [hg26, B0, reduceIte, reduceEqDiff]⟩
          · rw [iteF hg33] at hx35
            simp only [hg33, run_guard (g := 22), guard_off, hg26, run_guard (g := 19), guard_false, run_pick, put1_some, xpick_f, run_ops_nil, run_nil, B0, reduceIte,
                reduceEqDiff]
            have e41 := some_inj hx35
            exact hN32 _ _ ⟨hS17, by rw [← e41]; simp only [B0, reduceIte, reduceEqDiff], f18, f19, f20, f23, f22, by simp only [hg26, B0, reduceIte, reduceEqDiff]⟩
        rintro fr42 h50 ⟨hS51, f43, f44, f45, f46, f47, f48, f49⟩
        simp only [List.drop_succ_cons, List.drop_zero]
        simp only [f49, hg26, run_pick, put1_some, xpick_f, f43, run_ops_nil, run_nil, B0, reduceIte, reduceEqDiff]
        have e52 := some_inj hF36
        exact hN25 _ _ ⟨hS51, by rw [← e52]; simp only [B0, reduceIte, reduceEqDiff], f44, f45, f46, f47, f48⟩
    rintro fr53 h60 ⟨hS61, f54, f55, f56, f57, f58, f59⟩
    simp only [List.drop_succ_cons, List.drop_zero]
    simp only [run_ops_nil, f54, run_cond, B0, reduceIte, reduceEqDiff]
    refine cond_split (t := v27) (fun hc62 => ?_) (fun hc62 => ?_)
    · rw [iteT hc62] at hF29
      simp only [run_seq, run_reg, run_mv, run_ops_nil, run_ret, B0, reduceIte, reduceEqDiff]
      have e63 := some_inj hF29
      subst e63
      have ho64 := hr8 _ rfl
      have hk65 := hk6
      rw [ho64] at hk65
      dsimp only [jnO] at hk65
      apply hR12
      have he := some_inj hk65
      subst he
      simp only [end_ret1, B0, reduceIte, reduceEqDiff]
      exact rfl
    rw [iteF hc62] at hF29
    simp only [run_skip, run_nil, B0, reduceIte, reduceEqDiff]
    have e66 := some_inj hF29
    exact hN10 _ _ _ e66.symm ⟨f55, f56, f57, hS61⟩ (f59) (f58)
  rintro _ fr68 h69 rfl ⟨f71, f72, f73, hS70⟩
  dsimp only [jnO] at hk6
  unfold impl_areMembers_j1 at hk6
  simp only [run_seq, run_reg, run_mv, run_ops_nil, run_ret, B0, reduceIte, reduceEqDiff]
  have he := some_inj hk6
  subst he
  simp only [end_ret1, B0, reduceIte, reduceEqDiff]
  exact rfl
end Go.Proofs.Ytefgfcalgjmhjaa.X
