/- The functions' code comes to what the plain functions say (2). -/
import Derived.Test.YtefgfcalgjmhjaaXAH1
set_option linter.unusedVariables false
set_option linter.unusedSimpArgs false
set_option maxRecDepth 100000
namespace Go.Proofs.Ytefgfcalgjmhjaa.X
open Go
open Nat (reduceEqDiff)
theorem spec_l1Put_x {W : Nat → Bool} {h : Heap} {lo : Nat} {S0 : List Obj} (hW : ∀ b,
    lo ≤ b → W b = true) (k : Nat) (pv0 : XV) (pc0 : List Obj) (l_0 : List Int) (ph0 : SlF cI 1 3 pv0 l_0 pc0) (n_1 : Int) (r : List Int) (hF : spec_l1Put k l_0 n_1 = some r)
    (hS : Sep h lo (pc0 ++ (S0))) : Ret E W 48 [pv0, .int .i64 n_1] h (fun v h' => ∃ rv0 rc0, v = rv0 ∧ SlF cI 1 3 rv0 r rc0 ∧ Sep h' lo (rc0 ++ (S0))) := by
  refine Ret.of (fn := x48) rfl (Run.of ?_)
  unfold spec_l1Put at hF
  have zf0 : argFr [pv0, .int .i64 n_1] 0 = pv0 := rfl
  have zf1 : argFr [pv0, .int .i64 n_1] 1 = .int .i64 n_1 := rfl
  generalize argFr [pv0, .int .i64 n_1] = fr0 at zf0 zf1 ⊢
  simp only [x48, run_seq, run_reg, run_mv, run_ops_nil, x48_10, x48_9, B0, reduceIte, reduceEqDiff]
  obtain ⟨oc5, hX7, hk8⟩ := jn_some hF
  simp only [x48_2]
  refine loopF_j (σ := Int) (fun s47 => spec_l1Put_b1 l_0 n_1 s47) (fun s fr' h' => fr' 0 = pv0 ∧ fr' 1 = .int .i64 n_1 ∧ fr' 5 = .int .i64 s ∧ Sep h' lo (pc0 ++
      (S0))) hX7 ⟨by simp only [zf0, B0, reduceIte, reduceEqDiff], by simp only [zf1, B0, reduceIte, reduceEqDiff], by simp only [B0, reduceIte, reduceEqDiff],
      hS⟩ (fun _ _ _ h => h) ?_ ?_
  · rintro s2 fr17 h18 ⟨f20, f21, f22, hS19⟩ oc6 hF9 hr10 Q11 hN12 hK13 hR14 hE15
    unfold spec_l1Put_b1 at hF9
    simp only [x48_1, run_seq, run_reg, f22, run_mv, f20, run_len, put1_some, SlF.plen ph0, run_bin, xlss, B0, reduceIte, reduceEqDiff]
    obtain ⟨v27, hx28, hF29⟩ := bind_some' hF9
    refine ops_j 7 (fun fr' h' => Sep h' lo (pc0 ++ (S0)) ∧ fr' 18 = .bool v27 ∧ fr' 0 = pv0 ∧ fr' 1 = .int .i64 n_1 ∧ fr' 5 = .int .i64 s2) (fun Q24 hN25 => ?_) ?_
    · simp only [List.take_succ_cons, List.take_zero]
      simp only [run_guard (g := 11), B0, reduceIte, reduceEqDiff]
      refine guard_split (t := (decide (s2 < (List.length l_0 : Int)))) (fun hg26 => ?_) (fun hg26 => ?_)
      · rw [iteT hg26] at hx28
        obtain ⟨x30, hx31, hF32⟩ := bind_some' hx28
        simp only [hg26, run_guard (g := 11), guard_true, f20, run_mv, f22, run_ia, B0, reduceIte, reduceEqDiff]
        obtain ⟨b33, hb34⟩ := SlF.isrow ph0 (geti_ne hx31)
        refine put1_eq (SlF.ia ph0 hb34 hx31) ?_
        simp only [hg26, run_guard (g := 11), guard_true, run_ld, B0, reduceIte, reduceEqDiff]
        refine put1_eq (v := .int .i64 x30) ((SlF.ld (o := 0) ph0 hS19 hb34 hx31 (fun _ => rfl) (Nat.le_of_ble_eq_true rfl)).trans rfl) ?_
        simp only [hg26, run_guard (g := 11), guard_true, f21, run_mv, run_bin, put1_some, xlss, run_pick, xpick_t, run_ops_nil, run_nil, B0, reduceIte, reduceEqDiff]
        have e35 := some_inj hF32
        exact hN25 _ _ ⟨hS19, by rw [← e35]; simp only [B0, reduceIte, reduceEqDiff], by simp only [f20, B0, reduceIte, reduceEqDiff], by simp only [f21, B0, reduceIte,
            reduceEqDiff], by simp only [f22, B0, reduceIte, reduceEqDiff]⟩
      · rw [iteF hg26] at hx28
        simp only [hg26, run_guard (g := 11), guard_off, run_pick, put1_some, xpick_f, run_ops_nil, run_nil, B0, reduceIte, reduceEqDiff]
        have e36 := some_inj hx28
        exact hN25 _ _ ⟨hS19, by rw [← e36]; simp only [B0, reduceIte, reduceEqDiff], by simp only [f20, B0, reduceIte, reduceEqDiff], by simp only [f21, B0, reduceIte,
            reduceEqDiff], by simp only [f22, B0, reduceIte, reduceEqDiff]⟩
    rintro fr37 h42 ⟨hS43, f38, f39, f40, f41⟩
    simp only [List.drop_succ_cons, List.drop_zero]
    simp only [run_ops_nil, f38, run_cond, B0, reduceIte, reduceEqDiff]
    refine cond_split (t := v27) (fun hc44 => ?_) (fun hc44 => ?_)
    · rw [iteT hc44] at hF29
      simp only [run_skip, run_block, run_reg, f41, run_mv, run_bin, put1_some, xadd, run_ops_nil, run_blk, run_nil, B0, reduceIte, reduceEqDiff]
      have e45 := some_inj hF29
      exact hN12 _ _ _ e45.symm ⟨by simp only [f39, B0, reduceIte, reduceEqDiff], by simp only [f40, B0, reduceIte, reduceEqDiff], by simp only [B0, reduceIte, reduceEqDiff], hS43⟩
    rw [iteF hc44] at hF29
    simp only [run_exit, out_code, out_nil, B0, reduceIte, reduceEqDiff]
    have e46 := some_inj hF29
    exact hK13 _ _ _ e46.symm ⟨by simp only [f39, B0, reduceIte, reduceEqDiff], by simp only [f40, B0, reduceIte, reduceEqDiff], by simp only [f41, B0, reduceIte, reduceEqDiff],
        hS43⟩
  rintro s48 fr49 h50 rfl ⟨f52, f53, f54, hS51⟩
  dsimp only [jnO] at hk8
  unfold spec_l1Put_j1 at hk8
  simp only [x48_8, run_seq, run_reg, f54, run_mv, f52, run_len, put1_some, SlF.plen ph0, run_bin, xlss, B0, reduceIte, reduceEqDiff]
  obtain ⟨v58, hx59, hF60⟩ := bind_some' hk8
  refine ops_j 7 (fun fr' h' => Sep h' lo (pc0 ++ (S0)) ∧ fr' 32 = .bool v58 ∧ fr' 0 = pv0 ∧ fr' 1 = .int .i64 n_1 ∧ fr' 5 = .int .i64 s48) (fun Q55 hN56 => ?_) ?_
  · simp only [List.take_succ_cons, List.take_zero]
    simp only [run_guard (g := 25), B0, reduceIte, reduceEqDiff]
    refine guard_split (t := (decide (s48 < (List.length l_0 : Int)))) (fun hg57 => ?_) (fun hg57 => ?_)
    · rw [iteT hg57] at hx59
      obtain ⟨x61, hx62, hF63⟩ := bind_some' hx59
      simp only [hg57, run_guard (g := 25), guard_true, f52, run_mv, f54, run_ia, B0, reduceIte, reduceEqDiff]
      obtain ⟨b64, hb65⟩ := SlF.isrow ph0 (geti_ne hx62)
      refine put1_eq (SlF.ia ph0 hb65 hx62) ?_
      simp only [hg57, run_guard (g := 25), guard_true, run_ld, B0, reduceIte, reduceEqDiff]
      refine put1_eq (v := .int .i64 x61) ((SlF.ld (o := 0) ph0 hS51 hb65 hx62 (fun _ => rfl) (Nat.le_of_ble_eq_true rfl)).trans rfl) ?_
      simp only [hg57, run_guard (g := 25), guard_true, f53, run_mv, run_bin, put1_some, xeql, run_pick, xpick_t, run_ops_nil, run_nil, B0, reduceIte, reduceEqDiff]
      have e66 := some_inj hF63
      exact hN56 _ _ ⟨hS51, by rw [← e66]; simp only [B0, reduceIte, reduceEqDiff], by simp only [f52, B0, reduceIte, reduceEqDiff], by simp only [f53, B0, reduceIte,
          reduceEqDiff], by simp only [f54, B0, reduceIte, reduceEqDiff]⟩
    · rw [iteF hg57] at hx59
      simp only [hg57, run_guard (g := 25), guard_off, run_pick, put1_some, xpick_f, run_ops_nil, run_nil, B0, reduceIte, reduceEqDiff]
      have e67 := some_inj hx59
      exact hN56 _ _ ⟨hS51, by rw [← e67]; simp only [B0, reduceIte, reduceEqDiff], by simp only [f52, B0, reduceIte, reduceEqDiff], by simp only [f53, B0, reduceIte,
          reduceEqDiff], by simp only [f54, B0, reduceIte, reduceEqDiff]⟩
  rintro fr68 h73 ⟨hS74, f69, f70, f71, f72⟩
  simp only [List.drop_succ_cons, List.drop_zero]
  simp only [run_ops_nil, x48_3, f69, run_cond, B0, reduceIte, reduceEqDiff]
  refine cond_split (t := v58) (fun hc75 => ?_) (fun hc75 => ?_)
  · rw [iteT hc75] at hF60
    simp only [run_seq, run_reg, f70, run_mv, run_ops_nil, run_ret, B0, reduceIte, reduceEqDiff]
    have he := some_inj hF60
    subst he
    simp only [end_ret1, B0, reduceIte, reduceEqDiff]
    exact ⟨pv0, pc0, by first | trivial | rfl, ph0, hS74⟩
  rw [iteF hc75] at hF60
  obtain ⟨l76, hx77, hF78⟩ := bind_some' hF60
  simp only [run_skip, x48_7, run_seq, run_reg, run_mv, run_ops_nil, x48_6, f70, f72, run_slc, Option.map_some, Option.map_none, B0, reduceIte, reduceEqDiff]
  obtain ⟨w79, i80, he81, hw82⟩ := SlF.win (f := cI) (ty := 3) none (some s48) ph0 hx77 hS74
  refine put1_eq he81 ?_
  simp only [run_app, B0, reduceIte, reduceEqDiff]
  obtain ⟨l83, hx84, hF85⟩ := bind_some' hF78
  refine put2_appF (f := cI) SlF.nil hS74 hW (fun _ => rfl) (fun _ => rfl) (SlW.first hw82 ph0 hS74 (fun _ => rfl)) hx84 (fun v86 c87 h88 hv89 hS90 => ?_)
  simp only [run_mv, run_ops_nil, x48_5, run_seq, run_reg, f71, run_buildS, evp, B0, reduceIte, reduceEqDiff]
  refine put2_buildSF (n := 1) (f := cI) [n_1] hS90 rfl rfl (fun v92 c93 h94 hv95 hS96 => ?_)
  simp only [run_app, B0, reduceIte, reduceEqDiff]
  obtain ⟨l98, hx99, hF100⟩ := bind_some' hF85
  refine put2_appF (f := cI) hv89 (Sep.m1 hS96) hW (fun _ => rfl) (fun _ => rfl) (SlF.first hv95 hS96 (fun _ => rfl)) hx99 (fun v101 c102 h103 hv104 hS105 => ?_)
  obtain ⟨l107, hx108, hF109⟩ := bind_some' hF100
  simp only [run_mv, run_ops_nil, x48_4, run_seq, run_reg, f70, f72, run_slc, Option.map_some, Option.map_none, B0, reduceIte, reduceEqDiff]
  obtain ⟨w110, i111, he112, hw113⟩ := SlF.win (f := cI) (ty := 3) (some s48) none ph0 hx108 (Sep.m2 hS105)
  refine put1_eq he112 ?_
  simp only [run_app, B0, reduceIte, reduceEqDiff]
  obtain ⟨l114, hx115, hF116⟩ := bind_some' hF109
  refine put2_appF (f := cI) hv104 hS105 hW (fun _ => rfl) (fun _ => rfl) (SlW.first hw113 ph0 (Sep.m2 hS105) (fun _ => rfl)) hx115 (fun v117 c118 h119 hv120 hS121 => ?_)
  simp only [run_mv, run_ops_nil, run_ret, B0, reduceIte, reduceEqDiff]
  have he := some_inj hF116
  subst he
  simp only [end_ret1, B0, reduceIte, reduceEqDiff]
  exact ⟨v117, c118, by first | trivial | rfl, hv120, (Sep.dc (Sep.m1 (Sep.dc (Sep.m1 hS121))))⟩
theorem spec_l11Least_x {W : Nat → Bool} {h : Heap} (hW : ∀ b,
    h.length ≤ b → W b = true) (g_0 : Group) (r : Int) (hF : spec_l11Least g_0 = some r) : Ret E W 49 [.agg [.int .i64 g_0.Epoch, .int .i64 g_0.Leader, lst cI g_0.InStep,
    .int .i64 g_0.High, lst Replica.cells g_0.Replicas]] h (fun v h' => cut h.length h' E.sz false 9 v = some (.int .i64 r)) := by
  refine Ret.of (fn := x49) rfl (Run.of ?_)
  unfold spec_l11Least at hF
  have zf0 : argFr [.agg [.int .i64 g_0.Epoch, .int .i64 g_0.Leader, lst cI g_0.InStep, .int .i64 g_0.High, lst Replica.cells g_0.Replicas]] 0 = .agg [.int .i64 g_0.Epoch,
      .int .i64 g_0.Leader, lst cI g_0.InStep, .int .i64 g_0.High, lst Replica.cells g_0.Replicas] := rfl
  generalize argFr [.agg [.int .i64 g_0.Epoch, .int .i64 g_0.Leader, lst cI g_0.InStep, .int .i64 g_0.High, lst Replica.cells g_0.Replicas]] = fr0 at zf0 ⊢
  have hS : Sep h h.length [] := Sep.nil h
  simp only [x49, run_seq, run_reg, run_box, zf0, B0, reduceIte, reduceEqDiff]
  refine put2_boxC (cs := [.int .i64 g_0.Epoch, .int .i64 g_0.Leader, lst cI g_0.InStep, .int .i64 g_0.High, lst Replica.cells g_0.Replicas]) hS rfl rfl rfl (fun b1 h2 hS3 => ?_)
  simp only [run_mv, run_ops_nil, B0, reduceIte, reduceEqDiff]
  refine frz_stepC hS3 hW (by simp only [B0, reduceIte, reduceEqDiff]) (fun h5 hS6 => ?_)
  simp only [run_frz_nil, x49_9, run_seq, run_reg, run_mv, run_ops_nil, x49_8, run_fa, put1_some, Nat.reduceAdd, Nat.zero_add, Nat.add_zero, xfa_ref, run_ld, B0, reduceIte,
      reduceEqDiff]
  refine put1_eq (v := lst cI g_0.InStep) rfl ?_
  simp only [run_len, put1_some, xlen_lst, run_mv, run_ops_nil, B0, reduceIte, reduceEqDiff]
  obtain ⟨oc11, hX13, hk14⟩ := jn_some hF
  simp only [x49_7]
  refine rangeL_j (σ := Int) g_0.InStep (fun i9 x10 s50 => spec_l11Least_b1 g_0 i9 x10 s50) (fun s fr' h' => fr' 1 = .ref [.int .i64 g_0.Epoch, .int .i64 g_0.Leader,
      lst cI g_0.InStep, .int .i64 g_0.High, lst Replica.cells g_0.Replicas] 0 ∧ fr' 3 = .int .i64 s ∧ fr' 8 = lst cI g_0.InStep ∧ Sep h' h.length ([])) hX13 ⟨by simp only [B0,
      reduceIte, reduceEqDiff], by simp only [B0, reduceIte, reduceEqDiff], by simp only [B0, reduceIte, reduceEqDiff], hS6⟩ (by simp only [B0, reduceIte,
      reduceEqDiff]) (by simp only [B0, reduceIte, reduceEqDiff]) (fun _ _ _ h => h) rfl rfl (fun _ _ _ _ h => h) (fun _ _ _ _ h => h) (fun _ _ _ _ h => h) (by decide) ?_ ?_
  · rintro i9 x10 s8 fr23 h24 hx29 ⟨f26, f27, f28, hS25⟩ f30 f31 oc12 hF15 hr16 Q17 hN18 hB22 hK19 hR20 hE21
    unfold spec_l11Least_b1 at hF15
    simp only [x49_5, run_seq, run_reg, f28, f30, run_ia, B0, reduceIte, reduceEqDiff]
    refine put1_eq (v := .ref (cI x10) 0) (xia_lstN hx29 rfl) ?_
    simp only [run_ld, B0, reduceIte, reduceEqDiff]
    refine put1_eq (v := .int .i64 x10) rfl ?_
    simp only [run_mv, run_ops_nil, x49_4, run_seq, run_reg, f26, run_fa, put1_some, Nat.reduceAdd, Nat.zero_add, Nat.add_zero, xfa_ref, run_ld, B0, reduceIte, reduceEqDiff]
    refine put1_eq (v := lst Replica.cells g_0.Replicas) rfl ?_
    obtain ⟨x32, hx33, hF34⟩ := bind_some' hF15
    simp only [run_mv, run_ia, B0, reduceIte, reduceEqDiff]
    refine put1_eq (v := .ref (Replica.cells x32) 0) (xia_lst hx33 rfl) ?_
    simp only [run_ld, B0, reduceIte, reduceEqDiff]
    refine put1_eq (v := .agg [lst Row.cells x32.Log, .int .i64 x32.Epoch, .int .i64 x32.Known]) rfl ?_
    simp only [run_new, B0, reduceIte, reduceEqDiff]
    refine put2_newC hS25 (fun b35 h36 hS37 => ?_)
    simp only [run_st, B0, reduceIte, reduceEqDiff]
    refine put2_stCx (us := [lst Row.cells x32.Log, .int .i64 x32.Epoch, .int .i64 x32.Known]) rfl (cs' := [lst Row.cells x32.Log, .int .i64 x32.Epoch,
        .int .i64 x32.Known]) hS37 hW rfl rfl (Nat.le_of_ble_eq_true rfl) rfl (fun h39 hS40 => ?_)
    simp only [run_ops_nil, B0, reduceIte, reduceEqDiff]
    refine frz_stepC hS40 hW (by simp only [B0, reduceIte, reduceEqDiff]) (fun h41 hS42 => ?_)
    simp only [run_frz_nil, x49_3, run_seq, run_reg, run_fa, put1_some, Nat.reduceAdd, Nat.zero_add, Nat.add_zero, xfa_ref, run_ld, B0, reduceIte, reduceEqDiff]
    refine put1_eq (v := .int .i64 x32.Epoch) rfl ?_
    simp only [f26, run_fa, put1_some, Nat.reduceAdd, Nat.zero_add, Nat.add_zero, xfa_ref, run_ld, B0, reduceIte, reduceEqDiff]
    refine put1_eq (v := .int .i64 g_0.Epoch) rfl ?_
    simp only [run_bin, put1_some, xneq, run_ops_nil, run_cond, B0, reduceIte, reduceEqDiff]
    refine cond_split (t := (decide (x32.Epoch ≠ g_0.Epoch))) (fun hc43 => ?_) (fun hc43 => ?_)
    · rw [iteT hc43] at hF34
      simp only [run_seq, run_reg, run_mv, run_ops_nil, run_ret, B0, reduceIte, reduceEqDiff]
      have e44 := some_inj hF34
      subst e44
      have ho45 := hr16 _ rfl
      have hk46 := hk14
      rw [ho45] at hk46
      dsimp only [jnO] at hk46
      apply hR20
      have he := some_inj hk46
      subst he
      simp only [end_ret1, B0, reduceIte, reduceEqDiff]
      exact rfl
    rw [iteF hc43] at hF34
    simp only [run_skip, x49_2, run_seq, run_reg, run_fa, put1_some, Nat.reduceAdd, Nat.zero_add, Nat.add_zero, xfa_ref, run_ld, B0, reduceIte, reduceEqDiff]
    refine put1_eq (v := .int .i64 x32.Known) rfl ?_
    simp only [f27, run_mv, run_bin, put1_some, xlss, run_ops_nil, x49_1, run_cond, B0, reduceIte, reduceEqDiff]
    refine cond_split (t := (decide (x32.Known < s8))) (fun hc47 => ?_) (fun hc47 => ?_)
    · rw [iteT hc47] at hF34
      simp only [run_reg, run_fa, put1_some, Nat.reduceAdd, Nat.zero_add, Nat.add_zero, xfa_ref, run_ld, B0, reduceIte, reduceEqDiff]
      refine put1_eq (v := .int .i64 x32.Known) rfl ?_
      simp only [run_mv, run_ops_nil, run_nil, B0, reduceIte, reduceEqDiff]
      have e48 := some_inj hF34
      exact hN18 _ _ _ e48.symm ⟨by simp only [f26, B0, reduceIte, reduceEqDiff], by simp only [B0, reduceIte, reduceEqDiff], by simp only [f28, B0, reduceIte, reduceEqDiff],
          hS42⟩ (by simp only [f30, B0, reduceIte, reduceEqDiff]) (by simp only [f31, B0, reduceIte, reduceEqDiff])
    rw [iteF hc47] at hF34
    simp only [run_skip, run_nil, B0, reduceIte, reduceEqDiff]
    have e49 := some_inj hF34
    exact hN18 _ _ _ e49.symm ⟨by simp only [f26, B0, reduceIte, reduceEqDiff], by simp only [f27, B0, reduceIte, reduceEqDiff], by simp only [f28, B0, reduceIte, reduceEqDiff],
        hS42⟩ (by simp only [f30, B0, reduceIte, reduceEqDiff]) (by simp only [f31, B0, reduceIte, reduceEqDiff])
  rintro s51 fr52 h53 rfl ⟨f55, f56, f57, hS54⟩
  dsimp only [jnO] at hk14
  unfold spec_l11Least_j1 at hk14
  simp only [run_seq, run_reg, f56, run_mv, run_ops_nil, run_ret, B0, reduceIte, reduceEqDiff]
  have he := some_inj hk14
  subst he
  simp only [end_ret1, B0, reduceIte, reduceEqDiff]
  exact rfl
theorem spec_SettleGroup_x {W : Nat → Bool} {h : Heap} (hW : ∀ b,
    h.length ≤ b → W b = true) (k : Nat) (v_0 : Group) (r : Group × Int × Bool) (hF : spec_SettleGroup k v_0 = some r) : Ret E W 9 [.agg [.int .i64 v_0.Epoch,
    .int .i64 v_0.Leader, lst cI v_0.InStep, .int .i64 v_0.High, lst Replica.cells v_0.Replicas]] h (fun v h' => ∃ rv0_2 rc0_2 rv0_4 rc0_4, v = .tup [.agg [.int .i64 r.1.Epoch,
    .int .i64 r.1.Leader, rv0_2, .int .i64 r.1.High, rv0_4], .int .i64 r.2.1,
    .bool r.2.2] ∧ SlF cI 1 3 rv0_2 r.1.InStep rc0_2 ∧ SlN Replica.R 3 51 rv0_4 r.1.Replicas rc0_4 ∧ Sep h' h.length (rc0_2 ++ (rc0_4 ++ ([])))) := by
  refine Ret.of (fn := x9) rfl (Run.of ?_)
  unfold spec_SettleGroup at hF
  have zf0 : argFr [.agg [.int .i64 v_0.Epoch, .int .i64 v_0.Leader, lst cI v_0.InStep, .int .i64 v_0.High, lst Replica.cells v_0.Replicas]] 0 = .agg [.int .i64 v_0.Epoch,
      .int .i64 v_0.Leader, lst cI v_0.InStep, .int .i64 v_0.High, lst Replica.cells v_0.Replicas] := rfl
  generalize argFr [.agg [.int .i64 v_0.Epoch, .int .i64 v_0.Leader, lst cI v_0.InStep, .int .i64 v_0.High, lst Replica.cells v_0.Replicas]] = fr0 at zf0 ⊢
  have hS : Sep h h.length [] := Sep.nil h
  simp only [x9, run_seq, run_reg, run_box, zf0, B0, reduceIte, reduceEqDiff]
  refine put2_boxC (cs := [.int .i64 v_0.Epoch, .int .i64 v_0.Leader, lst cI v_0.InStep, .int .i64 v_0.High, lst Replica.cells v_0.Replicas]) hS rfl rfl rfl (fun b1 h2 hS3 => ?_)
  simp only [run_new, B0, reduceIte, reduceEqDiff]
  refine put2_newC hS3 (fun b5 h6 hS7 => ?_)
  simp only [run_mv, run_ops_nil, B0, reduceIte, reduceEqDiff]
  refine frz_stepC (Sep.m1 hS7) hW (by simp only [B0, reduceIte, reduceEqDiff]) (fun h9 hS10 => ?_)
  simp only [run_frz_nil, x9_20, run_seq, run_reg, run_ld, B0, reduceIte, reduceEqDiff]
  refine put1_eq (v := .agg [.int .i64 v_0.Epoch, .int .i64 v_0.Leader, lst cI v_0.InStep, .int .i64 v_0.High, lst Replica.cells v_0.Replicas]) rfl ?_
  obtain ⟨v11, hx12, hF13⟩ := bind_some' hF
  simp only [run_call, B0, reduceIte, reduceEqDiff]
  refine call1 rfl (mapM1 (snap_agg (mapM1 snap_int (mapM1 snap_int (mapM1 snap_lst (mapM1 snap_int (mapM1 snap_lst mapM0)))))) mapM0) (spec_GoodGroup_x
      (fun b hb => decide_eq_true hb) k v_0 v11 hx12) ?_
  simp only [run_un, put1_some, xnot, run_ops_nil, x9_2, run_cond, B0, reduceIte, reduceEqDiff]
  refine cond_split (t := (!v11)) (fun hc14 => ?_) (fun hc14 => ?_)
  · rw [iteT hc14] at hF13
    simp only [x9_1, run_seq, run_reg, run_build, evp, B0, reduceIte, reduceEqDiff]
    refine put1_eq (v := .agg [.int .i64 0, .int .i64 0, .nil, .int .i64 0, .nil]) rfl ?_
    simp only [run_st, B0, reduceIte, reduceEqDiff]
    refine put2_stCx (us := [.int .i64 0, .int .i64 0, .nil, .int .i64 0, .nil]) rfl (cs' := [.int .i64 0, .int .i64 0, .nil, .int .i64 0,
        .nil]) hS10 hW rfl rfl (Nat.le_of_ble_eq_true rfl) rfl (fun h15 hS16 => ?_)
    simp only [run_mv, run_ops_nil, run_ret, B0, reduceIte, reduceEqDiff]
    have he := some_inj hF13
    subst he
    refine end_ret_m (mapM1 (res_cell (bb := b5) (oo := 0) (v := .agg [.int .i64 0, .int .i64 0, .nil, .int .i64 0, .nil]) (by simp only [B0, reduceIte,
        reduceEqDiff]) ((xld_bs (Sep.bk _ _ _ hS16)).trans rfl)) (mapM1 (res_t (v := .int .i64 0) (by simp only [B0, reduceIte,
        reduceEqDiff])) (mapM1 (res_t (v := .bool false) (by simp only [B0, reduceIte, reduceEqDiff])) mapM0))) ?_
    exact ⟨.nil, [], .nil, [], by first | trivial | rfl, SlF.nil, SlN.nil, ((Sep.dc (hS16)) : Sep _ h.length ([]))⟩
  rw [iteF hc14] at hF13
  simp only [run_skip, x9_19, run_seq, run_reg, run_ld, B0, reduceIte, reduceEqDiff]
  refine put1_eq (v := .agg [.int .i64 v_0.Epoch, .int .i64 v_0.Leader, lst cI v_0.InStep, .int .i64 v_0.High, lst Replica.cells v_0.Replicas]) rfl ?_
  obtain ⟨v17, hx18, hF19⟩ := bind_some' hF13
  simp only [run_call, B0, reduceIte, reduceEqDiff]
  refine call2 rfl hS10 (mapM1 (snap_agg (mapM1 snap_int (mapM1 snap_int (mapM1 snap_lst (mapM1 snap_int (mapM1 snap_lst mapM0)))))) mapM0) (spec_l11Own_x
      (fun b hb => decide_eq_true hb) v_0 v17 hx18) ?_
  rintro _ h28 ⟨v20, c21, v24, c25, rfl, hv22, hv26, hS29⟩
  refine ⟨_, free_a (all_c rfl (all_c rfl (all_c (SlF.free1 hv22) (all_c rfl (all_c (SlN.free1 hv26) all_n))))), hS29,
      (pf_app (SlF.pf hv22 (fun _ => rfl)) (pf_app (SlN.pf hv26 Replica.RO) pf_nil)), fun h30 hS31 => ?_⟩
  have hS32 : Sep h30 h.length (c21 ++ (c25 ++ ([Blk1 b5 [.int .i64 0, .int .i64 0, .nil, .int .i64 0, .nil] 29] ++ ([])))) := by simpa only [List.append_assoc,
      List.nil_append] using hS31
  simp only [run_new, B0, reduceIte, reduceEqDiff]
  refine put2_newC hS32 (fun b33 h34 hS35 => ?_)
  simp only [run_st, B0, reduceIte, reduceEqDiff]
  refine put2_stCx (us := [.int .i64 v17.Epoch, .int .i64 v17.Leader, v20, .int .i64 v17.High, v24]) rfl (cs' := [.int .i64 v17.Epoch, .int .i64 v17.Leader, v20,
      .int .i64 v17.High, v24]) hS35 hW rfl (all_c rfl (all_c rfl (all_c (SlF.one hv22) (all_c rfl (all_c (SlN.one hv26) all_n))))) (Nat.le_of_ble_eq_true rfl) rfl
      (fun h37 hS38 => ?_)
  simp only [run_ops_nil, x9_18, run_seq, run_reg, run_fa, put1_some, Nat.reduceAdd, Nat.zero_add, Nat.add_zero, xfa_ptr, run_ld, B0, reduceIte, reduceEqDiff]
  refine put1_eq (v := v24) ((xld_b (Sep.bk _ _ _ hS38)).trans rfl) ?_
  simp only [run_fa, put1_some, Nat.reduceAdd, Nat.zero_add, Nat.add_zero, xfa_ptr, run_ld, B0, reduceIte, reduceEqDiff]
  refine put1_eq (v := .int .i64 v17.Leader) ((xld_b (Sep.bk _ _ _ hS38)).trans rfl) ?_
  obtain ⟨x39, hx40, hF41⟩ := bind_some' hF19
  simp only [run_ia, B0, reduceIte, reduceEqDiff]
  obtain ⟨b42, hb43⟩ := SlN.isrow hv26 (geti_ne hx40)
  refine put1_eq (SlN.ia hv26 hb43 hx40) ?_
  obtain ⟨c44, cs45, os46, hv47, hR48, hS49⟩ := SlG.opn (SlN.toG hv26 hb43 Replica.RO.len) hx40 hk_nil Replica.RO.len (Sep.m2 hS38)
  obtain ⟨v51, c52, hv53, rfl, rfl⟩ := hR48
  have hS50 := Sep.no1 hS49
  simp only [run_ld, B0, reduceIte, reduceEqDiff]
  refine put1_eq (v := .agg [v51, .int .i64 x39.Epoch, .int .i64 x39.Known]) ((SlG.lds (o := 0) hv47 rfl hx40 hS50 (Nat.le_of_ble_eq_true rfl)).trans rfl) ?_
  simp only [run_new, B0, reduceIte, reduceEqDiff]
  refine put2_newC hS50 (fun b55 h56 hS57 => ?_)
  simp only [run_st, B0, reduceIte, reduceEqDiff]
  refine put2_stCx (us := [v51, .int .i64 x39.Epoch, .int .i64 x39.Known]) rfl (cs' := [v51, .int .i64 x39.Epoch,
      .int .i64 x39.Known]) hS57 hW rfl (all_c (SlF.one hv53) (all_c rfl (all_c rfl all_n))) (Nat.le_of_ble_eq_true rfl) rfl (fun h59 hS60 => ?_)
  simp only [run_ops_nil, x9_17, run_seq, run_reg, run_fa, put1_some, Nat.reduceAdd, Nat.zero_add, Nat.add_zero, xfa_ptr, run_ld, B0, reduceIte, reduceEqDiff]
  refine put1_eq (v := .int .i64 v17.Epoch) ((xld_b (Sep.bk _ _ _ (Sep.m3 hS60))).trans rfl) ?_
  simp only [run_fa, put1_some, Nat.reduceAdd, Nat.zero_add, Nat.add_zero, xfa_ptr, run_st, B0, reduceIte, reduceEqDiff]
  refine put2_stCx (us := [.int .i64 v17.Epoch]) rfl (cs' := [v51, .int .i64 v17.Epoch, .int .i64 x39.Known]) hS60 hW rfl rfl (Nat.le_of_ble_eq_true rfl) rfl (fun h61 hS62 => ?_)
  simp only [run_ops_nil, x9_16, run_seq, run_reg, run_fa, put1_some, Nat.reduceAdd, Nat.zero_add, Nat.add_zero, xfa_ptr, run_ld, B0, reduceIte, reduceEqDiff]
  refine put1_eq (v := v51) ((xld_b (Sep.bk _ _ _ hS62)).trans rfl) ?_
  simp only [run_len, put1_some, SlF.plen hv53, run_fa, Nat.reduceAdd, Nat.zero_add, Nat.add_zero, xfa_ptr, run_st, B0, reduceIte, reduceEqDiff]
  refine put2_stCx (us := [.int .i64 (List.length x39.Log : Int)]) rfl (cs' := [v51, .int .i64 v17.Epoch,
      .int .i64 (List.length x39.Log : Int)]) hS62 hW rfl rfl (Nat.le_of_ble_eq_true rfl) rfl (fun h63 hS64 => ?_)
  simp only [run_ops_nil, x9_15, run_seq, run_reg, run_fa, put1_some, Nat.reduceAdd, Nat.zero_add, Nat.add_zero, xfa_ptr, run_ld, B0, reduceIte, reduceEqDiff]
  refine put1_eq (v := v24) ((xld_b (Sep.bk _ _ _ (Sep.m3 hS64))).trans rfl) ?_
  simp only [run_fa, put1_some, Nat.reduceAdd, Nat.zero_add, Nat.add_zero, xfa_ptr, run_ld, B0, reduceIte, reduceEqDiff]
  refine put1_eq (v := .int .i64 v17.Leader) ((xld_b (Sep.bk _ _ _ (Sep.m3 hS64))).trans rfl) ?_
  simp only [run_ld, B0, reduceIte, reduceEqDiff]
  refine put1_eq (v := .agg [v51, .int .i64 v17.Epoch, .int .i64 (List.length x39.Log : Int)]) ((xld_bs (Sep.bk _ _ _ hS64)).trans rfl) ?_
  simp only [run_ia, B0, reduceIte, reduceEqDiff]
  refine put1_eq (SlG.ia hv47 hx40) ?_
  simp only [run_st, B0, reduceIte, reduceEqDiff]
  refine put2_stGx (us := [v51, .int .i64 v17.Epoch, .int .i64 (List.length x39.Log : Int)]) (o := 0) (cs' := [v51, .int .i64 v17.Epoch,
      .int .i64 (List.length x39.Log : Int)]) rfl hv47 rfl hx40 (Sep.m1 hS64) hW rfl (all_c (SlF.one hv53) (all_c rfl (all_c rfl all_n))) (Nat.le_of_ble_eq_true rfl) rfl
      (fun c67 h65 hv68 hS66 => ?_)
  simp only [run_ops_nil, x9_14, run_seq, run_reg, run_fa, put1_some, Nat.reduceAdd, Nat.zero_add, Nat.add_zero, xfa_ptr, run_ld, B0, reduceIte, reduceEqDiff]
  refine put1_eq (v := v24) ((xld_b (Sep.bk _ _ _ (Sep.m3 hS66))).trans rfl) ?_
  simp only [run_len, put1_some, SlG.plen hv68, run_mv, run_ops_nil, B0, reduceIte, reduceEqDiff]
  obtain ⟨c69, hv70, hS71⟩ := SlG.cls (e' := (Replica.mk x39.Log v17.Epoch (List.length x39.Log : Int))) (c := c67) (os := c52) hv68 rfl hx40 hk_nil (Replica.RI (x :=
      (Replica.mk x39.Log v17.Epoch (List.length x39.Log : Int))) hv53) (Sep.m1 (Sep.m2 hS66))
  have hx72 := geti_set (x' := (Replica.mk x39.Log v17.Epoch (List.length x39.Log : Int))) hx40
  have hv73 := SlG.toN hv70
  obtain ⟨oc94, hX96, hk97⟩ := jn_some hF41
  simp only [x9_9]
  refine rangeN_j (σ := Group) (fun i92 s171 => spec_SettleGroup_b1 k i92 s171) (fun s fr' h' => ∃ v85 c86 v89 c90, fr' 1 = .ref [.int .i64 v_0.Epoch, .int .i64 v_0.Leader,
      lst cI v_0.InStep, .int .i64 v_0.High,
      lst Replica.cells v_0.Replicas] 0 ∧ fr' 2 = .ptr b5 0 ∧ fr' 5 = .ptr b33 0 ∧ SlF cI 1 3 v85 s.InStep c86 ∧ SlN Replica.R 3 51 v89 s.Replicas c90 ∧ Sep h' h.length
      ([Blk1 b5 [.int .i64 0, .int .i64 0, .nil, .int .i64 0, .nil] 29] ++ ([Blk1 b33 [.int .i64 s.Epoch, .int .i64 s.Leader, v85, .int .i64 s.High,
      v89] 29] ++ (c86 ++ (c90 ++ ([])))))) hX96 ⟨v20, c21, v24, c69, by simp only [B0, reduceIte, reduceEqDiff], by simp only [B0, reduceIte, reduceEqDiff], by simp only [B0,
      reduceIte, reduceEqDiff], hv22, hv73, (Sep.m3 (Sep.m2 (Sep.m2 (Sep.dc (Sep.m1 hS71)))))⟩ (by simp only [B0, reduceIte, reduceEqDiff]) (by simp only [B0, reduceIte,
      reduceEqDiff]) (fun _ _ _ h => h) rfl rfl (fun _ _ _ _ h => h) (fun _ _ _ _ h => h) (fun _ _ _ _ h => h) (by decide) ?_ ?_
  · rintro i92 s83 fr106 h107 hx112 ⟨v85, c86, v89, c90, f109, f110, f111, hv87, hv91, hS108⟩ f113 f114 oc95 hF98 hr99 Q100 hN101 hB105 hK102 hR103 hE104
    unfold spec_SettleGroup_b1 at hF98
    simp only [x9_7, run_seq, run_reg, f113, run_mv, run_ops_nil, x9_6, f111, run_fa, put1_some, Nat.reduceAdd, Nat.zero_add, Nat.add_zero, xfa_ptr, run_ld, B0, reduceIte,
        reduceEqDiff]
    refine put1_eq (v := .int .i64 s83.Leader) ((xld_b (Sep.bk _ _ _ (Sep.m1 hS108))).trans rfl) ?_
    simp only [run_bin, put1_some, xneq, run_ops_nil, x9_4, run_cond, B0, reduceIte, reduceEqDiff]
    obtain ⟨s115, hX125, hk126⟩ := bind_some' hF98
    refine cond_j (t := (decide ((i92 : Int) ≠ s83.Leader))) (fun fr' h' => ∃ v117 c118 v121 c122, fr' 1 = .ref [.int .i64 v_0.Epoch, .int .i64 v_0.Leader, lst cI v_0.InStep,
        .int .i64 v_0.High, lst Replica.cells v_0.Replicas] 0 ∧ fr' 2 = .ptr b5 0 ∧ fr' 5 = .ptr b33 0 ∧ fr' 7 = .int .i64 (i92 : Int) ∧ fr' 36 = .int .i64
        (List.length v17.Replicas : Int) ∧ fr' 37 = .int .i64 (i92 : Int) ∧ SlF cI 1 3 v117 s115.InStep c118 ∧ SlN Replica.R 3 51 v121 s115.Replicas c122 ∧ Sep h' h.length
        ([Blk1 b5 [.int .i64 0, .int .i64 0, .nil, .int .i64 0, .nil] 29] ++ ([Blk1 b33 [.int .i64 s115.Epoch, .int .i64 s115.Leader, v117, .int .i64 s115.High,
        v121] 29] ++ (c118 ++ (c122 ++ ([])))))) (fun Q127 hN128 hR129 hE130 => ⟨fun hc131 => ?_, fun hc131 => ?_⟩) ?_
    · rw [iteT hc131] at hX125
      simp only [x9_3, run_reg, f111, run_ld, B0, reduceIte, reduceEqDiff]
      refine put1_eq (v := .agg [.int .i64 s83.Epoch, .int .i64 s83.Leader, v85, .int .i64 s83.High, v89]) ((xld_bs (Sep.bk _ _ _ (Sep.m1 hS108))).trans rfl) ?_
      obtain ⟨v132, hx133, hF134⟩ := bind_some' hX125
      simp only [run_mv, run_call, B0, reduceIte, reduceEqDiff]
      refine call0 rfl (spec_l11Fetch_x hW k s83 v85 c86 hv87 v89 c90 hv91 (i92 : Int) 30 v132 hx133 (Sep.m3 (Sep.m3 hS108))) ?_
      rintro _ h143 ⟨v135, c136, v139, c140, rfl, hv137, hv141, hS144⟩
      simp only [f111, run_st, B0, reduceIte, reduceEqDiff]
      refine put2_stCx (us := [.int .i64 v132.Epoch, .int .i64 v132.Leader, v135, .int .i64 v132.High, v139]) rfl (cs' := [.int .i64 v132.Epoch, .int .i64 v132.Leader, v135,
          .int .i64 v132.High, v139]) (Sep.m3 hS144) hW rfl (all_c rfl (all_c rfl (all_c (SlF.one hv137) (all_c rfl (all_c (SlN.one hv141) all_n)))))
          (Nat.le_of_ble_eq_true rfl) rfl (fun h145 hS146 => ?_)
      simp only [run_ops_nil, run_nil, B0, reduceIte, reduceEqDiff]
      have e147 := some_inj hF134
      subst e147
      exact hN128 _ _ ⟨v135, c136, v139, c140, by simp only [f109, B0, reduceIte, reduceEqDiff], by simp only [f110, B0, reduceIte, reduceEqDiff], by simp only [f111, B0,
          reduceIte, reduceEqDiff], by simp only [B0, reduceIte, reduceEqDiff], by simp only [f114, B0, reduceIte, reduceEqDiff], by simp only [f113, B0, reduceIte, reduceEqDiff],
          hv137, hv141, (Sep.m3 (Sep.m2 (Sep.m2 (Sep.m2 hS146))))⟩
    · rw [iteF hc131] at hX125
      simp only [run_skip, run_nil, B0, reduceIte, reduceEqDiff]
      have e148 := some_inj hX125
      subst e148
      exact hN128 _ _ ⟨v85, c86, v89, c90, by simp only [f109, B0, reduceIte, reduceEqDiff], by simp only [f110, B0, reduceIte, reduceEqDiff], by simp only [f111, B0, reduceIte,
          reduceEqDiff], by simp only [B0, reduceIte, reduceEqDiff], by simp only [f114, B0, reduceIte, reduceEqDiff], by simp only [f113, B0, reduceIte, reduceEqDiff], hv87,
          hv91, (Sep.m3 (Sep.m3 (Sep.m3 (Sep.m3 hS108))))⟩
    rintro fr149 h150 ⟨v117, c118, v121, c122, f152, f153, f154, f155, f156, f157, hv119, hv123, hS151⟩
    unfold spec_SettleGroup_j1 at hk126
    simp only [x9_5, run_reg, f154, run_fa, put1_some, Nat.reduceAdd, Nat.zero_add, Nat.add_zero, xfa_ptr, run_ld, B0, reduceIte, reduceEqDiff]
    refine put1_eq (v := v117) ((xld_b (Sep.bk _ _ _ (Sep.m1 hS151))).trans rfl) ?_
    obtain ⟨v158, hx159, hF160⟩ := bind_some' hk126
    simp only [f155, run_mv, run_call, B0, reduceIte, reduceEqDiff]
    refine call0 rfl (spec_l1Put_x hW k v117 c118 s115.InStep hv119 (i92 : Int) v158 hx159 (Sep.m2 hS151)) ?_
    rintro v161 h165 ⟨_, c162, rfl, hv163, hS166⟩
    simp only [f154, run_fa, put1_some, Nat.reduceAdd, Nat.zero_add, Nat.add_zero, xfa_ptr, run_st, B0, reduceIte, reduceEqDiff]
    refine put2_stCx (us := [v161]) (cells_one (SlF.one hv163)) (cs' := [.int .i64 s115.Epoch, .int .i64 s115.Leader, v161, .int .i64 s115.High,
        v121]) (Sep.m2 hS166) hW rfl (all_c (SlF.one hv163) all_n) (Nat.le_of_ble_eq_true rfl) rfl (fun h167 hS168 => ?_)
    simp only [run_ops_nil, run_nil, B0, reduceIte, reduceEqDiff]
    have e169 := some_inj hF160
    exact hN101 _ _ _ e169.symm ⟨v161, c162, v121, c122, by simp only [f152, B0, reduceIte, reduceEqDiff], by simp only [f153, B0, reduceIte, reduceEqDiff], by simp only [f154,
        B0, reduceIte, reduceEqDiff], hv163, hv123, (Sep.m3 (Sep.m2 (Sep.m2 (Sep.m3 hS168))))⟩ (by simp only [f157, B0, reduceIte, reduceEqDiff]) (by simp only [f156, B0,
        reduceIte, reduceEqDiff])
  rintro s172 fr181 h182 rfl ⟨v174, c175, v178, c179, f184, f185, f186, hv176, hv180, hS183⟩
  dsimp only [jnO] at hk97
  unfold spec_SettleGroup_j3 at hk97
  simp only [x9_13, run_seq, run_reg, f186, run_ld, B0, reduceIte, reduceEqDiff]
  refine put1_eq (v := .agg [.int .i64 s172.Epoch, .int .i64 s172.Leader, v174, .int .i64 s172.High, v178]) ((xld_bs (Sep.bk _ _ _ (Sep.m1 hS183))).trans rfl) ?_
  obtain ⟨v187, hx188, hF189⟩ := bind_some' hk97
  simp only [run_call, B0, reduceIte, reduceEqDiff]
  refine call1 rfl (mapM1 (snap_agg (mapM1 snap_int (mapM1 snap_int (mapM1 (SlF.snap hv176 (Sep.m2 hS183) rfl (fun _ => rfl) (fun _ => rfl)) (mapM1 snap_int (mapM1
      (SlN.snap hv180 _ (Sep.m3 hS183) rfl Replica.RO) mapM0)))))) mapM0) (spec_l11Least_x (fun b hb => decide_eq_true hb) s172 v187 hx188) ?_
  simp only [run_mv, run_ops_nil, x9_11, run_seq, run_reg, f186, run_fa, put1_some, Nat.reduceAdd, Nat.zero_add, Nat.add_zero, xfa_ptr, run_ld, B0, reduceIte, reduceEqDiff]
  refine put1_eq (v := .int .i64 s172.High) ((xld_b (Sep.bk _ _ _ (Sep.m1 hS183))).trans rfl) ?_
  simp only [run_bin, put1_some, xgtr, run_ops_nil, x9_10, run_cond, B0, reduceIte, reduceEqDiff]
  obtain ⟨s190, hX192, hk193⟩ := bind_some' hF189
  refine cond_j (t := (decide (s172.High < v187))) (fun fr' h' => fr' 1 = .ref [.int .i64 v_0.Epoch, .int .i64 v_0.Leader, lst cI v_0.InStep, .int .i64 v_0.High,
      lst Replica.cells v_0.Replicas] 0 ∧ fr' 2 = .ptr b5 0 ∧ fr' 5 = .ptr b33 0 ∧ Sep h' h.length ([Blk1 b5 [.int .i64 0, .int .i64 0, .nil, .int .i64 0,
      .nil] 29] ++ ([Blk1 b33 [.int .i64 s190.Epoch, .int .i64 s190.Leader, v174, .int .i64 s190.High,
      v178] 29] ++ (c175 ++ (c179 ++ ([])))))) (fun Q194 hN195 hR196 hE197 => ⟨fun hc198 => ?_, fun hc198 => ?_⟩) ?_
  · rw [iteT hc198] at hX192
    simp only [run_reg, run_mv, f186, run_fa, put1_some, Nat.reduceAdd, Nat.zero_add, Nat.add_zero, xfa_ptr, run_st, B0, reduceIte, reduceEqDiff]
    refine put2_stCx (us := [.int .i64 v187]) rfl (cs' := [.int .i64 s172.Epoch, .int .i64 s172.Leader, v174, .int .i64 v187,
        v178]) (Sep.m1 hS183) hW rfl rfl (Nat.le_of_ble_eq_true rfl) rfl (fun h199 hS200 => ?_)
    simp only [run_ops_nil, run_nil, B0, reduceIte, reduceEqDiff]
    have e201 := some_inj hX192
    subst e201
    exact hN195 _ _ ⟨by simp only [f184, B0, reduceIte, reduceEqDiff], by simp only [f185, B0, reduceIte, reduceEqDiff], by simp only [f186, B0, reduceIte, reduceEqDiff],
        (Sep.m3 (Sep.m2 (Sep.m3 (Sep.m3 hS200))))⟩
  · rw [iteF hc198] at hX192
    simp only [run_skip, run_nil, B0, reduceIte, reduceEqDiff]
    have e202 := some_inj hX192
    subst e202
    exact hN195 _ _ ⟨by simp only [f184, B0, reduceIte, reduceEqDiff], by simp only [f185, B0, reduceIte, reduceEqDiff], by simp only [f186, B0, reduceIte, reduceEqDiff],
        (Sep.m3 (Sep.m3 (Sep.m3 (Sep.m3 hS183))))⟩
  rintro fr203 h204 ⟨f206, f207, f208, hS205⟩
  unfold spec_SettleGroup_j2 at hk193
  simp only [x9_12, run_seq, run_draw, f208, d4_ld, B0, reduceIte, reduceEqDiff]
  refine put1d_eq (v := .agg [.int .i64 s190.Epoch, .int .i64 s190.Leader, v174, .int .i64 s190.High, v178]) ((xld_bs (Sep.bk _ _ _ (Sep.m1 hS205))).trans rfl) ?_
  obtain ⟨v209, hx210, hF211⟩ := bind_some' hk193
  simp only [run_d2_call, B0, reduceIte, reduceEqDiff]
  refine call2q rfl hS205 (mapM1 (snap_agg (mapM1 snap_int (mapM1 snap_int (mapM1 (SlF.snap hv176 (Sep.m2 hS205) rfl (fun _ => rfl) (fun _ => rfl)) (mapM1 snap_int (mapM1
      (SlN.snap hv180 _ (Sep.m3 hS205) rfl Replica.RO) mapM0)))))) mapM0) (spec_l11Own_x (fun b hb => decide_eq_true hb)
      (Group.mk s190.Epoch s190.Leader s172.InStep s190.High s172.Replicas) v209 hx210) ?_
  rintro _ h220 ⟨v212, c213, v216, c217, rfl, hv214, hv218, hS221⟩
  refine ⟨_, free_a (all_c rfl (all_c rfl (all_c (SlF.free1 hv214) (all_c rfl (all_c (SlN.free1 hv218) all_n))))), hS221,
      (pf_app (SlF.pf hv214 (fun _ => rfl)) (pf_app (SlN.pf hv218 Replica.RO) pf_nil)), fun h222 hS223 => ?_⟩
  have hS224 : Sep h222 h.length (c213 ++ (c217 ++ ([Blk1 b5 [.int .i64 0, .int .i64 0, .nil, .int .i64 0, .nil] 29] ++ ([Blk1 b33 [.int .i64 s190.Epoch, .int .i64 s190.Leader,
      v174, .int .i64 s190.High, v178] 29] ++ (c175 ++ (c179 ++ ([]))))))) := by simpa only [List.append_assoc, List.nil_append] using hS223
  simp only [f208, d1_fa, put1d_some, Nat.reduceAdd, Nat.zero_add, Nat.add_zero, xfa_ptr, d1_ld, B0, reduceIte, reduceEqDiff]
  refine ldd_ptr (Sep.ltk (Sep.m1 hS205)) ?_
  refine put1d_eq (v := .int .i64 s190.High) ((xld_b (Sep.bk _ _ _ (Sep.m3 hS224))).trans rfl) ?_
  simp only [f206, d1_fa, put1d_some, Nat.reduceAdd, Nat.zero_add, Nat.add_zero, xfa_ref, d1_ld, ldd_ref, B0, reduceIte, reduceEqDiff]
  refine put1d_eq (v := .int .i64 v_0.High) rfl ?_
  simp only [d1_bin, put1d_some, xsub, f207, d2_st, B0, reduceIte, reduceEqDiff]
  refine q_st (disj1 (Sep.bne (Sep.m3 (Sep.m3 hS224))) disj0) ?_
  refine put2d_stCx (us := [.int .i64 v209.Epoch, .int .i64 v209.Leader, v212, .int .i64 v209.High, v216]) rfl (cs' := [.int .i64 v209.Epoch, .int .i64 v209.Leader, v212,
      .int .i64 v209.High, v216]) (Sep.m2 hS224) hW rfl (all_c rfl (all_c rfl (all_c (SlF.one hv214) (all_c rfl (all_c (SlN.one hv218) all_n))))) (Nat.le_of_ble_eq_true rfl) rfl
      (fun h225 hS226 => ?_)
  simp only [d4_mv, put1d_some, run_draw_nil, run_ret, B0, reduceIte, reduceEqDiff]
  have he := some_inj hF211
  subst he
  refine end_ret_m (mapM1 (res_cell (bb := b5) (oo := 0) (v := .agg [.int .i64 v209.Epoch, .int .i64 v209.Leader, v212, .int .i64 v209.High, v216]) (by simp only [f207, B0,
      reduceIte, reduceEqDiff]) ((xld_bs (Sep.bk _ _ _ hS226)).trans rfl)) (mapM1 (res_t (v := .int .i64 (IntKind.wrap .i64 (s190.High - v_0.High))) (by simp only [B0, reduceIte,
      reduceEqDiff])) (mapM1 (res_t (v := .bool true) (by simp only [B0, reduceIte, reduceEqDiff])) mapM0))) ?_
  exact ⟨v212, c213, v216, c217, by first | trivial | rfl, hv214, hv218, (Sep.m1 (Sep.m1 (Sep.dc (Sep.m2 (Sep.dc (Sep.m2 (Sep.dc (Sep.m2 (Sep.dc (hS226))))))))))⟩
theorem laws_toIntS_x {W : Nat → Bool} {h : Heap} (hW : ∀ b,
    h.length ≤ b → W b = true) (k : Nat) (a_0 : List Int) (r : List Int) (hF : laws_toIntS k a_0 = some r) : Ret E W 50 [lst cI a_0] h (fun v h' => ∃ rv0 rc0,
    v = rv0 ∧ SlF cI 1 3 rv0 r rc0 ∧ Sep h' h.length (rc0 ++ ([]))) := by
  refine Ret.of (fn := x50) rfl (Run.of ?_)
  unfold laws_toIntS at hF
  have zf0 : argFr [lst cI a_0] 0 = lst cI a_0 := rfl
  generalize argFr [lst cI a_0] = fr0 at zf0 ⊢
  have hS : Sep h h.length [] := Sep.nil h
  obtain ⟨l1, hx2, hF3⟩ := bind_some' hF
  simp only [x50, run_seq, run_reg, run_mv, run_ops_nil, x50_7, zf0, run_len, put1_some, xlen_lst, run_mkS, B0, reduceIte, reduceEqDiff]
  refine put2_mkSF (f := cI) (z := (0 : Int)) hS hx2 rfl (fun v4 c5 h6 hv7 hS8 => ?_)
  simp only [run_mv, run_ops_nil, x50_6, run_seq, run_reg, B0, reduceIte, reduceEqDiff]
  obtain ⟨oc20, hX22, hk23⟩ := jn_some hF3
  simp only [x50_5]
  refine loopF_j (σ := Int × (List Int)) (fun s55 => laws_toIntS_b1 a_0 s55.1 s55.2) (fun s fr' h' => ∃ c16,
      fr' 0 = lst cI a_0 ∧ fr' 3 = v4 ∧ fr' 4 = .int .i64 s.1 ∧ SlF cI 1 3 v4 s.2 c16 ∧ Sep h' h.length (c16 ++ ([]))) hX22 ⟨c5, by simp only [zf0, B0, reduceIte, reduceEqDiff],
      by simp only [B0, reduceIte, reduceEqDiff], by simp only [B0, reduceIte, reduceEqDiff], hv7, hS8⟩ (fun _ _ _ h => h) ?_ ?_
  · rintro ⟨s14, s15⟩ fr32 h33 ⟨c16, f35, f36, f37, hv17, hS34⟩ oc21 hF24 hr25 Q26 hN27 hK28 hR29 hE30
    dsimp only at *
    unfold laws_toIntS_b1 at hF24
    simp only [x50_3, run_seq, run_reg, f37, run_mv, f35, run_len, put1_some, xlen_lst, run_bin, xlss, run_ops_nil, run_cond, B0, reduceIte, reduceEqDiff]
    refine cond_split (t := (decide (s14 < (List.length a_0 : Int)))) (fun hc39 => ?_) (fun hc39 => ?_)
    · rw [iteT hc39] at hF24
      obtain ⟨x40, hx41, hF42⟩ := bind_some' hF24
      simp only [run_skip, x50_2, run_seq, run_block, x50_1, run_reg, f36, run_mv, f37, f35, run_ia, B0, reduceIte, reduceEqDiff]
      refine put1_eq (v := .ref (cI x40) 0) (xia_lst hx41 rfl) ?_
      simp only [run_ld, B0, reduceIte, reduceEqDiff]
      refine put1_eq (v := .int .i64 x40) rfl ?_
      obtain ⟨x43, hx44, hF45⟩ := bind_some' hF42
      simp only [run_ia, B0, reduceIte, reduceEqDiff]
      obtain ⟨b46, hb47⟩ := SlF.isrow hv17 (geti_ne hx44)
      refine put1_eq (SlF.ia hv17 hb47 hx44) ?_
      simp only [run_st, B0, reduceIte, reduceEqDiff]
      refine put2_stF (f := cI) (x' := x40) (o := 0) hv17 hS34 hW hb47 hx44 (fun _ => rfl) rfl rfl (Nat.le_of_ble_eq_true rfl) rfl (fun c50 h48 hv51 hS49 => ?_)
      have hx52 := geti_set (x' := x40) hx44
      simp only [run_ops_nil, run_blk, run_reg, f37, run_mv, run_bin, put1_some, xadd, run_nil, B0, reduceIte, reduceEqDiff]
      have e53 := some_inj hF45
      exact hN27 _ _ _ e53.symm ⟨c50, by simp only [f35, B0, reduceIte, reduceEqDiff], by simp only [f36, B0, reduceIte, reduceEqDiff], by simp only [B0, reduceIte, reduceEqDiff],
          hv51, hS49⟩
    rw [iteF hc39] at hF24
    simp only [run_exit, out_code, out_nil, B0, reduceIte, reduceEqDiff]
    have e54 := some_inj hF24
    exact hK28 _ _ _ e54.symm ⟨c16, by simp only [f35, B0, reduceIte, reduceEqDiff], by simp only [f36, B0, reduceIte, reduceEqDiff], by simp only [f37, B0, reduceIte,
        reduceEqDiff], hv17, hS34⟩
  rintro ⟨s56, s57⟩ fr60 h61 rfl ⟨c58, f63, f64, f65, hv59, hS62⟩
  dsimp only [jnO] at hk23
  dsimp only at *
  unfold laws_toIntS_j1 at hk23
  simp only [run_seq, run_reg, f64, run_mv, run_ops_nil, run_ret, B0, reduceIte, reduceEqDiff]
  have he := some_inj hk23
  subst he
  simp only [end_ret1, B0, reduceIte, reduceEqDiff]
  exact ⟨v4, c58, by first | trivial | rfl, hv59, hS62⟩
theorem laws_toRow_x {W : Nat → Bool} {h : Heap} (hW : ∀ b,
    h.length ≤ b → W b = true) (a_0 : Row) (r : Row) (hF : some (laws_toRow a_0) = some r) : Ret E W 100 [.agg [.int .i64 a_0.Epoch,
    .int .i64 a_0.Value]] h (fun v h' => cut h.length h' E.sz false 9 v = some (.agg [.int .i64 r.Epoch, .int .i64 r.Value])) := by
  refine Ret.of (fn := x100) rfl (Run.of ?_)
  unfold laws_toRow at hF
  have zf0 : argFr [.agg [.int .i64 a_0.Epoch, .int .i64 a_0.Value]] 0 = .agg [.int .i64 a_0.Epoch, .int .i64 a_0.Value] := rfl
  generalize argFr [.agg [.int .i64 a_0.Epoch, .int .i64 a_0.Value]] = fr0 at zf0 ⊢
  have hS : Sep h h.length [] := Sep.nil h
  simp only [x100, run_seq, run_reg, run_box, zf0, B0, reduceIte, reduceEqDiff]
  refine put2_boxC (cs := [.int .i64 a_0.Epoch, .int .i64 a_0.Value]) hS rfl rfl rfl (fun b1 h2 hS3 => ?_)
  simp only [run_new, B0, reduceIte, reduceEqDiff]
  refine put2_newC hS3 (fun b5 h6 hS7 => ?_)
  simp only [run_ops_nil, B0, reduceIte, reduceEqDiff]
  refine frz_stepC (Sep.m1 hS7) hW (by simp only [B0, reduceIte, reduceEqDiff]) (fun h9 hS10 => ?_)
  simp only [run_frz_nil, x100_3, run_seq, run_reg, run_new, B0, reduceIte, reduceEqDiff]
  refine put2_newC hS10 (fun b11 h12 hS13 => ?_)
  simp only [run_ops_nil, x100_2, run_seq, run_reg, run_fa, put1_some, Nat.reduceAdd, Nat.zero_add, Nat.add_zero, xfa_ref, run_ld, B0, reduceIte, reduceEqDiff]
  refine put1_eq (v := .int .i64 a_0.Epoch) rfl ?_
  simp only [run_fa, put1_some, Nat.reduceAdd, Nat.zero_add, Nat.add_zero, xfa_ptr, run_st, B0, reduceIte, reduceEqDiff]
  refine put2_stCx (us := [.int .i64 a_0.Epoch]) rfl (cs' := [.int .i64 a_0.Epoch, .int .i64 0]) hS13 hW rfl rfl (Nat.le_of_ble_eq_true rfl) rfl (fun h15 hS16 => ?_)
  simp only [run_ops_nil, x100_1, run_seq, run_reg, run_fa, put1_some, Nat.reduceAdd, Nat.zero_add, Nat.add_zero, xfa_ref, run_ld, B0, reduceIte, reduceEqDiff]
  refine put1_eq (v := .int .i64 a_0.Value) rfl ?_
  simp only [run_fa, put1_some, Nat.reduceAdd, Nat.zero_add, Nat.add_zero, xfa_ptr, run_st, B0, reduceIte, reduceEqDiff]
  refine put2_stCx (us := [.int .i64 a_0.Value]) rfl (cs' := [.int .i64 a_0.Epoch, .int .i64 a_0.Value]) hS16 hW rfl rfl (Nat.le_of_ble_eq_true rfl) rfl (fun h17 hS18 => ?_)
  simp only [run_ops_nil, run_seq, run_reg, run_ld, B0, reduceIte, reduceEqDiff]
  refine put1_eq (v := .agg [.int .i64 a_0.Epoch, .int .i64 a_0.Value]) ((xld_bs (Sep.bk _ _ _ hS18)).trans rfl) ?_
  simp only [run_st, B0, reduceIte, reduceEqDiff]
  refine put2_stCx (us := [.int .i64 a_0.Epoch, .int .i64 a_0.Value]) rfl (cs' := [.int .i64 a_0.Epoch,
      .int .i64 a_0.Value]) (Sep.m1 hS18) hW rfl rfl (Nat.le_of_ble_eq_true rfl) rfl (fun h19 hS20 => ?_)
  simp only [run_ops_nil, run_ret, B0, reduceIte, reduceEqDiff]
  have he := some_inj hF
  subst he
  refine end_ret_cell (bb := b5) (oo := 0) (v := .agg [.int .i64 a_0.Epoch, .int .i64 a_0.Value]) (by simp only [B0, reduceIte,
      reduceEqDiff]) ((xld_bs (Sep.bk _ _ _ hS20)).trans rfl) ?_
  exact (cut_agg (mapM1 rfl (mapM1 rfl mapM0)))
theorem laws_toRowS_x {W : Nat → Bool} {h : Heap} (hW : ∀ b,
    h.length ≤ b → W b = true) (k : Nat) (a_0 : List Row) (r : List Row) (hF : laws_toRowS k a_0 = some r) : Ret E W 93 [lst Row.cells a_0] h (fun v h' => ∃ rv0 rc0,
    v = rv0 ∧ SlF Row.cells 2 98 rv0 r rc0 ∧ Sep h' h.length (rc0 ++ ([]))) := by
  refine Ret.of (fn := x93) rfl (Run.of ?_)
  unfold laws_toRowS at hF
  have zf0 : argFr [lst Row.cells a_0] 0 = lst Row.cells a_0 := rfl
  generalize argFr [lst Row.cells a_0] = fr0 at zf0 ⊢
  have hS : Sep h h.length [] := Sep.nil h
  obtain ⟨l1, hx2, hF3⟩ := bind_some' hF
  simp only [x93, run_seq, run_reg, run_mv, run_ops_nil, x93_7, zf0, run_len, put1_some, xlen_lst, run_mkS, B0, reduceIte, reduceEqDiff]
  refine put2_mkSF (f := Row.cells) (z := (Row.mk (0 : Int) (0 : Int))) hS hx2 rfl (fun v4 c5 h6 hv7 hS8 => ?_)
  simp only [run_mv, run_ops_nil, x93_6, run_seq, run_reg, B0, reduceIte, reduceEqDiff]
  obtain ⟨oc20, hX22, hk23⟩ := jn_some hF3
  simp only [x93_5]
  refine loopF_j (σ := Int × (List Row)) (fun s55 => laws_toRowS_b1 a_0 s55.1 s55.2) (fun s fr' h' => ∃ c16,
      fr' 0 = lst Row.cells a_0 ∧ fr' 3 = v4 ∧ fr' 4 = .int .i64 s.1 ∧ SlF Row.cells 2 98 v4 s.2 c16 ∧ Sep h' h.length (c16 ++ ([]))) hX22 ⟨c5, by simp only [zf0, B0, reduceIte,
      reduceEqDiff], by simp only [B0, reduceIte, reduceEqDiff], by simp only [B0, reduceIte, reduceEqDiff], hv7, hS8⟩ (fun _ _ _ h => h) ?_ ?_
  · rintro ⟨s14, s15⟩ fr32 h33 ⟨c16, f35, f36, f37, hv17, hS34⟩ oc21 hF24 hr25 Q26 hN27 hK28 hR29 hE30
    dsimp only at *
    unfold laws_toRowS_b1 at hF24
    simp only [x93_3, run_seq, run_reg, f37, run_mv, f35, run_len, put1_some, xlen_lst, run_bin, xlss, run_ops_nil, run_cond, B0, reduceIte, reduceEqDiff]
    refine cond_split (t := (decide (s14 < (List.length a_0 : Int)))) (fun hc39 => ?_) (fun hc39 => ?_)
    · rw [iteT hc39] at hF24
      obtain ⟨x40, hx41, hF42⟩ := bind_some' hF24
      simp only [run_skip, x93_2, run_seq, run_block, x93_1, run_reg, f36, run_mv, f37, f35, run_ia, B0, reduceIte, reduceEqDiff]
      refine put1_eq (v := .ref (Row.cells x40) 0) (xia_lst hx41 rfl) ?_
      simp only [run_ld, B0, reduceIte, reduceEqDiff]
      refine put1_eq (v := .agg [.int .i64 x40.Epoch, .int .i64 x40.Value]) rfl ?_
      simp only [run_call, B0, reduceIte, reduceEqDiff]
      refine call1 rfl (mapM1 (snap_agg (mapM1 snap_int (mapM1 snap_int mapM0))) mapM0) (laws_toRow_x (fun b hb => decide_eq_true hb) x40 _ rfl) ?_
      obtain ⟨x43, hx44, hF45⟩ := bind_some' hF42
      simp only [run_ia, B0, reduceIte, reduceEqDiff]
      obtain ⟨b46, hb47⟩ := SlF.isrow hv17 (geti_ne hx44)
      refine put1_eq (SlF.ia hv17 hb47 hx44) ?_
      simp only [run_st, B0, reduceIte, reduceEqDiff]
      refine put2_stF (f := Row.cells) (x' := (laws_toRow x40)) (o := 0) hv17 hS34 hW hb47 hx44 (fun _ => rfl) rfl rfl (Nat.le_of_ble_eq_true rfl) rfl (fun c50 h48 hv51 hS49 => ?_)
      have hx52 := geti_set (x' := (laws_toRow x40)) hx44
      simp only [run_ops_nil, run_blk, run_reg, f37, run_mv, run_bin, put1_some, xadd, run_nil, B0, reduceIte, reduceEqDiff]
      have e53 := some_inj hF45
      exact hN27 _ _ _ e53.symm ⟨c50, by simp only [f35, B0, reduceIte, reduceEqDiff], by simp only [f36, B0, reduceIte, reduceEqDiff], by simp only [B0, reduceIte, reduceEqDiff],
          hv51, hS49⟩
    rw [iteF hc39] at hF24
    simp only [run_exit, out_code, out_nil, B0, reduceIte, reduceEqDiff]
    have e54 := some_inj hF24
    exact hK28 _ _ _ e54.symm ⟨c16, by simp only [f35, B0, reduceIte, reduceEqDiff], by simp only [f36, B0, reduceIte, reduceEqDiff], by simp only [f37, B0, reduceIte,
        reduceEqDiff], hv17, hS34⟩
  rintro ⟨s56, s57⟩ fr60 h61 rfl ⟨c58, f63, f64, f65, hv59, hS62⟩
  dsimp only [jnO] at hk23
  dsimp only at *
  unfold laws_toRowS_j1 at hk23
  simp only [run_seq, run_reg, f64, run_mv, run_ops_nil, run_ret, B0, reduceIte, reduceEqDiff]
  have he := some_inj hk23
  subst he
  simp only [end_ret1, B0, reduceIte, reduceEqDiff]
  exact ⟨v4, c58, by first | trivial | rfl, hv59, hS62⟩
theorem laws_toReplica_x {W : Nat → Bool} {h : Heap} (hW : ∀ b,
    h.length ≤ b → W b = true) (k : Nat) (a_0 : Replica) (r : Replica) (hF : laws_toReplica k a_0 = some r) : Ret E W 79 [.agg [lst Row.cells a_0.Log, .int .i64 a_0.Epoch,
    .int .i64 a_0.Known]] h (fun v h' => ∃ rv0_0 rc0_0, v = .agg [rv0_0, .int .i64 r.Epoch,
    .int .i64 r.Known] ∧ SlF Row.cells 2 98 rv0_0 r.Log rc0_0 ∧ Sep h' h.length (rc0_0 ++ ([]))) := by
  refine Ret.of (fn := x79) rfl (Run.of ?_)
  unfold laws_toReplica at hF
  have zf0 : argFr [.agg [lst Row.cells a_0.Log, .int .i64 a_0.Epoch, .int .i64 a_0.Known]] 0 = .agg [lst Row.cells a_0.Log, .int .i64 a_0.Epoch, .int .i64 a_0.Known] := rfl
  generalize argFr [.agg [lst Row.cells a_0.Log, .int .i64 a_0.Epoch, .int .i64 a_0.Known]] = fr0 at zf0 ⊢
  have hS : Sep h h.length [] := Sep.nil h
  simp only [x79, run_seq, run_reg, run_box, zf0, B0, reduceIte, reduceEqDiff]
  refine put2_boxC (cs := [lst Row.cells a_0.Log, .int .i64 a_0.Epoch, .int .i64 a_0.Known]) hS rfl rfl rfl (fun b1 h2 hS3 => ?_)
  simp only [run_new, B0, reduceIte, reduceEqDiff]
  refine put2_newC hS3 (fun b5 h6 hS7 => ?_)
  simp only [run_ops_nil, B0, reduceIte, reduceEqDiff]
  refine frz_stepC (Sep.m1 hS7) hW (by simp only [B0, reduceIte, reduceEqDiff]) (fun h9 hS10 => ?_)
  simp only [run_frz_nil, x79_4, run_seq, run_reg, run_new, B0, reduceIte, reduceEqDiff]
  refine put2_newC hS10 (fun b11 h12 hS13 => ?_)
  simp only [run_ops_nil, x79_3, run_seq, run_reg, run_fa, put1_some, Nat.reduceAdd, Nat.zero_add, Nat.add_zero, xfa_ref, run_ld, B0, reduceIte, reduceEqDiff]
  refine put1_eq (v := lst Row.cells a_0.Log) rfl ?_
  obtain ⟨v15, hx16, hF17⟩ := bind_some' hF
  simp only [run_call, B0, reduceIte, reduceEqDiff]
  refine call2 rfl hS13 (mapM1 snap_lst mapM0) (laws_toRowS_x (fun b hb => decide_eq_true hb) k a_0.Log v15 hx16) ?_
  rintro v18 h22 ⟨_, c19, rfl, hv20, hS23⟩
  refine ⟨_, free_1 (SlF.free1 hv20), hS23, (pf_app (SlF.pf hv20 (fun _ => rfl)) pf_nil), fun h24 hS25 => ?_⟩
  have hS26 : Sep h24 h.length (c19 ++ ([Blk1 b11 [.nil, .int .i64 0, .int .i64 0] 51] ++ ([Blk1 b5 [.nil, .int .i64 0,
      .int .i64 0] 51] ++ ([])))) := by simpa only [List.append_assoc, List.nil_append] using hS25
  simp only [run_fa, put1_some, Nat.reduceAdd, Nat.zero_add, Nat.add_zero, xfa_ptr, run_st, B0, reduceIte, reduceEqDiff]
  refine put2_stCx (us := [v18]) (cells_one (SlF.one hv20)) (cs' := [v18, .int .i64 0,
      .int .i64 0]) (Sep.m1 hS26) hW rfl (all_c (SlF.one hv20) all_n) (Nat.le_of_ble_eq_true rfl) rfl (fun h27 hS28 => ?_)
  simp only [run_ops_nil, x79_2, run_seq, run_reg, run_fa, put1_some, Nat.reduceAdd, Nat.zero_add, Nat.add_zero, xfa_ref, run_ld, B0, reduceIte, reduceEqDiff]
  refine put1_eq (v := .int .i64 a_0.Epoch) rfl ?_
  simp only [run_fa, put1_some, Nat.reduceAdd, Nat.zero_add, Nat.add_zero, xfa_ptr, run_st, B0, reduceIte, reduceEqDiff]
  refine put2_stCx (us := [.int .i64 a_0.Epoch]) rfl (cs' := [v18, .int .i64 a_0.Epoch, .int .i64 0]) hS28 hW rfl rfl (Nat.le_of_ble_eq_true rfl) rfl (fun h29 hS30 => ?_)
  simp only [run_ops_nil, x79_1, run_seq, run_reg, run_fa, put1_some, Nat.reduceAdd, Nat.zero_add, Nat.add_zero, xfa_ref, run_ld, B0, reduceIte, reduceEqDiff]
  refine put1_eq (v := .int .i64 a_0.Known) rfl ?_
  simp only [run_fa, put1_some, Nat.reduceAdd, Nat.zero_add, Nat.add_zero, xfa_ptr, run_st, B0, reduceIte, reduceEqDiff]
  refine put2_stCx (us := [.int .i64 a_0.Known]) rfl (cs' := [v18, .int .i64 a_0.Epoch, .int .i64 a_0.Known]) hS30 hW rfl rfl (Nat.le_of_ble_eq_true rfl) rfl (fun h31 hS32 => ?_)
  simp only [run_ops_nil, run_seq, run_reg, run_ld, B0, reduceIte, reduceEqDiff]
  refine put1_eq (v := .agg [v18, .int .i64 a_0.Epoch, .int .i64 a_0.Known]) ((xld_bs (Sep.bk _ _ _ hS32)).trans rfl) ?_
  simp only [run_st, B0, reduceIte, reduceEqDiff]
  refine put2_stCx (us := [v18, .int .i64 a_0.Epoch, .int .i64 a_0.Known]) rfl (cs' := [v18, .int .i64 a_0.Epoch,
      .int .i64 a_0.Known]) (Sep.m2 hS32) hW rfl (all_c (SlF.one hv20) (all_c rfl (all_c rfl all_n))) (Nat.le_of_ble_eq_true rfl) rfl (fun h33 hS34 => ?_)
  simp only [run_ops_nil, run_ret, B0, reduceIte, reduceEqDiff]
  have he := some_inj hF17
  subst he
  refine end_ret_cell (bb := b5) (oo := 0) (v := .agg [v18, .int .i64 a_0.Epoch, .int .i64 a_0.Known]) (by simp only [B0, reduceIte,
      reduceEqDiff]) ((xld_bs (Sep.bk _ _ _ hS34)).trans rfl) ?_
  exact ⟨v18, c19, by first | trivial | rfl, hv20, (Sep.dc ((Sep.dc (hS34))))⟩
theorem laws_toReplicaS_x {W : Nat → Bool} {h : Heap} (hW : ∀ b,
    h.length ≤ b → W b = true) (k : Nat) (a_0 : List Replica) (r : List Replica) (hF : laws_toReplicaS k a_0 = some r) : Ret E W 51 [lst Replica.cells a_0] h
    (fun v h' => ∃ rv0 rc0, v = rv0 ∧ SlN Replica.R 3 51 rv0 r rc0 ∧ Sep h' h.length (rc0 ++ ([]))) := by
  refine Ret.of (fn := x51) rfl (Run.of ?_)
  unfold laws_toReplicaS at hF
  have zf0 : argFr [lst Replica.cells a_0] 0 = lst Replica.cells a_0 := rfl
  generalize argFr [lst Replica.cells a_0] = fr0 at zf0 ⊢
  have hS : Sep h h.length [] := Sep.nil h
  obtain ⟨l1, hx2, hF3⟩ := bind_some' hF
  simp only [x51, run_seq, run_reg, run_mv, run_ops_nil, x51_7, zf0, run_len, put1_some, xlen_lst, run_mkS, B0, reduceIte, reduceEqDiff]
  refine put2_mkSN (R := Replica.R) (e := (Replica.mk [] (0 : Int) (0 : Int))) (z := [.nil, .int .i64 0,
      .int .i64 0]) hS hx2 (Replica.RI (x := (Replica.mk [] 0 0)) SlF.nil) rfl (fun v4 c5 h6 hv7 hS8 => ?_)
  simp only [run_mv, run_ops_nil, x51_6, run_seq, run_reg, B0, reduceIte, reduceEqDiff]
  obtain ⟨oc20, hX22, hk23⟩ := jn_some hF3
  simp only [x51_5]
  refine loopF_j (σ := Int × (List Replica)) (fun s82 => laws_toReplicaS_b1 k a_0 s82.1 s82.2) (fun s fr' h' => ∃ c16,
      fr' 0 = lst Replica.cells a_0 ∧ fr' 3 = v4 ∧ fr' 4 = .int .i64 s.1 ∧ SlN Replica.R 3 51 v4 s.2 c16 ∧ Sep h' h.length (c16 ++ ([]))) hX22 ⟨c5, by simp only [zf0, B0,
      reduceIte, reduceEqDiff], by simp only [B0, reduceIte, reduceEqDiff], by simp only [B0, reduceIte, reduceEqDiff], hv7, hS8⟩ (fun _ _ _ h => h) ?_ ?_
  · rintro ⟨s14, s15⟩ fr32 h33 ⟨c16, f35, f36, f37, hv17, hS34⟩ oc21 hF24 hr25 Q26 hN27 hK28 hR29 hE30
    dsimp only at *
    unfold laws_toReplicaS_b1 at hF24
    simp only [x51_3, run_seq, run_reg, f37, run_mv, f35, run_len, put1_some, xlen_lst, run_bin, xlss, run_ops_nil, run_cond, B0, reduceIte, reduceEqDiff]
    refine cond_split (t := (decide (s14 < (List.length a_0 : Int)))) (fun hc39 => ?_) (fun hc39 => ?_)
    · rw [iteT hc39] at hF24
      obtain ⟨x40, hx41, hF42⟩ := bind_some' hF24
      simp only [run_skip, x51_2, run_seq, run_block, x51_1, run_reg, f36, run_mv, f37, f35, run_ia, B0, reduceIte, reduceEqDiff]
      refine put1_eq (v := .ref (Replica.cells x40) 0) (xia_lst hx41 rfl) ?_
      simp only [run_ld, B0, reduceIte, reduceEqDiff]
      refine put1_eq (v := .agg [lst Row.cells x40.Log, .int .i64 x40.Epoch, .int .i64 x40.Known]) rfl ?_
      obtain ⟨v43, hx44, hF45⟩ := bind_some' hF42
      simp only [run_call, B0, reduceIte, reduceEqDiff]
      refine call2 rfl hS34 (mapM1 (snap_agg (mapM1 snap_lst (mapM1 snap_int (mapM1 snap_int mapM0)))) mapM0) (laws_toReplica_x (fun b hb => decide_eq_true hb) k x40 v43 hx44) ?_
      rintro _ h50 ⟨v46, c47, rfl, hv48, hS51⟩
      refine ⟨_, free_a (all_c (SlF.free1 hv48) (all_c rfl (all_c rfl all_n))), hS51, (pf_app (SlF.pf hv48 (fun _ => rfl)) pf_nil), fun h52 hS53 => ?_⟩
      have hS54 : Sep h52 h.length (c47 ++ (c16 ++ ([]))) := by simpa only [List.append_assoc, List.nil_append] using hS53
      obtain ⟨x55, hx56, hF57⟩ := bind_some' hF45
      simp only [run_ia, B0, reduceIte, reduceEqDiff]
      obtain ⟨b58, hb59⟩ := SlN.isrow hv17 (geti_ne hx56)
      refine put1_eq (SlN.ia hv17 hb59 hx56) ?_
      obtain ⟨c62, cs63, os64, hv65, hR66, hS67⟩ := SlG.opn (SlN.toG hv17 hb59 Replica.RO.len) hx56 hk_nil Replica.RO.len (Sep.m1 hS54)
      obtain ⟨v69, c70, hv71, rfl, rfl⟩ := hR66
      have hS68 := Sep.no1 hS67
      simp only [run_st, B0, reduceIte, reduceEqDiff]
      refine put2_stGx (us := [v46, .int .i64 v43.Epoch, .int .i64 v43.Known]) (o := 0) (cs' := [v46, .int .i64 v43.Epoch,
          .int .i64 v43.Known]) rfl hv65 rfl hx56 hS68 hW rfl (all_c (SlF.one hv48) (all_c rfl (all_c rfl all_n))) (Nat.le_of_ble_eq_true rfl) rfl (fun c73 h60 hv74 hS61 => ?_)
      simp only [run_ops_nil, run_blk, run_reg, f37, run_mv, run_bin, put1_some, xadd, run_nil, B0, reduceIte, reduceEqDiff]
      obtain ⟨c75, hv76, hS77⟩ := SlG.cls (e' := v43) (c := c73) (os := c47) hv74 rfl hx56 hk_nil (Replica.RI (x := v43) hv48) (Sep.m1 (Sep.m2 hS61))
      have hx78 := geti_set (x' := v43) hx56
      have hv79 := SlG.toN hv76
      have e80 := some_inj hF57
      exact hN27 _ _ _ e80.symm ⟨c75, by simp only [f35, B0, reduceIte, reduceEqDiff], by simp only [f36, B0, reduceIte, reduceEqDiff], by simp only [B0, reduceIte, reduceEqDiff],
          hv79, (Sep.dc (Sep.m1 hS77))⟩
    rw [iteF hc39] at hF24
    simp only [run_exit, out_code, out_nil, B0, reduceIte, reduceEqDiff]
    have e81 := some_inj hF24
    exact hK28 _ _ _ e81.symm ⟨c16, by simp only [f35, B0, reduceIte, reduceEqDiff], by simp only [f36, B0, reduceIte, reduceEqDiff], by simp only [f37, B0, reduceIte,
        reduceEqDiff], hv17, hS34⟩
  rintro ⟨s83, s84⟩ fr87 h88 rfl ⟨c85, f90, f91, f92, hv86, hS89⟩
  dsimp only [jnO] at hk23
  dsimp only at *
  unfold laws_toReplicaS_j1 at hk23
  simp only [run_seq, run_reg, f91, run_mv, run_ops_nil, run_ret, B0, reduceIte, reduceEqDiff]
  have he := some_inj hk23
  subst he
  simp only [end_ret1, B0, reduceIte, reduceEqDiff]
  exact ⟨v4, c85, by first | trivial | rfl, hv86, hS89⟩
end Go.Proofs.Ytefgfcalgjmhjaa.X
namespace Go.Proofs.Ytefgfcalgjmhjaa.X
open Go
open Nat (reduceEqDiff)
theorem laws_toGroup_x {W : Nat → Bool} {h : Heap} (hW : ∀ b,
    h.length ≤ b → W b = true) (k : Nat) (a_0 : Group) (r : Group) (hF : laws_toGroup k a_0 = some r) : Ret E W 10 [.agg [.int .i64 a_0.Epoch, .int .i64 a_0.Leader,
    lst cI a_0.InStep, .int .i64 a_0.High, lst Replica.cells a_0.Replicas]] h (fun v h' => ∃ rv0_2 rc0_2 rv0_4 rc0_4, v = .agg [.int .i64 r.Epoch, .int .i64 r.Leader, rv0_2,
    .int .i64 r.High, rv0_4] ∧ SlF cI 1 3 rv0_2 r.InStep rc0_2 ∧ SlN Replica.R 3 51 rv0_4 r.Replicas rc0_4 ∧ Sep h' h.length (rc0_2 ++ (rc0_4 ++ ([])))) := by
  refine Ret.of (fn := x10) rfl (Run.of ?_)
  unfold laws_toGroup at hF
  have zf0 : argFr [.agg [.int .i64 a_0.Epoch, .int .i64 a_0.Leader, lst cI a_0.InStep, .int .i64 a_0.High, lst Replica.cells a_0.Replicas]] 0 = .agg [.int .i64 a_0.Epoch,
      .int .i64 a_0.Leader, lst cI a_0.InStep, .int .i64 a_0.High, lst Replica.cells a_0.Replicas] := rfl
  generalize argFr [.agg [.int .i64 a_0.Epoch, .int .i64 a_0.Leader, lst cI a_0.InStep, .int .i64 a_0.High, lst Replica.cells a_0.Replicas]] = fr0 at zf0 ⊢
  have hS : Sep h h.length [] := Sep.nil h
  simp only [x10, run_seq, run_reg, run_box, zf0, B0, reduceIte, reduceEqDiff]
  refine put2_boxC (cs := [.int .i64 a_0.Epoch, .int .i64 a_0.Leader, lst cI a_0.InStep, .int .i64 a_0.High, lst Replica.cells a_0.Replicas]) hS rfl rfl rfl (fun b1 h2 hS3 => ?_)
  simp only [run_new, B0, reduceIte, reduceEqDiff]
  refine put2_newC hS3 (fun b5 h6 hS7 => ?_)
  simp only [run_ops_nil, B0, reduceIte, reduceEqDiff]
  refine frz_stepC (Sep.m1 hS7) hW (by simp only [B0, reduceIte, reduceEqDiff]) (fun h9 hS10 => ?_)
  simp only [run_frz_nil, x10_6, run_seq, run_reg, run_new, B0, reduceIte, reduceEqDiff]
  refine put2_newC hS10 (fun b11 h12 hS13 => ?_)
  simp only [run_ops_nil, x10_5, run_seq, run_reg, run_fa, put1_some, Nat.reduceAdd, Nat.zero_add, Nat.add_zero, xfa_ref, run_ld, B0, reduceIte, reduceEqDiff]
  refine put1_eq (v := .int .i64 a_0.Epoch) rfl ?_
  simp only [run_fa, put1_some, Nat.reduceAdd, Nat.zero_add, Nat.add_zero, xfa_ptr, run_st, B0, reduceIte, reduceEqDiff]
  refine put2_stCx (us := [.int .i64 a_0.Epoch]) rfl (cs' := [.int .i64 a_0.Epoch, .int .i64 0, .nil, .int .i64 0,
      .nil]) hS13 hW rfl rfl (Nat.le_of_ble_eq_true rfl) rfl (fun h15 hS16 => ?_)
  simp only [run_ops_nil, x10_4, run_seq, run_reg, run_fa, put1_some, Nat.reduceAdd, Nat.zero_add, Nat.add_zero, xfa_ref, run_ld, B0, reduceIte, reduceEqDiff]
  refine put1_eq (v := .int .i64 a_0.Leader) rfl ?_
  simp only [run_fa, put1_some, Nat.reduceAdd, Nat.zero_add, Nat.add_zero, xfa_ptr, run_st, B0, reduceIte, reduceEqDiff]
  refine put2_stCx (us := [.int .i64 a_0.Leader]) rfl (cs' := [.int .i64 a_0.Epoch, .int .i64 a_0.Leader, .nil, .int .i64 0,
      .nil]) hS16 hW rfl rfl (Nat.le_of_ble_eq_true rfl) rfl (fun h17 hS18 => ?_)
  simp only [run_ops_nil, x10_3, run_seq, run_reg, run_fa, put1_some, Nat.reduceAdd, Nat.zero_add, Nat.add_zero, xfa_ref, run_ld, B0, reduceIte, reduceEqDiff]
  refine put1_eq (v := lst cI a_0.InStep) rfl ?_
  obtain ⟨v19, hx20, hF21⟩ := bind_some' hF
  simp only [run_call, B0, reduceIte, reduceEqDiff]
  refine call2 rfl hS18 (mapM1 snap_lst mapM0) (laws_toIntS_x (fun b hb => decide_eq_true hb) k a_0.InStep v19 hx20) ?_
  rintro v22 h26 ⟨_, c23, rfl, hv24, hS27⟩
  refine ⟨_, free_1 (SlF.free1 hv24), hS27, (pf_app (SlF.pf hv24 (fun _ => rfl)) pf_nil), fun h28 hS29 => ?_⟩
  have hS30 : Sep h28 h.length (c23 ++ ([Blk1 b11 [.int .i64 a_0.Epoch, .int .i64 a_0.Leader, .nil, .int .i64 0, .nil] 29] ++ ([Blk1 b5 [.int .i64 0, .int .i64 0, .nil,
      .int .i64 0, .nil] 29] ++ ([])))) := by simpa only [List.append_assoc, List.nil_append] using hS29
  simp only [run_fa, put1_some, Nat.reduceAdd, Nat.zero_add, Nat.add_zero, xfa_ptr, run_st, B0, reduceIte, reduceEqDiff]
  refine put2_stCx (us := [v22]) (cells_one (SlF.one hv24)) (cs' := [.int .i64 a_0.Epoch, .int .i64 a_0.Leader, v22, .int .i64 0,
      .nil]) (Sep.m1 hS30) hW rfl (all_c (SlF.one hv24) all_n) (Nat.le_of_ble_eq_true rfl) rfl (fun h31 hS32 => ?_)
  simp only [run_ops_nil, x10_2, run_seq, run_reg, run_fa, put1_some, Nat.reduceAdd, Nat.zero_add, Nat.add_zero, xfa_ref, run_ld, B0, reduceIte, reduceEqDiff]
  refine put1_eq (v := .int .i64 a_0.High) rfl ?_
  simp only [run_fa, put1_some, Nat.reduceAdd, Nat.zero_add, Nat.add_zero, xfa_ptr, run_st, B0, reduceIte, reduceEqDiff]
  refine put2_stCx (us := [.int .i64 a_0.High]) rfl (cs' := [.int .i64 a_0.Epoch, .int .i64 a_0.Leader, v22, .int .i64 a_0.High,
      .nil]) hS32 hW rfl rfl (Nat.le_of_ble_eq_true rfl) rfl (fun h33 hS34 => ?_)
  simp only [run_ops_nil, x10_1, run_seq, run_reg, run_fa, put1_some, Nat.reduceAdd, Nat.zero_add, Nat.add_zero, xfa_ref, run_ld, B0, reduceIte, reduceEqDiff]
  refine put1_eq (v := lst Replica.cells a_0.Replicas) rfl ?_
  obtain ⟨v35, hx36, hF37⟩ := bind_some' hF21
  simp only [run_call, B0, reduceIte, reduceEqDiff]
  refine call2 rfl hS34 (mapM1 snap_lst mapM0) (laws_toReplicaS_x (fun b hb => decide_eq_true hb) k a_0.Replicas v35 hx36) ?_
  rintro v38 h42 ⟨_, c39, rfl, hv40, hS43⟩
  refine ⟨_, free_1 (SlN.free1 hv40), hS43, (pf_app (SlN.pf hv40 Replica.RO) pf_nil), fun h44 hS45 => ?_⟩
  have hS46 : Sep h44 h.length (c39 ++ ([Blk1 b11 [.int .i64 a_0.Epoch, .int .i64 a_0.Leader, v22, .int .i64 a_0.High, .nil] 29] ++ (c23 ++ ([Blk1 b5 [.int .i64 0, .int .i64 0,
      .nil, .int .i64 0, .nil] 29] ++ ([]))))) := by simpa only [List.append_assoc, List.nil_append] using hS45
  simp only [run_fa, put1_some, Nat.reduceAdd, Nat.zero_add, Nat.add_zero, xfa_ptr, run_st, B0, reduceIte, reduceEqDiff]
  refine put2_stCx (us := [v38]) (cells_one (SlN.one hv40)) (cs' := [.int .i64 a_0.Epoch, .int .i64 a_0.Leader, v22, .int .i64 a_0.High,
      v38]) (Sep.m1 hS46) hW rfl (all_c (SlN.one hv40) all_n) (Nat.le_of_ble_eq_true rfl) rfl (fun h47 hS48 => ?_)
  simp only [run_ops_nil, run_seq, run_reg, run_ld, B0, reduceIte, reduceEqDiff]
  refine put1_eq (v := .agg [.int .i64 a_0.Epoch, .int .i64 a_0.Leader, v22, .int .i64 a_0.High, v38]) ((xld_bs (Sep.bk _ _ _ hS48)).trans rfl) ?_
  simp only [run_st, B0, reduceIte, reduceEqDiff]
  refine put2_stCx (us := [.int .i64 a_0.Epoch, .int .i64 a_0.Leader, v22, .int .i64 a_0.High, v38]) rfl (cs' := [.int .i64 a_0.Epoch, .int .i64 a_0.Leader, v22,
      .int .i64 a_0.High, v38]) (Sep.m3 hS48) hW rfl (all_c rfl (all_c rfl (all_c (SlF.one hv24) (all_c rfl (all_c (SlN.one hv40) all_n))))) (Nat.le_of_ble_eq_true rfl) rfl
      (fun h49 hS50 => ?_)
  simp only [run_ops_nil, run_ret, B0, reduceIte, reduceEqDiff]
  have he := some_inj hF37
  subst he
  refine end_ret_cell (bb := b5) (oo := 0) (v := .agg [.int .i64 a_0.Epoch, .int .i64 a_0.Leader, v22, .int .i64 a_0.High, v38]) (by simp only [B0, reduceIte,
      reduceEqDiff]) ((xld_bs (Sep.bk _ _ _ hS50)).trans rfl) ?_
  exact ⟨v22, c23, v38, c39, by first | trivial | rfl, hv24, hv40, (Sep.m1 (Sep.dc ((Sep.dc (hS50)))))⟩
theorem impl_in_x {W : Nat → Bool} {h : Heap} (hW : ∀ b,
    h.length ≤ b → W b = true) (n_0 : Int) (low_1 : Int) (high_2 : Int) (r : Bool) (hF : some (impl_in n_0 low_1 high_2) = some r) : Ret E W 64 [.int .i64 n_0, .int .i64 low_1,
    .int .i64 high_2] h (fun v h' => cut h.length h' E.sz false 9 v = some (.bool r)) := by
  refine Ret.of (fn := x64) rfl (Run.of ?_)
  unfold impl_in at hF
  have zf0 : argFr [.int .i64 n_0, .int .i64 low_1, .int .i64 high_2] 0 = .int .i64 n_0 := rfl
  have zf1 : argFr [.int .i64 n_0, .int .i64 low_1, .int .i64 high_2] 1 = .int .i64 low_1 := rfl
  have zf2 : argFr [.int .i64 n_0, .int .i64 low_1, .int .i64 high_2] 2 = .int .i64 high_2 := rfl
  generalize argFr [.int .i64 n_0, .int .i64 low_1, .int .i64 high_2] = fr0 at zf0 zf1 zf2 ⊢
  have hS : Sep h h.length [] := Sep.nil h
  simp only [x64, run_seq, run_reg, run_mv, run_ops_nil, x64_1, zf0, zf1, run_bin, put1_some, xgeq, B0, reduceIte, reduceEqDiff]
  refine ops_j 4 (fun fr' h' => Sep h' h.length ([]) ∧ fr' 14 = .bool ((decide (low_1 ≤ n_0)) && (decide (n_0 ≤ high_2)))) (fun Q1 hN2 => ?_) ?_
  · simp only [List.take_succ_cons, List.take_zero]
    simp only [run_guard (g := 10), B0, reduceIte, reduceEqDiff]
    refine guard_split (t := (decide (low_1 ≤ n_0))) (fun hg3 => ?_) (fun hg3 => ?_)
    · simp only [hg3, run_guard (g := 10), guard_true, zf0, run_mv, zf2, run_bin, put1_some, xleq, run_pick, xpick_t, run_ops_nil, run_nil, B0, reduceIte, reduceEqDiff]
      exact hN2 _ _ ⟨hS, by rw [andT hg3]; simp only [B0, reduceIte, reduceEqDiff]⟩
    · simp only [hg3, run_guard (g := 10), guard_off, run_pick, put1_some, xpick_f, run_ops_nil, run_nil, B0, reduceIte, reduceEqDiff]
      exact hN2 _ _ ⟨hS, by rw [andF hg3]; simp only [B0, reduceIte, reduceEqDiff]⟩
  rintro fr4 h6 ⟨hS7, f5⟩
  simp only [List.drop_succ_cons, List.drop_zero]
  simp only [f5, run_mv, run_ops_nil, run_ret, B0, reduceIte, reduceEqDiff]
  have he := some_inj hF
  subst he
  simp only [end_ret1, B0, reduceIte, reduceEqDiff]
  exact rfl
theorem impl_Group_shared_x {W : Nat → Bool} {h : Heap} (hW : ∀ b,
    h.length ≤ b → W b = true) (k : Nat) (g_0 : Group) (k_1 : Int) (r : Int) (hF : impl_Group_shared k g_0 k_1 = some r) : Ret E W 69 [.agg [.int .i64 g_0.Epoch,
    .int .i64 g_0.Leader, lst cI g_0.InStep, .int .i64 g_0.High, lst Replica.cells g_0.Replicas],
    .int .i64 k_1] h (fun v h' => cut h.length h' E.sz false 9 v = some (.int .i64 r)) := by
  refine Ret.of (fn := x69) rfl (Run.of ?_)
  unfold impl_Group_shared at hF
  have zf0 : argFr [.agg [.int .i64 g_0.Epoch, .int .i64 g_0.Leader, lst cI g_0.InStep, .int .i64 g_0.High, lst Replica.cells g_0.Replicas],
      .int .i64 k_1] 0 = .agg [.int .i64 g_0.Epoch, .int .i64 g_0.Leader, lst cI g_0.InStep, .int .i64 g_0.High, lst Replica.cells g_0.Replicas] := rfl
  have zf1 : argFr [.agg [.int .i64 g_0.Epoch, .int .i64 g_0.Leader, lst cI g_0.InStep, .int .i64 g_0.High, lst Replica.cells g_0.Replicas], .int .i64 k_1] 1 = .int .i64 k_1 := rfl
  generalize argFr [.agg [.int .i64 g_0.Epoch, .int .i64 g_0.Leader, lst cI g_0.InStep, .int .i64 g_0.High, lst Replica.cells g_0.Replicas], .int .i64 k_1] = fr0 at zf0 zf1 ⊢
  have hS : Sep h h.length [] := Sep.nil h
  simp only [x69, run_seq, run_reg, run_box, zf0, B0, reduceIte, reduceEqDiff]
  refine put2_boxC (cs := [.int .i64 g_0.Epoch, .int .i64 g_0.Leader, lst cI g_0.InStep, .int .i64 g_0.High, lst Replica.cells g_0.Replicas]) hS rfl rfl rfl (fun b1 h2 hS3 => ?_)
  simp only [run_mv, run_ops_nil, B0, reduceIte, reduceEqDiff]
  refine frz_stepC hS3 hW (by simp only [B0, reduceIte, reduceEqDiff]) (fun h5 hS6 => ?_)
  simp only [run_frz_nil, x69_5, run_seq, run_draw, d4_fa, put1d_some, Nat.reduceAdd, Nat.zero_add, Nat.add_zero, xfa_ref, d4_ld, B0, reduceIte, reduceEqDiff]
  refine put1d_eq (v := lst Replica.cells g_0.Replicas) rfl ?_
  obtain ⟨x7, hx8, hF9⟩ := bind_some' hF
  simp only [zf1, d4_mv, put1d_some, d4_ia, B0, reduceIte, reduceEqDiff]
  refine put1d_eq (v := .ref (Replica.cells x7) 0) (xia_lst hx8 rfl) ?_
  simp only [d4_fa, put1d_some, Nat.reduceAdd, Nat.zero_add, Nat.add_zero, xfa_ref, d4_ld, B0, reduceIte, reduceEqDiff]
  refine put1d_eq (v := lst Row.cells x7.Log) rfl ?_
  simp only [d4_fa, put1d_some, Nat.reduceAdd, Nat.zero_add, Nat.add_zero, xfa_ref, d4_ld, B0, reduceIte, reduceEqDiff]
  refine put1d_eq (v := lst Replica.cells g_0.Replicas) rfl ?_
  simp only [d4_fa, put1d_some, Nat.reduceAdd, Nat.zero_add, Nat.add_zero, xfa_ref, d4_ld, B0, reduceIte, reduceEqDiff]
  refine put1d_eq (v := .int .i64 g_0.Leader) rfl ?_
  obtain ⟨x10, hx11, hF12⟩ := bind_some' hF9
  simp only [d4_ia, B0, reduceIte, reduceEqDiff]
  refine put1d_eq (v := .ref (Replica.cells x10) 0) (xia_lst hx11 rfl) ?_
  simp only [d4_fa, put1d_some, Nat.reduceAdd, Nat.zero_add, Nat.add_zero, xfa_ref, d4_ld, B0, reduceIte, reduceEqDiff]
  refine put1d_eq (v := lst Row.cells x10.Log) rfl ?_
  simp only [d4_mv, put1d_some, run_draw_nil, x69_4, run_seq, run_reg, run_mv, run_ops_nil, x69_3, B0, reduceIte, reduceEqDiff]
  obtain ⟨oc17, hX19, hk20⟩ := jn_some hF12
  simp only [x69_2]
  refine loopF_j (σ := Int) (fun s60 => impl_Group_shared_b1 x7 x10 s60)
      (fun s fr' h' => fr' 5 = lst Row.cells x7.Log ∧ fr' 6 = lst Row.cells x10.Log ∧ fr' 7 = .int .i64 s ∧ Sep h' h.length ([])) hX19 ⟨by simp only [B0, reduceIte, reduceEqDiff],
      by simp only [B0, reduceIte, reduceEqDiff], by simp only [B0, reduceIte, reduceEqDiff], hS6⟩ (fun _ _ _ h => h) ?_ ?_
  · rintro s14 fr29 h30 ⟨f32, f33, f34, hS31⟩ oc18 hF21 hr22 Q23 hN24 hK25 hR26 hE27
    unfold impl_Group_shared_b1 at hF21
    simp only [x69_1, run_seq, run_draw, f34, d4_mv, put1d_some, f32, d4_len, xlen_lst, f33, d4_mnx, pminI, d4_bin, xlss, B0, reduceIte, reduceEqDiff]
    obtain ⟨v39, hx40, hF41⟩ := bind_some' hF21
    refine draw_j 10 (fun fr' h' => Sep h' h.length ([]) ∧ fr' 38 = .bool v39 ∧ fr' 5 = lst Row.cells x7.Log ∧ fr' 6 = lst Row.cells x10.Log ∧ fr' 7 = .int .i64 s14) rfl
        (fun Q36 hN37 => ?_) ?_
    · simp only [List.take_succ_cons, List.take_zero]
      simp only [run_guardd (g := 28), B0, reduceIte, reduceEqDiff]
      refine guardd_split (t := (decide (s14 < (mnI (List.length x7.Log : Int) (List.length x10.Log : Int))))) (fun hg38 => ?_) (fun hg38 => ?_)
      · rw [iteT hg38] at hx40
        obtain ⟨x42, hx43, hF44⟩ := bind_some' hx40
        simp only [hg38, run_guardd (g := 28), guardd_true, f32, d4_mv, put1d_some, f34, d4_ia, B0, reduceIte, reduceEqDiff]
        refine put1d_eq (v := .ref (Row.cells x42) 0) (xia_lst hx43 rfl) ?_
        simp only [hg38, run_guardd (g := 28), guardd_true, d4_ld, B0, reduceIte, reduceEqDiff]
        refine put1d_eq (v := .agg [.int .i64 x42.Epoch, .int .i64 x42.Value]) rfl ?_
        obtain ⟨x45, hx46, hF47⟩ := bind_some' hF44
        simp only [hg38, run_guardd (g := 28), guardd_true, f33, d4_mv, put1d_some, f34, d4_ia, B0, reduceIte, reduceEqDiff]
        refine put1d_eq (v := .ref (Row.cells x45) 0) (xia_lst hx46 rfl) ?_
        simp only [hg38, run_guardd (g := 28), guardd_true, d4_ld, B0, reduceIte, reduceEqDiff]
        refine put1d_eq (v := .agg [.int .i64 x45.Epoch, .int .i64 x45.Value]) rfl ?_
        simp only [hg38, run_guardd (g := 28), guardd_true, d4_eqs, B0, reduceIte, reduceEqDiff]
        refine put1d_eq (v := .bool ((x42.Epoch == x45.Epoch) && ((x42.Value == x45.Value) && true))) rfl ?_
        simp only [hg38, d4_pick, put1d_some, xpick_t, run_draw_nil, run_nil, B0, reduceIte, reduceEqDiff]
        have e48 := some_inj hF47
        exact hN37 _ _ ⟨hS31, by rw [← e48]; simp only [B0, reduceIte, reduceEqDiff], by simp only [f32, B0, reduceIte, reduceEqDiff], by simp only [f33, B0, reduceIte,
            reduceEqDiff], by simp only [f34, B0, reduceIte, reduceEqDiff]⟩
      · rw [iteF hg38] at hx40
        simp only [hg38, run_guardd (g := 28), guardd_off, d4_pick, put1d_some, xpick_f, run_draw_nil, run_nil, B0, reduceIte, reduceEqDiff]
        have e49 := some_inj hx40
        exact hN37 _ _ ⟨hS31, by rw [← e49]; simp only [B0, reduceIte, reduceEqDiff], by simp only [f32, B0, reduceIte, reduceEqDiff], by simp only [f33, B0, reduceIte,
            reduceEqDiff], by simp only [f34, B0, reduceIte, reduceEqDiff]⟩
    rintro fr50 h55 ⟨hS56, f51, f52, f53, f54⟩
    simp only [List.drop_succ_cons, List.drop_zero]
    simp only [run_draw_nil, f51, run_cond, B0, reduceIte, reduceEqDiff]
    refine cond_split (t := v39) (fun hc57 => ?_) (fun hc57 => ?_)
    · rw [iteT hc57] at hF41
      simp only [run_skip, run_block, run_reg, f54, run_mv, run_bin, put1_some, xadd, run_ops_nil, run_blk, run_nil, B0, reduceIte, reduceEqDiff]
      have e58 := some_inj hF41
      exact hN24 _ _ _ e58.symm ⟨by simp only [f52, B0, reduceIte, reduceEqDiff], by simp only [f53, B0, reduceIte, reduceEqDiff], by simp only [B0, reduceIte, reduceEqDiff], hS56⟩
    rw [iteF hc57] at hF41
    simp only [run_exit, out_code, out_nil, B0, reduceIte, reduceEqDiff]
    have e59 := some_inj hF41
    exact hK25 _ _ _ e59.symm ⟨by simp only [f52, B0, reduceIte, reduceEqDiff], by simp only [f53, B0, reduceIte, reduceEqDiff], by simp only [f54, B0, reduceIte, reduceEqDiff],
        hS56⟩
  rintro s61 fr62 h63 rfl ⟨f65, f66, f67, hS64⟩
  dsimp only [jnO] at hk20
  unfold impl_Group_shared_j1 at hk20
  simp only [run_seq, run_reg, f67, run_mv, run_ops_nil, run_ret, B0, reduceIte, reduceEqDiff]
  have he := some_inj hk20
  subst he
  simp only [end_ret1, B0, reduceIte, reduceEqDiff]
  exact rfl
theorem impl_areMembers_x {W : Nat → Bool} {h : Heap} (hW : ∀ b,
    h.length ≤ b → W b = true) (list_0 : List Int) (many_1 : Int) (r : Bool) (hF : impl_areMembers list_0 many_1 = some r) : Ret E W 80 [lst cI list_0,
    .int .i64 many_1] h (fun v h' => cut h.length h' E.sz false 9 v = some (.bool r)) := by
  refine Ret.of (fn := x80) rfl (Run.of ?_)
  unfold impl_areMembers at hF
  have zf0 : argFr [lst cI list_0, .int .i64 many_1] 0 = lst cI list_0 := rfl
  have zf1 : argFr [lst cI list_0, .int .i64 many_1] 1 = .int .i64 many_1 := rfl
  generalize argFr [lst cI list_0, .int .i64 many_1] = fr0 at zf0 zf1 ⊢
  have hS : Sep h h.length [] := Sep.nil h
  simp only [x80, run_seq, run_reg, run_mv, run_ops_nil, x80_5, zf0, run_len, put1_some, xlen_lst, B0, reduceIte, reduceEqDiff]
  obtain ⟨oc3, hX5, hk6⟩ := jn_some hF
  simp only [x80_4]
  refine rangeL_j (σ := Unit) list_0 (fun i1 x2 _ => impl_areMembers_b1 list_0 many_1 i1 x2 )
      (fun s fr' h' => fr' 0 = lst cI list_0 ∧ fr' 1 = .int .i64 many_1 ∧ fr' 7 = lst cI list_0 ∧ Sep h' h.length ([])) hX5 ⟨by simp only [zf0, B0, reduceIte, reduceEqDiff],
      by simp only [zf1, B0, reduceIte, reduceEqDiff], by simp only [B0, reduceIte, reduceEqDiff], hS⟩ (by simp only [B0, reduceIte, reduceEqDiff]) (by simp only [B0, reduceIte,
      reduceEqDiff]) (fun _ _ _ h => h) rfl rfl (fun _ _ _ _ h => h) (fun _ _ _ _ h => h) (fun _ _ _ _ h => h) (by decide) ?_ ?_
  · rintro i1 x2 _ fr15 h16 hx21 ⟨f18, f19, f20, hS17⟩ f22 f23 oc4 hF7 hr8 Q9 hN10 hB14 hK11 hR12 hE13
    unfold impl_areMembers_b1 at hF7
    simp only [x80_2, run_seq, run_reg, f22, run_mv, f20, run_ia, B0, reduceIte, reduceEqDiff]
    refine put1_eq (v := .ref (cI x2) 0) (xia_lstN hx21 rfl) ?_
    simp only [run_ld, B0, reduceIte, reduceEqDiff]
    refine put1_eq (v := .int .i64 x2) rfl ?_
    simp only [run_mv, run_ops_nil, x80_1, run_seq, run_reg, f19, run_bin, put1_some, xsub, run_call, B0, reduceIte, reduceEqDiff]
    refine call1 rfl (mapM1 snap_int (mapM1 snap_int (mapM1 snap_int mapM0))) (impl_in_x (fun b hb => decide_eq_true hb) x2 0 (IntKind.wrap .i64 (many_1 - 1)) _ rfl) ?_
    simp only [run_un, put1_some, xnot, run_mv, B0, reduceIte, reduceEqDiff]
    obtain ⟨v27, hx28, hF29⟩ := bind_some' hF7
    refine ops_j 12 (fun fr' h' => Sep h' h.length ([]) ∧ fr' 31 = .bool v27 ∧ fr' 0 = lst cI list_0 ∧ fr' 1 = .int .i64 many_1 ∧ fr' 7 = lst cI list_0 ∧ fr' 8 = .int .i64
        (List.length list_0 : Int) ∧ fr' 9 = .int .i64 (i1 : Int)) (fun Q24 hN25 => ?_) ?_
    · simp only [List.take_succ_cons, List.take_zero]
      simp only [run_guard (g := 19), B0, reduceIte, reduceEqDiff]
      refine guard_split (t := (!(impl_in x2 0 (IntKind.wrap .i64 (many_1 - 1))))) (fun hg26 => ?_) (fun hg26 => ?_)
      · rw [iteT hg26] at hx28
        simp only [hg26, run_guard (g := 19), guard_off', run_guard (g := 22), guard_tup, run_pick, put1_some, xpick_t, run_ops_nil, run_nil, B0, reduceIte, reduceEqDiff]
        have e30 := some_inj hx28
        exact hN25 _ _ ⟨hS17, by rw [← e30]; simp only [B0, reduceIte, reduceEqDiff], by simp only [f18, B0, reduceIte, reduceEqDiff], by simp only [f19, B0, reduceIte,
            reduceEqDiff], by simp only [f20, B0, reduceIte, reduceEqDiff], by simp only [f23, B0, reduceIte, reduceEqDiff], by simp only [f22, B0, reduceIte, reduceEqDiff]⟩
      · rw [iteF hg26] at hx28
        simp only [hg26, run_guard (g := 19), guard_false, run_mv, run_bin, put1_some, xgtr, B0, reduceIte, reduceEqDiff]
        obtain ⟨v34, hx35, hF36⟩ := bind_some' hx28
        refine ops_j 8 (fun fr' h' => Sep h' h.length ([]) ∧ fr' 30 = .bool v34 ∧ fr' 0 = lst cI list_0 ∧ fr' 1 = .int .i64 many_1 ∧ fr' 7 = lst cI list_0 ∧ fr' 8 = .int .i64
            (List.length list_0 : Int) ∧ fr' 9 = .int .i64 (i1 : Int) ∧ fr' 19 = .bool (!(impl_in x2 0 (IntKind.wrap .i64 (many_1 - 1))))) (fun Q31 hN32 => ?_) ?_
        · simp only [List.take_succ_cons, List.take_zero]
          simp only [run_guard (g := 22), B0, reduceIte, reduceEqDiff]
          refine guard_split (t := (decide ((0 : Int) < (i1 : Int)))) (fun hg33 => ?_) (fun hg33 => ?_)
          · rw [iteT hg33] at hx35
            obtain ⟨x37, hx38, hF39⟩ := bind_some' hx35
            simp only [hg33, run_guard (g := 22), guard_true, f18, run_mv, run_bin, put1_some, xsub, run_ia, B0, reduceIte, reduceEqDiff]
            refine put1_eq (v := .ref (cI x37) 0) (xia_lst hx38 rfl) ?_
            simp only [hg33, run_guard (g := 22), guard_true, run_ld, B0, reduceIte, reduceEqDiff]
            refine put1_eq (v := .int .i64 x37) rfl ?_
            simp only [hg33, run_guard (g := 22), guard_true, run_mv, run_bin, put1_some, xgeq, hg26, run_guard (g := 19), guard_false, run_pick, xpick_t, run_ops_nil, run_nil,
                B0, reduceIte, reduceEqDiff]
            have e40 := some_inj hF39
            exact hN32 _ _ ⟨hS17, by rw [← e40]; simp only [B0, reduceIte, reduceEqDiff], by simp only [f18, B0, reduceIte, reduceEqDiff], by simp only [f19, B0, reduceIte,
                reduceEqDiff], by simp only [f20, B0, reduceIte, reduceEqDiff], by simp only [f23, B0, reduceIte, reduceEqDiff], by simp only [f22, B0, reduceIte, reduceEqDiff],
                by simp only [hg26, B0, reduceIte, reduceEqDiff]⟩
          · rw [iteF hg33] at hx35
            simp only [hg33, run_guard (g := 22), guard_off, hg26, run_guard (g := 19), guard_false, run_pick, put1_some, xpick_f, run_ops_nil, run_nil, B0, reduceIte,
                reduceEqDiff]
            have e41 := some_inj hx35
            exact hN32 _ _ ⟨hS17, by rw [← e41]; simp only [B0, reduceIte, reduceEqDiff], by simp only [f18, B0, reduceIte, reduceEqDiff], by simp only [f19, B0, reduceIte,
                reduceEqDiff], by simp only [f20, B0, reduceIte, reduceEqDiff], by simp only [f23, B0, reduceIte, reduceEqDiff], by simp only [f22, B0, reduceIte, reduceEqDiff],
                by simp only [hg26, B0, reduceIte, reduceEqDiff]⟩
        rintro fr42 h50 ⟨hS51, f43, f44, f45, f46, f47, f48, f49⟩
        simp only [List.drop_succ_cons, List.drop_zero]
        simp only [f49, hg26, run_pick, put1_some, xpick_f, f43, run_ops_nil, run_nil, B0, reduceIte, reduceEqDiff]
        have e52 := some_inj hF36
        exact hN25 _ _ ⟨hS51, by rw [← e52]; simp only [B0, reduceIte, reduceEqDiff], by simp only [f44, B0, reduceIte, reduceEqDiff], by simp only [f45, B0, reduceIte,
            reduceEqDiff], by simp only [f46, B0, reduceIte, reduceEqDiff], by simp only [f47, B0, reduceIte, reduceEqDiff], by simp only [f48, B0, reduceIte, reduceEqDiff]⟩
    rintro fr53 h60 ⟨hS61, f54, f55, f56, f57, f58, f59⟩
    simp only [List.drop_succ_cons, List.drop_zero]
    simp only [run_ops_nil, f54, run_cond, B0, reduceIte, reduceEqDiff]
    refine cond_split (t := v27) (fun hc62 => ?_) (fun hc62 => ?_)
    · rw [iteT hc62] at hF29
      simp only [run_seq, run_reg, run_mv, run_ops_nil, run_ret, B0, reduceIte, reduceEqDiff]
      have e63 := some_inj hF29
      subst e63
      have ho64 := hr8 _ rfl
      have hk65 := hk6
      rw [ho64] at hk65
      dsimp only [jnO] at hk65
      apply hR12
      have he := some_inj hk65
      subst he
      simp only [end_ret1, B0, reduceIte, reduceEqDiff]
      exact rfl
    rw [iteF hc62] at hF29
    simp only [run_skip, run_nil, B0, reduceIte, reduceEqDiff]
    have e66 := some_inj hF29
    exact hN10 _ _ _ e66.symm ⟨by simp only [f55, B0, reduceIte, reduceEqDiff], by simp only [f56, B0, reduceIte, reduceEqDiff], by simp only [f57, B0, reduceIte, reduceEqDiff],
        hS61⟩ (by simp only [f59, B0, reduceIte, reduceEqDiff]) (by simp only [f58, B0, reduceIte, reduceEqDiff])
  rintro _ fr68 h69 rfl ⟨f71, f72, f73, hS70⟩
  dsimp only [jnO] at hk6
  unfold impl_areMembers_j1 at hk6
  simp only [run_seq, run_reg, run_mv, run_ops_nil, run_ret, B0, reduceIte, reduceEqDiff]
  have he := some_inj hk6
  subst he
  simp only [end_ret1, B0, reduceIte, reduceEqDiff]
  exact rfl
theorem slices_Index_int_x {W : Nat → Bool} {h : Heap} (hW : ∀ b,
    h.length ≤ b → W b = true) (s_0 : List Int) (v_1 : Int) (r : Int) (hF : slices_Index_int s_0 v_1 = some r) : Ret E W 94 [lst cI s_0,
    .int .i64 v_1] h (fun v h' => cut h.length h' E.sz false 9 v = some (.int .i64 r)) := by
  refine Ret.of (fn := x94) rfl (Run.of ?_)
  unfold slices_Index_int at hF
  have zf0 : argFr [lst cI s_0, .int .i64 v_1] 0 = lst cI s_0 := rfl
  have zf1 : argFr [lst cI s_0, .int .i64 v_1] 1 = .int .i64 v_1 := rfl
  generalize argFr [lst cI s_0, .int .i64 v_1] = fr0 at zf0 zf1 ⊢
  have hS : Sep h h.length [] := Sep.nil h
  simp only [x94, run_seq, run_reg, run_mv, run_ops_nil, x94_6, zf0, run_len, put1_some, xlen_lst, B0, reduceIte, reduceEqDiff]
  obtain ⟨oc3, hX5, hk6⟩ := jn_some hF
  simp only [x94_5]
  refine rangeL_j (σ := Unit) s_0 (fun i1 x2 _ => slices_Index_int_b1 v_1 i1 x2 ) (fun s fr' h' => fr' 0 = lst cI s_0 ∧ fr' 1 = .int .i64 v_1 ∧ Sep h' h.length
      ([])) hX5 ⟨by simp only [zf0, B0, reduceIte, reduceEqDiff], by simp only [zf1, B0, reduceIte, reduceEqDiff], hS⟩ (by simp only [B0, reduceIte,
      reduceEqDiff]) (by simp only [B0, reduceIte, reduceEqDiff]) (fun _ _ _ h => h) rfl rfl (fun _ _ _ _ h => h) (fun _ _ _ _ h => h) (fun _ _ _ _ h => h) (by decide) ?_ ?_
  · rintro i1 x2 _ fr15 h16 hx20 ⟨f18, f19, hS17⟩ f21 f22 oc4 hF7 hr8 Q9 hN10 hB14 hK11 hR12 hE13
    unfold slices_Index_int_b1 at hF7
    simp only [x94_3, run_seq, run_reg, f21, run_mv, run_ops_nil, x94_2, f19, f18, run_ia, B0, reduceIte, reduceEqDiff]
    refine put1_eq (v := .ref (cI x2) 0) (xia_lstN hx20 rfl) ?_
    simp only [run_ld, B0, reduceIte, reduceEqDiff]
    refine put1_eq (v := .int .i64 x2) rfl ?_
    simp only [run_bin, put1_some, xeql, run_ops_nil, x94_1, run_cond, B0, reduceIte, reduceEqDiff]
    refine cond_split (t := (decide (v_1 = x2))) (fun hc23 => ?_) (fun hc23 => ?_)
    · rw [iteT hc23] at hF7
      simp only [run_seq, run_reg, run_mv, run_ops_nil, run_ret, B0, reduceIte, reduceEqDiff]
      have e24 := some_inj hF7
      subst e24
      have ho25 := hr8 _ rfl
      have hk26 := hk6
      rw [ho25] at hk26
      dsimp only [jnO] at hk26
      apply hR12
      have he := some_inj hk26
      subst he
      simp only [end_ret1, B0, reduceIte, reduceEqDiff]
      exact rfl
    rw [iteF hc23] at hF7
    simp only [run_skip, run_nil, B0, reduceIte, reduceEqDiff]
    have e27 := some_inj hF7
    exact hN10 _ _ _ e27.symm ⟨by simp only [f18, B0, reduceIte, reduceEqDiff], by simp only [f19, B0, reduceIte, reduceEqDiff], hS17⟩ (by simp only [f21, B0, reduceIte,
        reduceEqDiff]) (by simp only [f22, B0, reduceIte, reduceEqDiff])
  rintro _ fr29 h30 rfl ⟨f32, f33, hS31⟩
  dsimp only [jnO] at hk6
  unfold slices_Index_int_j1 at hk6
  simp only [run_seq, run_reg, run_mv, run_ops_nil, run_ret, B0, reduceIte, reduceEqDiff]
  have he := some_inj hk6
  subst he
  simp only [end_ret1, B0, reduceIte, reduceEqDiff]
  exact rfl
theorem slices_Contains_int_x {W : Nat → Bool} {h : Heap} (hW : ∀ b,
    h.length ≤ b → W b = true) (s_0 : List Int) (v_1 : Int) (r : Bool) (hF : slices_Contains_int s_0 v_1 = some r) : Ret E W 81 [lst cI s_0,
    .int .i64 v_1] h (fun v h' => cut h.length h' E.sz false 9 v = some (.bool r)) := by
  refine Ret.of (fn := x81) rfl (Run.of ?_)
  unfold slices_Contains_int at hF
  have zf0 : argFr [lst cI s_0, .int .i64 v_1] 0 = lst cI s_0 := rfl
  have zf1 : argFr [lst cI s_0, .int .i64 v_1] 1 = .int .i64 v_1 := rfl
  generalize argFr [lst cI s_0, .int .i64 v_1] = fr0 at zf0 zf1 ⊢
  have hS : Sep h h.length [] := Sep.nil h
  obtain ⟨v1, hx2, hF3⟩ := bind_some' hF
  simp only [x81, run_seq, run_reg, run_mv, run_ops_nil, x81_1, zf0, zf1, run_call, B0, reduceIte, reduceEqDiff]
  refine call1 rfl (mapM1 snap_lst (mapM1 snap_int mapM0)) (slices_Index_int_x (fun b hb => decide_eq_true hb) s_0 v_1 v1 hx2) ?_
  simp only [run_bin, put1_some, xgeq, run_mv, run_ops_nil, run_ret, B0, reduceIte, reduceEqDiff]
  have he := some_inj hF3
  subst he
  simp only [end_ret1, B0, reduceIte, reduceEqDiff]
  exact rfl
theorem impl_isRows_x {W : Nat → Bool} {h : Heap} (hW : ∀ b,
    h.length ≤ b → W b = true) (l_0 : List Row) (most_1 : Int) (r : Bool) (hF : impl_isRows l_0 most_1 = some r) : Ret E W 82 [lst Row.cells l_0,
    .int .i64 most_1] h (fun v h' => cut h.length h' E.sz false 9 v = some (.bool r)) := by
  refine Ret.of (fn := x82) rfl (Run.of ?_)
  unfold impl_isRows at hF
  have zf0 : argFr [lst Row.cells l_0, .int .i64 most_1] 0 = lst Row.cells l_0 := rfl
  have zf1 : argFr [lst Row.cells l_0, .int .i64 most_1] 1 = .int .i64 most_1 := rfl
  generalize argFr [lst Row.cells l_0, .int .i64 most_1] = fr0 at zf0 zf1 ⊢
  have hS : Sep h h.length [] := Sep.nil h
  simp only [x82, run_seq, run_reg, run_mv, run_ops_nil, x82_7, x82_6, zf0, run_len, put1_some, xlen_lst, B0, reduceIte, reduceEqDiff]
  obtain ⟨oc5, hX7, hk8⟩ := jn_some hF
  simp only [x82_4]
  refine rangeL_j (σ := Int) l_0 (fun i3 x4 s53 => impl_isRows_b1 most_1 i3 x4 s53)
      (fun s fr' h' => fr' 0 = lst Row.cells l_0 ∧ fr' 1 = .int .i64 most_1 ∧ fr' 5 = .int .i64 s ∧ fr' 8 = lst Row.cells l_0 ∧ Sep h' h.length ([])) hX7 ⟨by simp only [zf0, B0,
      reduceIte, reduceEqDiff], by simp only [zf1, B0, reduceIte, reduceEqDiff], by simp only [B0, reduceIte, reduceEqDiff], by simp only [B0, reduceIte, reduceEqDiff],
      hS⟩ (by simp only [B0, reduceIte, reduceEqDiff]) (by simp only [B0, reduceIte,
      reduceEqDiff]) (fun _ _ _ h => h) rfl rfl (fun _ _ _ _ h => h) (fun _ _ _ _ h => h) (fun _ _ _ _ h => h) (by decide) ?_ ?_
  · rintro i3 x4 s2 fr17 h18 hx24 ⟨f20, f21, f22, f23, hS19⟩ f25 f26 oc6 hF9 hr10 Q11 hN12 hB16 hK13 hR14 hE15
    unfold impl_isRows_b1 at hF9
    simp only [x82_2, run_seq, run_reg, f23, f25, run_ia, B0, reduceIte, reduceEqDiff]
    refine put1_eq (v := .ref (Row.cells x4) 0) (xia_lstN hx24 rfl) ?_
    simp only [run_ld, B0, reduceIte, reduceEqDiff]
    refine put1_eq (v := .agg [.int .i64 x4.Epoch, .int .i64 x4.Value]) rfl ?_
    simp only [run_new, B0, reduceIte, reduceEqDiff]
    refine put2_newC hS19 (fun b27 h28 hS29 => ?_)
    simp only [run_st, B0, reduceIte, reduceEqDiff]
    refine put2_stCx (us := [.int .i64 x4.Epoch, .int .i64 x4.Value]) rfl (cs' := [.int .i64 x4.Epoch,
        .int .i64 x4.Value]) hS29 hW rfl rfl (Nat.le_of_ble_eq_true rfl) rfl (fun h31 hS32 => ?_)
    simp only [run_ops_nil, B0, reduceIte, reduceEqDiff]
    refine frz_stepC hS32 hW (by simp only [B0, reduceIte, reduceEqDiff]) (fun h33 hS34 => ?_)
    simp only [run_frz_nil, x82_1, run_seq, run_reg, run_fa, put1_some, Nat.reduceAdd, Nat.zero_add, Nat.add_zero, xfa_ref, run_ld, B0, reduceIte, reduceEqDiff]
    refine put1_eq (v := .int .i64 x4.Epoch) rfl ?_
    simp only [f22, run_mv, f21, run_call, B0, reduceIte, reduceEqDiff]
    refine call1 rfl (mapM1 snap_int (mapM1 snap_int (mapM1 snap_int mapM0))) (impl_in_x (fun b hb => decide_eq_true hb) x4.Epoch s2 most_1 _ rfl) ?_
    simp only [run_un, put1_some, xnot, run_mv, B0, reduceIte, reduceEqDiff]
    refine ops_j 5 (fun fr' h' => Sep h' h.length ([]) ∧ fr' 25 = .bool ((!(impl_in x4.Epoch s2 most_1)) ||
        (!(impl_in x4.Value 0 99))) ∧ fr' 0 = lst Row.cells l_0 ∧ fr' 1 = .int .i64 most_1 ∧ fr' 7 = .ref [.int .i64 x4.Epoch,
        .int .i64 x4.Value] 0 ∧ fr' 8 = lst Row.cells l_0 ∧ fr' 9 = .int .i64 (List.length l_0 : Int) ∧ fr' 10 = .int .i64 (i3 : Int)) (fun Q35 hN36 => ?_) ?_
    · simp only [List.take_succ_cons, List.take_zero]
      simp only [run_guard (g := 20), B0, reduceIte, reduceEqDiff]
      refine guard_split (t := (!(impl_in x4.Epoch s2 most_1))) (fun hg37 => ?_) (fun hg37 => ?_)
      · simp only [hg37, run_guard (g := 20), guard_off', run_pick, put1_some, xpick_t, run_ops_nil, run_nil, B0, reduceIte, reduceEqDiff]
        exact hN36 _ _ ⟨hS34, by rw [orT hg37]; simp only [B0, reduceIte, reduceEqDiff], by simp only [f20, B0, reduceIte, reduceEqDiff], by simp only [f21, B0, reduceIte,
            reduceEqDiff], by simp only [B0, reduceIte, reduceEqDiff], by simp only [f23, B0, reduceIte, reduceEqDiff], by simp only [f26, B0, reduceIte, reduceEqDiff],
            by simp only [f25, B0, reduceIte, reduceEqDiff]⟩
      · simp only [hg37, run_guard (g := 20), guard_false, run_fa, put1_some, Nat.reduceAdd, Nat.zero_add, Nat.add_zero, xfa_ref, run_ld, B0, reduceIte, reduceEqDiff]
        refine put1_eq (v := .int .i64 x4.Value) rfl ?_
        simp only [hg37, run_guard (g := 20), guard_false, run_call, B0, reduceIte, reduceEqDiff]
        refine call1 rfl (mapM1 snap_int (mapM1 snap_int (mapM1 snap_int mapM0))) (impl_in_x (fun b hb => decide_eq_true hb) x4.Value 0 99 _ rfl) ?_
        simp only [hg37, run_guard (g := 20), guard_false, run_un, put1_some, xnot, run_pick, xpick_f, run_ops_nil, run_nil, B0, reduceIte, reduceEqDiff]
        exact hN36 _ _ ⟨hS34, by rw [orF hg37]; simp only [B0, reduceIte, reduceEqDiff], by simp only [f20, B0, reduceIte, reduceEqDiff], by simp only [f21, B0, reduceIte,
            reduceEqDiff], by simp only [B0, reduceIte, reduceEqDiff], by simp only [f23, B0, reduceIte, reduceEqDiff], by simp only [f26, B0, reduceIte, reduceEqDiff],
            by simp only [f25, B0, reduceIte, reduceEqDiff]⟩
    rintro fr38 h46 ⟨hS47, f39, f40, f41, f42, f43, f44, f45⟩
    simp only [List.drop_succ_cons, List.drop_zero]
    simp only [run_ops_nil, f39, run_cond, B0, reduceIte, reduceEqDiff]
    refine cond_split (t := ((!(impl_in x4.Epoch s2 most_1)) || (!(impl_in x4.Value 0 99)))) (fun hc48 => ?_) (fun hc48 => ?_)
    · rw [iteT hc48] at hF9
      simp only [run_seq, run_reg, run_mv, run_ops_nil, run_ret, B0, reduceIte, reduceEqDiff]
      have e49 := some_inj hF9
      subst e49
      have ho50 := hr10 _ rfl
      have hk51 := hk8
      rw [ho50] at hk51
      dsimp only [jnO] at hk51
      apply hR14
      have he := some_inj hk51
      subst he
      simp only [end_ret1, B0, reduceIte, reduceEqDiff]
      exact rfl
    rw [iteF hc48] at hF9
    simp only [run_skip, run_reg, f42, run_fa, put1_some, Nat.reduceAdd, Nat.zero_add, Nat.add_zero, xfa_ref, run_ld, B0, reduceIte, reduceEqDiff]
    refine put1_eq (v := .int .i64 x4.Epoch) rfl ?_
    simp only [run_mv, run_ops_nil, run_nil, B0, reduceIte, reduceEqDiff]
    have e52 := some_inj hF9
    exact hN12 _ _ _ e52.symm ⟨by simp only [f40, B0, reduceIte, reduceEqDiff], by simp only [f41, B0, reduceIte, reduceEqDiff], by simp only [B0, reduceIte, reduceEqDiff],
        by simp only [f43, B0, reduceIte, reduceEqDiff], hS47⟩ (by simp only [f45, B0, reduceIte, reduceEqDiff]) (by simp only [f44, B0, reduceIte, reduceEqDiff])
  rintro s54 fr55 h56 rfl ⟨f58, f59, f60, f61, hS57⟩
  dsimp only [jnO] at hk8
  unfold impl_isRows_j1 at hk8
  simp only [x82_5, run_seq, run_reg, f58, run_mv, run_len, put1_some, xlen_lst, run_bin, xleq, run_ops_nil, run_ret, B0, reduceIte, reduceEqDiff]
  have he := some_inj hk8
  subst he
  simp only [end_ret1, B0, reduceIte, reduceEqDiff]
  exact rfl
end Go.Proofs.Ytefgfcalgjmhjaa.X
