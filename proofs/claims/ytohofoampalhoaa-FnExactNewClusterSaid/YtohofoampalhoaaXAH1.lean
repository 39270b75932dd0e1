/- The functions' code comes to what the plain functions say (1). -/
import Derived.Test.YtohofoampalhoaaXAF
import Derived.Test.YtohofoampalhoaaXAD
set_option linter.unusedVariables false
set_option linter.unusedSimpArgs false
set_option maxRecDepth 100000
namespace Go.Proofs.Ytohofoampalhoaa.X
open Go
def Node.R : Rep Node := fun x cs os => ∃ (v2 : XV) (c2 : List Obj) (v3 : XV) (c3 : List Obj) (v4 : XV) (c4 : List Obj),
    SlF cI 1 3 v2 x.View.InStep c2 ∧ SlF Row.cells 2 92 v3 x.Log c3 ∧ SlF cI 1 3 v4 x.Known c4 ∧ cs = [.int .i64 x.View.Epoch, .int .i64 x.View.Leader, v2, v3, v4,
    .int .i64 x.Told] ∧ os = c2 ++ (c3 ++ (c4))
theorem Node.RI {x : Node} {v2 : XV} {c2 : List Obj} (h2 : SlF cI 1 3 v2 x.View.InStep c2) {v3 : XV} {c3 : List Obj}
    (h3 : SlF Row.cells 2 92 v3 x.Log c3) {v4 : XV} {c4 : List Obj} (h4 : SlF cI 1 3 v4 x.Known c4) : Node.R x [.int .i64 x.View.Epoch, .int .i64 x.View.Leader, v2, v3, v4,
    .int .i64 x.Told] (c2 ++ (c3 ++ (c4))) := ⟨v2, c2, v3, c3, v4, c4, h2, h3, h4, rfl, rfl⟩
theorem Node.RO : RepOk E.sz Node.R Node.cells 6 where
  len := fun {x cs os} H => by
    obtain ⟨v2, c2, v3, c3, v4, c4, h2, h3, h4, rfl, rfl⟩ := H
    rfl
  flen := fun _ => rfl
  one := fun {x cs os} H => by
    obtain ⟨v2, c2, v3, c3, v4, c4, h2, h3, h4, rfl, rfl⟩ := H
    exact (all_c rfl (all_c rfl (all_c (SlF.one h2) (all_c (SlF.one h3) (all_c (SlF.one h4) (all_c rfl all_n))))))
  snap := fun {x cs os h lo S} m H hS => by
    obtain ⟨v2, c2, v3, c3, v4, c4, h2, h3, h4, rfl, rfl⟩ := H
    have hS2 : Sep h lo (c2 ++ (c3 ++ (c4 ++ S))) := (by simpa only [List.append_assoc] using hS)
    exact (mapM1 snap_int (mapM1 snap_int (mapM1 (SlF.snap h2 hS2 rfl (fun _ => rfl) (fun _ => rfl)) (mapM1 (SlF.snap h3 (Sep.m1 hS2) rfl (fun _ => rfl) (fun _ => rfl)) (mapM1
        (SlF.snap h4 (Sep.m2 hS2) rfl (fun _ => rfl) (fun _ => rfl)) (mapM1 snap_int mapM0))))))
  cut := fun {x cs os h lo n0 keep S} m H hS hge => by
    obtain ⟨v2, c2, v3, c3, v4, c4, h2, h3, h4, rfl, rfl⟩ := H
    have hS2 : Sep h lo (c2 ++ (c3 ++ (c4 ++ S))) := (by simpa only [List.append_assoc] using hS)
    exact (mapM1 rfl (mapM1 rfl (mapM1 (SlF.cut h2 hS2 hge rfl (fun _ => rfl) (fun _ => rfl)) (mapM1 (SlF.cut h3 (Sep.m1 hS2) hge rfl (fun _ => rfl) (fun _ => rfl)) (mapM1
        (SlF.cut h4 (Sep.m2 hS2) hge rfl (fun _ => rfl) (fun _ => rfl)) (mapM1 rfl mapM0))))))
  free := fun {x cs os} H => by
    obtain ⟨v2, c2, v3, c3, v4, c4, h2, h3, h4, rfl, rfl⟩ := H
    exact (all_c rfl (all_c rfl (all_c (SlF.free1 h2) (all_c (SlF.free1 h3) (all_c (SlF.free1 h4) (all_c rfl all_n))))))
  pf := fun {x cs os} H => by
    obtain ⟨v2, c2, v3, c3, v4, c4, h2, h3, h4, rfl, rfl⟩ := H
    exact (pf_app (SlF.pf h2 (fun _ => rfl)) (pf_app (SlF.pf h3 (fun _ => rfl)) (SlF.pf h4 (fun _ => rfl))))
theorem spec_l1In_x {W : Nat → Bool} {h : Heap} (hW : ∀ b,
    h.length ≤ b → W b = true) (n_0 : Int) (lo_1 : Int) (hi_2 : Int) (r : Bool) (hF : some (spec_l1In n_0 lo_1 hi_2) = some r) : Ret E W 37 [.int .i64 n_0, .int .i64 lo_1,
    .int .i64 hi_2] h (fun v h' => cut h.length h' E.sz false 9 v = some (.bool r)) := by
  refine Ret.of (fn := x37) rfl (Run.of ?_)
  unfold spec_l1In at hF
  have zf0 : argFr [.int .i64 n_0, .int .i64 lo_1, .int .i64 hi_2] 0 = .int .i64 n_0 := rfl
  have zf1 : argFr [.int .i64 n_0, .int .i64 lo_1, .int .i64 hi_2] 1 = .int .i64 lo_1 := rfl
  have zf2 : argFr [.int .i64 n_0, .int .i64 lo_1, .int .i64 hi_2] 2 = .int .i64 hi_2 := rfl
  generalize argFr [.int .i64 n_0, .int .i64 lo_1, .int .i64 hi_2] = fr0 at zf0 zf1 zf2 ⊢
  have hS : Sep h h.length [] := Sep.nil h
  simp only [x37, run_seq, run_reg, run_mv, run_ops_nil, x37_1, zf0, zf1, run_bin, put1_some, xgeq, put_at, put_no, ev_t, ev_c, reduceIte, Nat.reduceEqDiff, List.map_cons,
      List.map_nil]
  refine ops_j 4 (fun fr' h' => Sep h' h.length ([]) ∧ fr' 14 = .bool ((decide (lo_1 ≤ n_0)) && (decide (n_0 ≤ hi_2)))) (fun Q1 hN2 => ?_) ?_
  · simp only [List.take_succ_cons, List.take_zero]
    simp only [run_guard (g := 10), put_at, put_no, ev_t, ev_c, reduceIte, Nat.reduceEqDiff, List.map_cons, List.map_nil]
    refine guard_split (t := (decide (lo_1 ≤ n_0))) (fun hg3 => ?_) (fun hg3 => ?_)
    · simp only [hg3, run_guard (g := 10), guard_true, zf0, run_mv, zf2, run_bin, put1_some, xleq, run_pick, xpick_t, run_ops_nil, run_nil, put_at, put_no, ev_t, ev_c, reduceIte,
        Nat.reduceEqDiff, List.map_cons, List.map_nil]
      exact hN2 _ _ ⟨hS, by rw [andT hg3]; simp only [put_at, put_no, ev_t, ev_c, reduceIte, Nat.reduceEqDiff, List.map_cons, List.map_nil]⟩
    · simp only [hg3, run_guard (g := 10), guard_off, run_pick, put1_some, xpick_f, run_ops_nil, run_nil, put_at, put_no, ev_t, ev_c, reduceIte, Nat.reduceEqDiff, List.map_cons,
        List.map_nil]
      exact hN2 _ _ ⟨hS, by rw [andF hg3]; simp only [put_at, put_no, ev_t, ev_c, reduceIte, Nat.reduceEqDiff, List.map_cons, List.map_nil]⟩
  · rintro fr4 h6 ⟨hS7, f5⟩
    simp only [List.drop_succ_cons, List.drop_zero]
    simp only [f5, run_mv, run_ops_nil, run_ret, put_at, put_no, ev_t, ev_c, reduceIte, Nat.reduceEqDiff, List.map_cons, List.map_nil]
    have he := some_inj hF
    subst he
    simp only [end_ret1, put_at, put_no, ev_t, ev_c, reduceIte, Nat.reduceEqDiff, List.map_cons, List.map_nil]
    exact rfl
theorem spec_l17All_x {W : Nat → Bool} {h : Heap} (hW : ∀ b,
    h.length ≤ b → W b = true) (k : Nat) (n_0 : Int) (r : List Int) (hF : spec_l17All k n_0 = some r) : Ret E W 38 [.int .i64 n_0] h (fun v h' => ∃ rv0 rc0,
    v = rv0 ∧ SlF cI 1 3 rv0 r rc0 ∧ Sep h' h.length (rc0 ++ ([]))) := by
  refine Ret.of (fn := x38) rfl (Run.of ?_)
  unfold spec_l17All at hF
  have zf0 : argFr [.int .i64 n_0] 0 = .int .i64 n_0 := rfl
  generalize argFr [.int .i64 n_0] = fr0 at zf0 ⊢
  have hS : Sep h h.length [] := Sep.nil h
  simp only [x38, run_seq, run_reg, run_mv, run_ops_nil, x38_7, x38_6, put_at, put_no, ev_t, ev_c, reduceIte, Nat.reduceEqDiff, List.map_cons, List.map_nil]
  obtain ⟨oc15, hX17, hk18⟩ := jn_some hF
  simp only [x38_5]
  refine loopF_j (σ := (List Int) × Int) (fun s52 => spec_l17All_b1 n_0 s52.1 s52.2) (fun s fr' h' => ∃ v9 c10,
      fr' 0 = .int .i64 n_0 ∧ fr' 3 = v9 ∧ fr' 4 = .int .i64 s.2 ∧ SlF cI 1 3 v9 s.1 c10 ∧ Sep h' h.length (c10 ++ ([]))) hX17 ⟨.nil, [], by simp only [zf0, put_at, put_no, ev_t,
      ev_c, reduceIte, Nat.reduceEqDiff, List.map_cons, List.map_nil], by simp only [put_at, put_no, ev_t, ev_c, reduceIte, Nat.reduceEqDiff, List.map_cons, List.map_nil],
      by simp only [put_at, put_no, ev_t, ev_c, reduceIte, Nat.reduceEqDiff, List.map_cons, List.map_nil], SlF.nil, hS⟩ (fun _ _ _ h => h) ?_ ?_
  · rintro ⟨s7, s12⟩ fr27 h28 ⟨v9, c10, f30, f31, f32, hv11, hS29⟩ oc16 hF19 hr20 Q21 hN22 hK23 hR24 hE25
    dsimp only at *
    unfold spec_l17All_b1 at hF19
    simp only [x38_3, run_seq, run_reg, f32, run_mv, f30, run_bin, put1_some, xlss, run_ops_nil, run_cond, put_at, put_no, ev_t, ev_c, reduceIte, Nat.reduceEqDiff, List.map_cons,
        List.map_nil]
    refine cond_split (t := (decide (s12 < n_0))) (fun hc34 => ?_) (fun hc34 => ?_)
    · rw [iteT hc34] at hF19
      simp only [run_skip, x38_2, run_seq, run_block, x38_1, run_reg, f31, run_mv, f32, run_buildS, evp, put_at, put_no, ev_t, ev_c, reduceIte, Nat.reduceEqDiff, List.map_cons,
          List.map_nil]
      refine put2_buildSF (n := 1) (f := cI) [s12] hS29 rfl rfl (fun v35 c36 h37 hv38 hS39 => ?_)
      simp only [run_app, put_at, put_no, ev_t, ev_c, reduceIte, Nat.reduceEqDiff, List.map_cons, List.map_nil]
      obtain ⟨l41, hx42, hF43⟩ := bind_some' hF19
      refine put2_appF (f := cI) hv11 (Sep.m1 hS39) hW (fun _ => rfl) (fun _ => rfl) (SlF.first hv38 hS39 (fun _ => rfl)) hx42 (fun v44 c45 h46 hv47 hS48 => ?_)
      simp only [run_mv, run_ops_nil, run_blk, run_reg, f32, run_bin, put1_some, xadd, run_nil, put_at, put_no, ev_t, ev_c, reduceIte, Nat.reduceEqDiff, List.map_cons,
          List.map_nil]
      have e50 := some_inj hF43
      exact hN22 _ _ _ e50.symm ⟨v44, c45, by simp only [f30, put_at, put_no, ev_t, ev_c, reduceIte, Nat.reduceEqDiff, List.map_cons, List.map_nil], by simp only [put_at, put_no,
          ev_t, ev_c, reduceIte, Nat.reduceEqDiff, List.map_cons, List.map_nil], by simp only [put_at, put_no, ev_t, ev_c, reduceIte, Nat.reduceEqDiff, List.map_cons,
          List.map_nil], hv47, (Sep.dc (Sep.m1 hS48))⟩
    · rw [iteF hc34] at hF19
      simp only [run_exit, out_code, out_nil, put_at, put_no, ev_t, ev_c, reduceIte, Nat.reduceEqDiff, List.map_cons, List.map_nil]
      have e51 := some_inj hF19
      exact hK23 _ _ _ e51.symm ⟨v9, c10, by simp only [f30, put_at, put_no, ev_t, ev_c, reduceIte, Nat.reduceEqDiff, List.map_cons, List.map_nil], by simp only [f31, put_at,
          put_no, ev_t, ev_c, reduceIte, Nat.reduceEqDiff, List.map_cons, List.map_nil], by simp only [f32, put_at, put_no, ev_t, ev_c, reduceIte, Nat.reduceEqDiff, List.map_cons,
          List.map_nil], hv11, hS29⟩
  · rintro ⟨s53, s58⟩ fr59 h60 rfl ⟨v55, c56, f62, f63, f64, hv57, hS61⟩
    dsimp only [jnO] at hk18
    dsimp only at *
    unfold spec_l17All_j1 at hk18
    simp only [run_seq, run_reg, f63, run_mv, run_ops_nil, run_ret, put_at, put_no, ev_t, ev_c, reduceIte, Nat.reduceEqDiff, List.map_cons, List.map_nil]
    have he := some_inj hk18
    subst he
    simp only [end_ret1, put_at, put_no, ev_t, ev_c, reduceIte, Nat.reduceEqDiff, List.map_cons, List.map_nil]
    exact ⟨v55, c56, by first | trivial | rfl, hv57, hS61⟩
theorem spec_NewCluster_x {W : Nat → Bool} {h : Heap} (hW : ∀ b,
    h.length ≤ b → W b = true) (k : Nat) (nodes_0 : Int) (r : Cluster × Bool) (hF : spec_NewCluster k nodes_0 = some r) : Ret E W 9 [.int .i64 nodes_0] h
    (fun v h' => ∃ rv0_2 rc0_2 rv0_3 rc0_3 rv0_4 rc0_4, v = .tup [.agg [.int .i64 r.1.Truth.Epoch, .int .i64 r.1.Truth.Leader, rv0_2, rv0_3, rv0_4],
    .bool r.2] ∧ SlF cI 1 3 rv0_2 r.1.Truth.InStep rc0_2 ∧ SlN Node.R 6 68 rv0_3 r.1.Nodes rc0_3 ∧ SlF Row.cells 2 92 rv0_4 r.1.Acked rc0_4 ∧ Sep h' h.length (rc0_2 ++ (rc0_3 ++
    (rc0_4 ++ ([]))))) := by
  refine Ret.of (fn := x9) rfl (Run.of ?_)
  unfold spec_NewCluster at hF
  have zf0 : argFr [.int .i64 nodes_0] 0 = .int .i64 nodes_0 := rfl
  generalize argFr [.int .i64 nodes_0] = fr0 at zf0 ⊢
  have hS : Sep h h.length [] := Sep.nil h
  simp only [x9, run_seq, run_reg, run_new, put_at, put_no, ev_t, ev_c, reduceIte, Nat.reduceEqDiff, List.map_cons, List.map_nil]
  refine put2_newC hS (fun b1 h2 hS3 => ?_)
  simp only [run_mv, run_ops_nil, x9_9, run_seq, run_reg, zf0, run_call, put_at, put_no, ev_t, ev_c, reduceIte, Nat.reduceEqDiff, List.map_cons, List.map_nil]
  refine call1 rfl (mapM1 snap_int (mapM1 snap_int (mapM1 snap_int mapM0))) (spec_l1In_x (fun b hb => decide_eq_true hb) nodes_0 2 4 _ rfl) ?_
  simp only [run_un, put1_some, xnot, run_ops_nil, x9_1, run_cond, put_at, put_no, ev_t, ev_c, reduceIte, Nat.reduceEqDiff, List.map_cons, List.map_nil]
  refine cond_split (t := (!(spec_l1In nodes_0 2 4))) (fun hc5 => ?_) (fun hc5 => ?_)
  · rw [iteT hc5] at hF
    simp only [run_seq, run_reg, run_build, evp, put_at, put_no, ev_t, ev_c, reduceIte, Nat.reduceEqDiff, List.map_cons, List.map_nil]
    refine put1_eq (v := .agg [.int .i64 0, .int .i64 0, .nil, .nil, .nil]) rfl ?_
    simp only [run_st, put_at, put_no, ev_t, ev_c, reduceIte, Nat.reduceEqDiff, List.map_cons, List.map_nil]
    refine put2_stCx (us := [.int .i64 0, .int .i64 0, .nil, .nil, .nil]) rfl (cs' := [.int .i64 0, .int .i64 0, .nil, .nil,
        .nil]) hS3 hW rfl rfl (Nat.le_of_ble_eq_true rfl) rfl (fun h6 hS7 => ?_)
    simp only [put_no, run_mv, run_ops_nil, run_ret, put_at, ev_t, ev_c, reduceIte, Nat.reduceEqDiff, List.map_cons, List.map_nil]
    have he := some_inj hF
    subst he
    refine end_ret_m (mapM1 (res_cell (bb := b1) (oo := 0) (v := .agg [.int .i64 0, .int .i64 0, .nil, .nil, .nil]) (by simp only [put_at, put_no, ev_t, ev_c, reduceIte,
        Nat.reduceEqDiff, List.map_cons, List.map_nil]) ((xld_bs (Sep.bk _ _ _ hS7)).trans rfl)) (mapM1 (res_t (v := .bool false) (by simp only [put_at, put_no, ev_t, ev_c,
        reduceIte, Nat.reduceEqDiff, List.map_cons, List.map_nil])) mapM0)) ?_
    exact ⟨.nil, [], .nil, [], .nil, [], by first | trivial | rfl, SlF.nil, SlN.nil, SlF.nil, (Sep.dc (hS7))⟩
  · rw [iteF hc5] at hF
    obtain ⟨v8, hx9, hF10⟩ := bind_some' hF
    simp only [run_skip, x9_8, run_seq, run_reg, zf0, run_mv, run_call, put_at, put_no, ev_t, ev_c, reduceIte, Nat.reduceEqDiff, List.map_cons, List.map_nil]
    refine call2 rfl hS3 (mapM1 snap_int mapM0) (spec_l17All_x (fun b hb => decide_eq_true hb) k nodes_0 v8 hx9) ?_
    rintro v11 h15 ⟨_, c12, rfl, hv13, hS16⟩
    refine ⟨_, free_1 (SlF.free1 hv13), hS16, (pf_app (SlF.pf hv13 (fun _ => rfl)) pf_nil), fun h17 hS18 => ?_⟩
    have hS19 : Sep h17 h.length (c12 ++ ([Blk1 b1 [.int .i64 0, .int .i64 0, .nil, .nil, .nil] 28] ++ ([]))) := by simpa only [List.append_assoc, List.nil_append] using hS18
    simp only [run_build, evp, put_at, put_no, ev_t, ev_c, reduceIte, Nat.reduceEqDiff, List.map_cons, List.map_nil]
    refine put1_eq (v := .agg [.int .i64 0, .int .i64 0, v11]) (pbuild_some (fill1 (us := [v11]) (vs := [.int .i64 0, .int .i64 0,
        v11]) (cells_one (SlF.one hv13)) rfl (Nat.le_of_ble_eq_true rfl) (all_c (SlF.one hv13) all_n) rfl fill0)) ?_
    simp only [run_build, evp, put_at, put_no, ev_t, ev_c, reduceIte, Nat.reduceEqDiff, List.map_cons, List.map_nil]
    refine put1_eq (v := .agg [.int .i64 0, .int .i64 0, v11, .nil, .nil]) (pbuild_some (fill1 (us := [.int .i64 0, .int .i64 0, v11]) (vs := [.int .i64 0, .int .i64 0, v11, .nil,
        .nil]) rfl rfl (Nat.le_of_ble_eq_true rfl) (all_c rfl (all_c rfl (all_c (SlF.one hv13) all_n))) rfl fill0)) ?_
    simp only [run_new, put_at, put_no, ev_t, ev_c, reduceIte, Nat.reduceEqDiff, List.map_cons, List.map_nil]
    refine put2_newC hS19 (fun b20 h21 hS22 => ?_)
    simp only [run_st, put_at, put_no, ev_t, ev_c, reduceIte, Nat.reduceEqDiff, List.map_cons, List.map_nil]
    refine put2_stCx (us := [.int .i64 0, .int .i64 0, v11, .nil, .nil]) rfl (cs' := [.int .i64 0, .int .i64 0, v11, .nil,
        .nil]) hS22 hW rfl (all_c rfl (all_c rfl (all_c (SlF.one hv13) (all_c rfl (all_c rfl all_n))))) (Nat.le_of_ble_eq_true rfl) rfl (fun h24 hS25 => ?_)
    simp only [put_no, run_ops_nil, x9_7, run_seq, run_reg, run_mv, put_at, ev_t, ev_c, reduceIte, Nat.reduceEqDiff, List.map_cons, List.map_nil]
    obtain ⟨oc40, hX42, hk43⟩ := jn_some hF10
    simp only [x9_6]
    refine loopF_j (σ := Int × Cluster) (fun s101 => spec_NewCluster_b1 k nodes_0 v8 s101.1 s101.2) (fun s fr' h' => ∃ v35 c36,
        fr' 0 = .int .i64 nodes_0 ∧ fr' 2 = .ptr b1 0 ∧ fr' 4 = .ptr b20 0 ∧ fr' 5 = .int .i64 s.1 ∧ SlN Node.R 6 68 v35 s.2.Nodes c36 ∧ Sep h' h.length ([Blk1 b1 [.int .i64 0,
        .int .i64 0, .nil, .nil, .nil] 28] ++ ([Blk1 b20 [.int .i64 s.2.Truth.Epoch, .int .i64 s.2.Truth.Leader, v11, v35, .nil] 28] ++ (c12 ++ (c36 ++ ([])))))) hX42 ⟨.nil, [],
        by simp only [zf0, put_at, put_no, ev_t, ev_c, reduceIte, Nat.reduceEqDiff, List.map_cons, List.map_nil], by simp only [put_at, put_no, ev_t, ev_c, reduceIte,
        Nat.reduceEqDiff, List.map_cons, List.map_nil], by simp only [put_at, put_no, ev_t, ev_c, reduceIte, Nat.reduceEqDiff, List.map_cons, List.map_nil], by simp only [put_at,
        put_no, ev_t, ev_c, reduceIte, Nat.reduceEqDiff, List.map_cons, List.map_nil], SlN.nil, (Sep.m2 (Sep.m1 (Sep.m1 hS25)))⟩ (fun _ _ _ h => h) ?_ ?_
    · rintro ⟨s32, s33⟩ fr52 h53 ⟨v35, c36, f55, f56, f57, f58, hv37, hS54⟩ oc41 hF44 hr45 Q46 hN47 hK48 hR49 hE50
      dsimp only at *
      unfold spec_NewCluster_b1 at hF44
      simp only [x9_4, run_seq, run_reg, f58, run_mv, f55, run_bin, put1_some, xlss, run_ops_nil, run_cond, put_at, put_no, ev_t, ev_c, reduceIte, Nat.reduceEqDiff, List.map_cons,
          List.map_nil]
      refine cond_split (t := (decide (s32 < nodes_0))) (fun hc60 => ?_) (fun hc60 => ?_)
      · rw [iteT hc60] at hF44
        obtain ⟨l61, hx62, hF63⟩ := bind_some' hF44
        simp only [run_skip, x9_3, run_seq, run_block, x9_2, run_draw, f55, d4_mv, put1d_some, d1_mv, d1_mkS, put_at, put_no, ev_t, ev_c, reduceIte, Nat.reduceEqDiff,
            List.map_cons, List.map_nil]
        refine put2d_mkSF (f := cI) (z := (0 : Int)) hS54 hx62 rfl (fun v64 c65 h66 hv67 hS68 => ?_)
        simp only [f57, d1_fa, put1d_some, Nat.reduceAdd, Nat.zero_add, Nat.add_zero, xfa_ptr, d1_ld, put_at, put_no, ev_t, ev_c, reduceIte, Nat.reduceEqDiff, List.map_cons,
            List.map_nil]
        refine ldd_ptr (Sep.ltk (Sep.m1 hS54)) ?_
        refine put1d_eq (v := v35) ((xld_b (Sep.bk _ _ _ (Sep.m2 hS68))).trans rfl) ?_
        obtain ⟨v70, hx71, hF72⟩ := bind_some' hF63
        simp only [run_d2_call, put_at, put_no, ev_t, ev_c, reduceIte, Nat.reduceEqDiff, List.map_cons, List.map_nil]
        refine call2q rfl hS68 (mapM1 snap_int mapM0) (spec_l17All_x (fun b hb => decide_eq_true hb) k nodes_0 v70 hx71) ?_
        rintro v73 h77 ⟨_, c74, rfl, hv75, hS78⟩
        refine ⟨_, free_1 (SlF.free1 hv75), hS78, (pf_app (SlF.pf hv75 (fun _ => rfl)) pf_nil), fun h79 hS80 => ?_⟩
        have hS81 : Sep h79 h.length (c74 ++ (c65 ++ ([Blk1 b1 [.int .i64 0, .int .i64 0, .nil, .nil, .nil] 28] ++ ([Blk1 b20 [.int .i64 s33.Truth.Epoch,
            .int .i64 s33.Truth.Leader, v11, v35, .nil] 28] ++ (c12 ++ (c36 ++ ([]))))))) := by simpa only [List.append_assoc, List.nil_append] using hS80
        simp only [d4_build, evp, put_at, put_no, ev_t, ev_c, reduceIte, Nat.reduceEqDiff, List.map_cons, List.map_nil]
        refine put1d_eq (v := .agg [.int .i64 0, .int .i64 0, v73]) (pbuild_some (fill1 (us := [v73]) (vs := [.int .i64 0, .int .i64 0,
            v73]) (cells_one (SlF.one hv75)) rfl (Nat.le_of_ble_eq_true rfl) (all_c (SlF.one hv75) all_n) rfl fill0)) ?_
        simp only [d4_build, evp, put_at, put_no, ev_t, ev_c, reduceIte, Nat.reduceEqDiff, List.map_cons, List.map_nil]
        refine put1d_eq (v := .agg [.int .i64 0, .int .i64 0, v73, .nil, v64, .int .i64 0]) (pbuild_some (fill1 (us := [.int .i64 0, .int .i64 0, v73]) (vs := [.int .i64 0,
            .int .i64 0, v73, .nil, .nil, .int .i64 0]) rfl rfl (Nat.le_of_ble_eq_true rfl) (all_c rfl (all_c rfl (all_c (SlF.one hv75) all_n))) rfl (fill1 (us := [v64])
            (vs := [.int .i64 0, .int .i64 0, v73, .nil, v64, .int .i64 0]) (cells_one (SlF.one hv67)) rfl (Nat.le_of_ble_eq_true rfl) (all_c (SlF.one hv67) all_n) rfl fill0))) ?_
        simp only [d4_buildS, evp, put_at, put_no, ev_t, ev_c, reduceIte, Nat.reduceEqDiff, List.map_cons, List.map_nil]
        refine put2d_buildSN (R := Node.R) (n := 6) (cs := [.int .i64 0, .int .i64 0, v73, .nil, v64,
            .int .i64 0]) (os := c74 ++ ([] ++ (c65))) (Sep.bi3 (c1 := c74) (c2 := []) (c3 := c65) (Sep.m1 (Sep.m1 hS81))) (fill1 (us := [.int .i64 0, .int .i64 0, v73, .nil, v64,
            .int .i64 0]) (vs := [.int .i64 0, .int .i64 0, v73, .nil, v64,
            .int .i64 0]) rfl rfl (Nat.le_of_ble_eq_true rfl) (all_c rfl (all_c rfl (all_c (SlF.one hv75) (all_c rfl (all_c (SlF.one hv67) (all_c rfl all_n)))))) rfl fill0)
            (Node.RI (x := (Node.mk (View.mk 0 0 v70) [] l61 0)) hv75 SlF.nil hv67) rfl (fun v82 c83 h84 hv85 hS86 => ?_)
        simp only [d3_app, put_at, put_no, ev_t, ev_c, reduceIte, Nat.reduceEqDiff, List.map_cons, List.map_nil]
        obtain ⟨l88, hx89, hF90⟩ := bind_some' hF72
        refine put2d_appN (R := Node.R) (c := c36) hv37 hv85 (Sep.m4 hS86) hW Node.RO.len Node.RO.one hx89 (fun v91 c92 h93 hv94 hS95 => ?_)
        simp only [f57, d4_fa, put1d_some, Nat.reduceAdd, Nat.zero_add, Nat.add_zero, xfa_ptr, d3_st, put_at, put_no, ev_t, ev_c, reduceIte, Nat.reduceEqDiff, List.map_cons,
            List.map_nil]
        refine put2d_stCx (us := [v91]) (cells_one (SlN.one hv94)) (cs' := [.int .i64 s33.Truth.Epoch, .int .i64 s33.Truth.Leader, v11, v91,
            .nil]) (Sep.m2 hS95) hW rfl (all_c (SlN.one hv94) all_n) (Nat.le_of_ble_eq_true rfl) rfl (fun h97 hS98 => ?_)
        simp only [put_no, run_draw_nil, run_blk, run_reg, f58, run_mv, run_bin, put1_some, xadd, run_ops_nil, run_nil, put_at, ev_t, ev_c, reduceIte, Nat.reduceEqDiff,
            List.map_cons, List.map_nil]
        have e99 := some_inj hF90
        exact hN47 _ _ _ e99.symm ⟨v91, c92, by simp only [f55, put_at, put_no, ev_t, ev_c, reduceIte, Nat.reduceEqDiff, List.map_cons, List.map_nil], by simp only [f56, put_at,
            put_no, ev_t, ev_c, reduceIte, Nat.reduceEqDiff, List.map_cons, List.map_nil], by simp only [f57, put_at, put_no, ev_t, ev_c, reduceIte, Nat.reduceEqDiff,
            List.map_cons, List.map_nil], by simp only [put_at, put_no, ev_t, ev_c, reduceIte, Nat.reduceEqDiff, List.map_cons, List.map_nil], hv94,
            (Sep.m3 (Sep.m2 (Sep.m3 (Sep.m1 hS98))))⟩
      · rw [iteF hc60] at hF44
        simp only [run_exit, out_code, out_nil, put_at, put_no, ev_t, ev_c, reduceIte, Nat.reduceEqDiff, List.map_cons, List.map_nil]
        have e100 := some_inj hF44
        exact hK48 _ _ _ e100.symm ⟨v35, c36, by simp only [f55, put_at, put_no, ev_t, ev_c, reduceIte, Nat.reduceEqDiff, List.map_cons, List.map_nil], by simp only [f56, put_at,
            put_no, ev_t, ev_c, reduceIte, Nat.reduceEqDiff, List.map_cons, List.map_nil], by simp only [f57, put_at, put_no, ev_t, ev_c, reduceIte, Nat.reduceEqDiff,
            List.map_cons, List.map_nil], by simp only [f58, put_at, put_no, ev_t, ev_c, reduceIte, Nat.reduceEqDiff, List.map_cons, List.map_nil], hv37,
            (Sep.m3 (Sep.m3 (Sep.m3 (Sep.m3 hS54))))⟩
    · rintro ⟨s102, s103⟩ fr108 h109 rfl ⟨v105, c106, f111, f112, f113, f114, hv107, hS110⟩
      dsimp only [jnO] at hk43
      dsimp only at *
      unfold spec_NewCluster_j1 at hk43
      simp only [run_seq, run_reg, f113, run_ld, put_at, put_no, ev_t, ev_c, reduceIte, Nat.reduceEqDiff, List.map_cons, List.map_nil]
      refine put1_eq (v := .agg [.int .i64 s103.Truth.Epoch, .int .i64 s103.Truth.Leader, v11, v105, .nil]) ((xld_bs (Sep.bk _ _ _ (Sep.m1 hS110))).trans rfl) ?_
      simp only [f112, run_st, put_at, put_no, ev_t, ev_c, reduceIte, Nat.reduceEqDiff, List.map_cons, List.map_nil]
      refine put2_stCx (us := [.int .i64 s103.Truth.Epoch, .int .i64 s103.Truth.Leader, v11, v105, .nil]) rfl (cs' := [.int .i64 s103.Truth.Epoch, .int .i64 s103.Truth.Leader,
          v11, v105, .nil]) hS110 hW rfl (all_c rfl (all_c rfl (all_c (SlF.one hv13) (all_c (SlN.one hv107) (all_c rfl all_n))))) (Nat.le_of_ble_eq_true rfl) rfl
          (fun h115 hS116 => ?_)
      simp only [put_no, run_mv, run_ops_nil, run_ret, put_at, ev_t, ev_c, reduceIte, Nat.reduceEqDiff, List.map_cons, List.map_nil]
      have he := some_inj hk43
      subst he
      refine end_ret_m (mapM1 (res_cell (bb := b1) (oo := 0) (v := .agg [.int .i64 s103.Truth.Epoch, .int .i64 s103.Truth.Leader, v11, v105, .nil]) (by simp only [f112, put_at,
          put_no, ev_t, ev_c, reduceIte, Nat.reduceEqDiff, List.map_cons,
          List.map_nil]) ((xld_bs (Sep.bk _ _ _ hS116)).trans rfl)) (mapM1 (res_t (v := .bool true) (by simp only [put_at, put_no, ev_t, ev_c, reduceIte, Nat.reduceEqDiff,
          List.map_cons, List.map_nil])) mapM0)) ?_
      exact ⟨v11, c12, v105, c106, .nil, [], by first | trivial | rfl, hv13, hv107, SlF.nil, (Sep.m1 (Sep.m1 (Sep.dc ((Sep.dc (hS116))))))⟩
theorem impl_in_x {W : Nat → Bool} {h : Heap} (hW : ∀ b,
    h.length ≤ b → W b = true) (n_0 : Int) (low_1 : Int) (high_2 : Int) (r : Bool) (hF : some (impl_in n_0 low_1 high_2) = some r) : Ret E W 39 [.int .i64 n_0, .int .i64 low_1,
    .int .i64 high_2] h (fun v h' => cut h.length h' E.sz false 9 v = some (.bool r)) := by
  refine Ret.of (fn := x39) rfl (Run.of ?_)
  unfold impl_in at hF
  have zf0 : argFr [.int .i64 n_0, .int .i64 low_1, .int .i64 high_2] 0 = .int .i64 n_0 := rfl
  have zf1 : argFr [.int .i64 n_0, .int .i64 low_1, .int .i64 high_2] 1 = .int .i64 low_1 := rfl
  have zf2 : argFr [.int .i64 n_0, .int .i64 low_1, .int .i64 high_2] 2 = .int .i64 high_2 := rfl
  generalize argFr [.int .i64 n_0, .int .i64 low_1, .int .i64 high_2] = fr0 at zf0 zf1 zf2 ⊢
  have hS : Sep h h.length [] := Sep.nil h
  simp only [x39, run_seq, run_reg, run_mv, run_ops_nil, x39_1, zf0, zf1, run_bin, put1_some, xgeq, put_at, put_no, ev_t, ev_c, reduceIte, Nat.reduceEqDiff, List.map_cons,
      List.map_nil]
  refine ops_j 4 (fun fr' h' => Sep h' h.length ([]) ∧ fr' 14 = .bool ((decide (low_1 ≤ n_0)) && (decide (n_0 ≤ high_2)))) (fun Q1 hN2 => ?_) ?_
  · simp only [List.take_succ_cons, List.take_zero]
    simp only [run_guard (g := 10), put_at, put_no, ev_t, ev_c, reduceIte, Nat.reduceEqDiff, List.map_cons, List.map_nil]
    refine guard_split (t := (decide (low_1 ≤ n_0))) (fun hg3 => ?_) (fun hg3 => ?_)
    · simp only [hg3, run_guard (g := 10), guard_true, zf0, run_mv, zf2, run_bin, put1_some, xleq, run_pick, xpick_t, run_ops_nil, run_nil, put_at, put_no, ev_t, ev_c, reduceIte,
        Nat.reduceEqDiff, List.map_cons, List.map_nil]
      exact hN2 _ _ ⟨hS, by rw [andT hg3]; simp only [put_at, put_no, ev_t, ev_c, reduceIte, Nat.reduceEqDiff, List.map_cons, List.map_nil]⟩
    · simp only [hg3, run_guard (g := 10), guard_off, run_pick, put1_some, xpick_f, run_ops_nil, run_nil, put_at, put_no, ev_t, ev_c, reduceIte, Nat.reduceEqDiff, List.map_cons,
        List.map_nil]
      exact hN2 _ _ ⟨hS, by rw [andF hg3]; simp only [put_at, put_no, ev_t, ev_c, reduceIte, Nat.reduceEqDiff, List.map_cons, List.map_nil]⟩
  · rintro fr4 h6 ⟨hS7, f5⟩
    simp only [List.drop_succ_cons, List.drop_zero]
    simp only [f5, run_mv, run_ops_nil, run_ret, put_at, put_no, ev_t, ev_c, reduceIte, Nat.reduceEqDiff, List.map_cons, List.map_nil]
    have he := some_inj hF
    subst he
    simp only [end_ret1, put_at, put_no, ev_t, ev_c, reduceIte, Nat.reduceEqDiff, List.map_cons, List.map_nil]
    exact rfl
theorem impl_copyView_x {W : Nat → Bool} {h : Heap} (hW : ∀ b,
    h.length ≤ b → W b = true) (v_0 : View) (r : View) (hF : impl_copyView v_0 = some r) : Ret E W 67 [.agg [.int .i64 v_0.Epoch, .int .i64 v_0.Leader,
    lst cI v_0.InStep]] h (fun v h' => ∃ rv0_2 rc0_2, v = .agg [.int .i64 r.Epoch, .int .i64 r.Leader,
    rv0_2] ∧ SlF cI 1 3 rv0_2 r.InStep rc0_2 ∧ Sep h' h.length (rc0_2 ++ ([]))) := by
  refine Ret.of (fn := x67) rfl (Run.of ?_)
  unfold impl_copyView at hF
  have zf0 : argFr [.agg [.int .i64 v_0.Epoch, .int .i64 v_0.Leader, lst cI v_0.InStep]] 0 = .agg [.int .i64 v_0.Epoch, .int .i64 v_0.Leader, lst cI v_0.InStep] := rfl
  generalize argFr [.agg [.int .i64 v_0.Epoch, .int .i64 v_0.Leader, lst cI v_0.InStep]] = fr0 at zf0 ⊢
  have hS : Sep h h.length [] := Sep.nil h
  simp only [x67, run_seq, run_reg, run_box, zf0, put_at, put_no, ev_t, ev_c, reduceIte, Nat.reduceEqDiff, List.map_cons, List.map_nil]
  refine put2_boxC (cs := [.int .i64 v_0.Epoch, .int .i64 v_0.Leader, lst cI v_0.InStep]) hS rfl rfl rfl (fun b1 h2 hS3 => ?_)
  simp only [run_new, put_at, put_no, ev_t, ev_c, reduceIte, Nat.reduceEqDiff, List.map_cons, List.map_nil]
  refine put2_newC hS3 (fun b5 h6 hS7 => ?_)
  simp only [run_ops_nil, x67_1, run_seq, run_reg, run_buildS, evp, put_at, put_no, ev_t, ev_c, reduceIte, Nat.reduceEqDiff, List.map_cons, List.map_nil]
  refine put2_buildSF (n := 1) (f := cI) ([] : List Int) hS7 rfl rfl (fun v9 c10 h11 hv12 hS13 => ?_)
  simp only [run_fa, put1_some, Nat.reduceAdd, Nat.zero_add, Nat.add_zero, xfa_ptr, run_ld, put_at, put_no, ev_t, ev_c, reduceIte, Nat.reduceEqDiff, List.map_cons, List.map_nil]
  refine put1_eq (v := lst cI v_0.InStep) ((xld_b (Sep.bk _ _ _ (Sep.m2 hS13))).trans rfl) ?_
  simp only [run_app, put_at, put_no, ev_t, ev_c, reduceIte, Nat.reduceEqDiff, List.map_cons, List.map_nil]
  obtain ⟨l15, hx16, hF17⟩ := bind_some' hF
  refine put2_appF (f := cI) hv12 hS13 hW (fun _ => rfl) (fun _ => rfl) (firstOf_lst (fun _ => rfl)) hx16 (fun v18 c19 h20 hv21 hS22 => ?_)
  simp only [run_fa, put1_some, Nat.reduceAdd, Nat.zero_add, Nat.add_zero, xfa_ptr, run_st, put_at, put_no, ev_t, ev_c, reduceIte, Nat.reduceEqDiff, List.map_cons, List.map_nil]
  refine put2_stCx (us := [v18]) (cells_one (SlF.one hv21)) (cs' := [.int .i64 v_0.Epoch, .int .i64 v_0.Leader,
      v18]) (Sep.m2 hS22) hW rfl (all_c (SlF.one hv21) all_n) (Nat.le_of_ble_eq_true rfl) rfl (fun h24 hS25 => ?_)
  simp only [put_no, run_ops_nil, run_seq, run_reg, run_ld, put_at, ev_t, ev_c, reduceIte, Nat.reduceEqDiff, List.map_cons, List.map_nil]
  refine put1_eq (v := .agg [.int .i64 v_0.Epoch, .int .i64 v_0.Leader, v18]) ((xld_bs (Sep.bk _ _ _ hS25)).trans rfl) ?_
  simp only [run_st, put_at, put_no, ev_t, ev_c, reduceIte, Nat.reduceEqDiff, List.map_cons, List.map_nil]
  refine put2_stCx (us := [.int .i64 v_0.Epoch, .int .i64 v_0.Leader, v18]) rfl (cs' := [.int .i64 v_0.Epoch, .int .i64 v_0.Leader,
      v18]) (Sep.m2 hS25) hW rfl (all_c rfl (all_c rfl (all_c (SlF.one hv21) all_n))) (Nat.le_of_ble_eq_true rfl) rfl (fun h26 hS27 => ?_)
  simp only [put_no, run_ops_nil, run_ret, put_at, ev_t, ev_c, reduceIte, Nat.reduceEqDiff, List.map_cons, List.map_nil]
  have he := some_inj hF17
  subst he
  refine end_ret_cell (bb := b5) (oo := 0) (v := .agg [.int .i64 v_0.Epoch, .int .i64 v_0.Leader, v18]) (by simp only [put_at, put_no, ev_t, ev_c, reduceIte, Nat.reduceEqDiff,
      List.map_cons, List.map_nil]) ((xld_bs (Sep.bk _ _ _ hS27)).trans rfl) ?_
  exact ⟨v18, c19, by first | trivial | rfl, hv21, (Sep.dc ((Sep.dc (hS27))))⟩
theorem impl_newCluster_x {W : Nat → Bool} {h : Heap} (hW : ∀ b,
    h.length ≤ b → W b = true) (nodes_0 : Int) (r : Cluster) (hF : impl_newCluster nodes_0 = some r) : Ret E W 40 [.int .i64 nodes_0] h
    (fun v h' => ∃ rv0_2 rc0_2 rv0_3 rc0_3 rv0_4 rc0_4, v = .agg [.int .i64 r.Truth.Epoch, .int .i64 r.Truth.Leader, rv0_2, rv0_3,
    rv0_4] ∧ SlF cI 1 3 rv0_2 r.Truth.InStep rc0_2 ∧ SlN Node.R 6 68 rv0_3 r.Nodes rc0_3 ∧ SlF Row.cells 2 92 rv0_4 r.Acked rc0_4 ∧ Sep h' h.length (rc0_2 ++ (rc0_3 ++ (rc0_4 ++
    ([]))))) := by
  refine Ret.of (fn := x40) rfl (Run.of ?_)
  unfold impl_newCluster at hF
  have zf0 : argFr [.int .i64 nodes_0] 0 = .int .i64 nodes_0 := rfl
  generalize argFr [.int .i64 nodes_0] = fr0 at zf0 ⊢
  have hS : Sep h h.length [] := Sep.nil h
  simp only [x40, run_seq, run_reg, run_new, put_at, put_no, ev_t, ev_c, reduceIte, Nat.reduceEqDiff, List.map_cons, List.map_nil]
  refine put2_newC hS (fun b1 h2 hS3 => ?_)
  simp only [run_ops_nil, x40_10, run_seq, run_reg, run_build, evp, put_at, put_no, ev_t, ev_c, reduceIte, Nat.reduceEqDiff, List.map_cons, List.map_nil]
  refine put1_eq (v := .agg [.int .i64 0, .int .i64 0, .nil, .nil, .nil]) rfl ?_
  simp only [run_new, put_at, put_no, ev_t, ev_c, reduceIte, Nat.reduceEqDiff, List.map_cons, List.map_nil]
  refine put2_newC hS3 (fun b5 h6 hS7 => ?_)
  simp only [run_st, put_at, put_no, ev_t, ev_c, reduceIte, Nat.reduceEqDiff, List.map_cons, List.map_nil]
  refine put2_stCx (us := [.int .i64 0, .int .i64 0, .nil, .nil, .nil]) rfl (cs' := [.int .i64 0, .int .i64 0, .nil, .nil,
      .nil]) hS7 hW rfl rfl (Nat.le_of_ble_eq_true rfl) rfl (fun h9 hS10 => ?_)
  simp only [put_no, run_ops_nil, x40_9, run_seq, run_reg, zf0, run_mv, put_at, ev_t, ev_c, reduceIte, Nat.reduceEqDiff, List.map_cons, List.map_nil]
  obtain ⟨oc23, hX25, hk26⟩ := jn_some hF
  simp only [x40_4]
  refine rangeN_j (σ := Cluster) (fun i21 s62 => impl_newCluster_b1 i21 s62) (fun s fr' h' => ∃ v18 c19,
      fr' 0 = .int .i64 nodes_0 ∧ fr' 2 = .ptr b1 0 ∧ fr' 3 = .ptr b5 0 ∧ SlF cI 1 3 v18 s.Truth.InStep c19 ∧ Sep h' h.length ([Blk1 b1 [.int .i64 0, .int .i64 0, .nil, .nil,
      .nil] 28] ++ ([Blk1 b5 [.int .i64 s.Truth.Epoch, .int .i64 s.Truth.Leader, v18, .nil, .nil] 28] ++ (c19 ++ ([]))))) hX25 ⟨.nil, [], by simp only [zf0, put_at, put_no, ev_t,
      ev_c, reduceIte, Nat.reduceEqDiff, List.map_cons, List.map_nil], by simp only [put_at, put_no, ev_t, ev_c, reduceIte, Nat.reduceEqDiff, List.map_cons, List.map_nil],
      by simp only [put_at, put_no, ev_t, ev_c, reduceIte, Nat.reduceEqDiff, List.map_cons, List.map_nil], SlF.nil, (Sep.m1 hS10)⟩ (by simp only [put_at, put_no, ev_t, ev_c,
      reduceIte, Nat.reduceEqDiff, List.map_cons, List.map_nil]) (by simp only [put_at, put_no, ev_t, ev_c, reduceIte, Nat.reduceEqDiff, List.map_cons,
      List.map_nil]) (fun _ _ _ h => h) rfl rfl (fun _ _ _ _ h => h) (fun _ _ _ _ h => h) (fun _ _ _ _ h => h) (by decide) ?_ ?_
  · rintro i21 s16 fr35 h36 hx41 ⟨v18, c19, f38, f39, f40, hv20, hS37⟩ f42 f43 oc24 hF27 hr28 Q29 hN30 hB34 hK31 hR32 hE33
    unfold impl_newCluster_b1 at hF27
    simp only [x40_2, run_seq, run_reg, f42, run_mv, run_ops_nil, x40_1, f40, run_fa, put1_some, Nat.reduceAdd, Nat.zero_add, Nat.add_zero, xfa_ptr, run_ld, put_at, put_no, ev_t,
        ev_c, reduceIte, Nat.reduceEqDiff, List.map_cons, List.map_nil]
    refine put1_eq (v := v18) ((xld_b (Sep.bk _ _ _ (Sep.m1 hS37))).trans rfl) ?_
    simp only [run_mv, run_buildS, evp, put_at, put_no, ev_t, ev_c, reduceIte, Nat.reduceEqDiff, List.map_cons, List.map_nil]
    refine put2_buildSF (n := 1) (f := cI) [(i21 : Int)] hS37 rfl rfl (fun v44 c45 h46 hv47 hS48 => ?_)
    simp only [run_app, put_at, put_no, ev_t, ev_c, reduceIte, Nat.reduceEqDiff, List.map_cons, List.map_nil]
    obtain ⟨l50, hx51, hF52⟩ := bind_some' hF27
    refine put2_appF (f := cI) hv20 (Sep.m3 hS48) hW (fun _ => rfl) (fun _ => rfl) (SlF.first hv47 hS48 (fun _ => rfl)) hx51 (fun v53 c54 h55 hv56 hS57 => ?_)
    simp only [f40, run_fa, put1_some, Nat.reduceAdd, Nat.zero_add, Nat.add_zero, xfa_ptr, run_st, put_at, put_no, ev_t, ev_c, reduceIte, Nat.reduceEqDiff, List.map_cons,
        List.map_nil]
    refine put2_stCx (us := [v53]) (cells_one (SlF.one hv56)) (cs' := [.int .i64 s16.Truth.Epoch, .int .i64 s16.Truth.Leader, v53, .nil,
        .nil]) (Sep.m3 hS57) hW rfl (all_c (SlF.one hv56) all_n) (Nat.le_of_ble_eq_true rfl) rfl (fun h59 hS60 => ?_)
    simp only [put_no, run_ops_nil, run_nil, put_at, ev_t, ev_c, reduceIte, Nat.reduceEqDiff, List.map_cons, List.map_nil]
    have e61 := some_inj hF52
    exact hN30 _ _ _ e61.symm ⟨v53, c54, by simp only [f38, put_at, put_no, ev_t, ev_c, reduceIte, Nat.reduceEqDiff, List.map_cons, List.map_nil], by simp only [f39, put_at,
        put_no, ev_t, ev_c, reduceIte, Nat.reduceEqDiff, List.map_cons, List.map_nil], by simp only [f40, put_at, put_no, ev_t, ev_c, reduceIte, Nat.reduceEqDiff, List.map_cons,
        List.map_nil], hv56, (Sep.m2 (Sep.m1 (Sep.m1 (Sep.dc (Sep.m2 hS60)))))⟩ (by simp only [f42, put_at, put_no, ev_t, ev_c, reduceIte, Nat.reduceEqDiff, List.map_cons,
        List.map_nil]) (by simp only [f43, put_at, put_no, ev_t, ev_c, reduceIte, Nat.reduceEqDiff, List.map_cons, List.map_nil])
  · rintro s63 fr68 h69 rfl ⟨v65, c66, f71, f72, f73, hv67, hS70⟩
    dsimp only [jnO] at hk26
    unfold impl_newCluster_j2 at hk26
    simp only [x40_8, run_seq, run_reg, f71, run_mv, run_ops_nil, put_at, put_no, ev_t, ev_c, reduceIte, Nat.reduceEqDiff, List.map_cons, List.map_nil]
    obtain ⟨oc86, hX88, hk89⟩ := jn_some hk26
    simp only [x40_7]
    refine rangeN_j (σ := Cluster) (fun i84 s146 => impl_newCluster_b2 nodes_0 s63 i84 s146) (fun s fr' h' => ∃ v81 c82,
        fr' 0 = .int .i64 nodes_0 ∧ fr' 2 = .ptr b1 0 ∧ fr' 3 = .ptr b5 0 ∧ SlN Node.R 6 68 v81 s.Nodes c82 ∧ Sep h' h.length ([Blk1 b1 [.int .i64 0, .int .i64 0, .nil, .nil,
        .nil] 28] ++ ([Blk1 b5 [.int .i64 s.Truth.Epoch, .int .i64 s.Truth.Leader, v65, v81, .nil] 28] ++ (c66 ++ (c82 ++ ([])))))) hX88 ⟨.nil, [], by simp only [f71, put_at,
        put_no, ev_t, ev_c, reduceIte, Nat.reduceEqDiff, List.map_cons, List.map_nil], by simp only [f72, put_at, put_no, ev_t, ev_c, reduceIte, Nat.reduceEqDiff, List.map_cons,
        List.map_nil], by simp only [f73, put_at, put_no, ev_t, ev_c, reduceIte, Nat.reduceEqDiff, List.map_cons, List.map_nil], SlN.nil,
        (Sep.m2 (Sep.m2 (Sep.m2 hS70)))⟩ (by simp only [put_at, put_no, ev_t, ev_c, reduceIte, Nat.reduceEqDiff, List.map_cons, List.map_nil]) (by simp only [put_at, put_no, ev_t,
        ev_c, reduceIte, Nat.reduceEqDiff, List.map_cons, List.map_nil]) (fun _ _ _ h => h) rfl rfl (fun _ _ _ _ h => h) (fun _ _ _ _ h => h) (fun _ _ _ _ h => h) (by decide) ?_ ?_
    · rintro i84 s79 fr98 h99 hx104 ⟨v81, c82, f101, f102, f103, hv83, hS100⟩ f105 f106 oc87 hF90 hr91 Q92 hN93 hB97 hK94 hR95 hE96
      unfold impl_newCluster_b2 at hF90
      simp only [x40_5, run_draw, f103, d4_fa, put1d_some, Nat.reduceAdd, Nat.zero_add, Nat.add_zero, xfa_ptr, d4_ld, put_at, put_no, ev_t, ev_c, reduceIte, Nat.reduceEqDiff,
          List.map_cons, List.map_nil]
      refine put1d_eq (v := .agg [.int .i64 s79.Truth.Epoch, .int .i64 s79.Truth.Leader, v65]) ((xld_bs (Sep.bk _ _ _ (Sep.m1 hS100))).trans rfl) ?_
      obtain ⟨l107, hx108, hF109⟩ := bind_some' hF90
      simp only [f101, d1_mv, put1d_some, d1_mkS, put_at, put_no, ev_t, ev_c, reduceIte, Nat.reduceEqDiff, List.map_cons, List.map_nil]
      refine put2d_mkSF (f := cI) (z := (0 : Int)) hS100 hx108 rfl (fun v110 c111 h112 hv113 hS114 => ?_)
      simp only [f103, d1_fa, put1d_some, Nat.reduceAdd, Nat.zero_add, Nat.add_zero, xfa_ptr, d1_ld, put_at, put_no, ev_t, ev_c, reduceIte, Nat.reduceEqDiff, List.map_cons,
          List.map_nil]
      refine ldd_ptr (Sep.ltk (Sep.m1 hS100)) ?_
      refine put1d_eq (v := v81) ((xld_b (Sep.bk _ _ _ (Sep.m2 hS114))).trans rfl) ?_
      obtain ⟨v116, hx117, hF118⟩ := bind_some' hF109
      simp only [run_d2_call, put_at, put_no, ev_t, ev_c, reduceIte, Nat.reduceEqDiff, List.map_cons, List.map_nil]
      refine call2q rfl hS114 (mapM1 (snap_agg (mapM1 snap_int (mapM1 snap_int (mapM1 (SlF.snap hv67 (Sep.m3 hS114) rfl (fun _ => rfl) (fun _ => rfl)) mapM0)))) mapM0)
          (impl_copyView_x (fun b hb => decide_eq_true hb) (View.mk s79.Truth.Epoch s79.Truth.Leader s63.Truth.InStep) v116 hx117) ?_
      rintro _ h123 ⟨v119, c120, rfl, hv121, hS124⟩
      refine ⟨_, free_a (all_c rfl (all_c rfl (all_c (SlF.free1 hv121) all_n))), hS124, (pf_app (SlF.pf hv121 (fun _ => rfl)) pf_nil), fun h125 hS126 => ?_⟩
      have hS127 : Sep h125 h.length (c120 ++ (c111 ++ ([Blk1 b1 [.int .i64 0, .int .i64 0, .nil, .nil, .nil] 28] ++ ([Blk1 b5 [.int .i64 s79.Truth.Epoch,
          .int .i64 s79.Truth.Leader, v65, v81, .nil] 28] ++ (c66 ++ (c82 ++ ([]))))))) := by simpa only [List.append_assoc, List.nil_append] using hS126
      simp only [d4_build, evp, put_at, put_no, ev_t, ev_c, reduceIte, Nat.reduceEqDiff, List.map_cons, List.map_nil]
      refine put1d_eq (v := .agg [.int .i64 v116.Epoch, .int .i64 v116.Leader, v119, .nil, v110, .int .i64 0]) (pbuild_some (fill1 (us := [.int .i64 v116.Epoch,
          .int .i64 v116.Leader, v119]) (vs := [.int .i64 v116.Epoch, .int .i64 v116.Leader, v119, .nil, .nil,
          .int .i64 0]) rfl rfl (Nat.le_of_ble_eq_true rfl) (all_c rfl (all_c rfl (all_c (SlF.one hv121) all_n))) rfl (fill1 (us := [v110]) (vs := [.int .i64 v116.Epoch,
          .int .i64 v116.Leader, v119, .nil, v110, .int .i64 0]) (cells_one (SlF.one hv113)) rfl (Nat.le_of_ble_eq_true rfl) (all_c (SlF.one hv113) all_n) rfl fill0))) ?_
      simp only [d4_buildS, evp, put_at, put_no, ev_t, ev_c, reduceIte, Nat.reduceEqDiff, List.map_cons, List.map_nil]
      refine put2d_buildSN (R := Node.R) (n := 6) (cs := [.int .i64 v116.Epoch, .int .i64 v116.Leader, v119, .nil, v110,
          .int .i64 0]) (os := c120 ++ ([] ++ (c111))) (Sep.bi3 (c1 := c120) (c2 := []) (c3 := c111) (Sep.m1 (Sep.m1 hS127))) (fill1 (us := [.int .i64 v116.Epoch,
          .int .i64 v116.Leader, v119, .nil, v110, .int .i64 0]) (vs := [.int .i64 v116.Epoch, .int .i64 v116.Leader, v119, .nil, v110,
          .int .i64 0]) rfl rfl (Nat.le_of_ble_eq_true rfl) (all_c rfl (all_c rfl (all_c (SlF.one hv121) (all_c rfl (all_c (SlF.one hv113) (all_c rfl all_n)))))) rfl fill0)
          (Node.RI (x := (Node.mk v116 [] l107 0)) hv121 SlF.nil hv113) rfl (fun v128 c129 h130 hv131 hS132 => ?_)
      simp only [d3_app, put_at, put_no, ev_t, ev_c, reduceIte, Nat.reduceEqDiff, List.map_cons, List.map_nil]
      obtain ⟨l134, hx135, hF136⟩ := bind_some' hF118
      refine put2d_appN (R := Node.R) (c := c82) hv83 hv131 (Sep.m4 hS132) hW Node.RO.len Node.RO.one hx135 (fun v137 c138 h139 hv140 hS141 => ?_)
      simp only [f103, d4_fa, put1d_some, Nat.reduceAdd, Nat.zero_add, Nat.add_zero, xfa_ptr, d3_st, put_at, put_no, ev_t, ev_c, reduceIte, Nat.reduceEqDiff, List.map_cons,
          List.map_nil]
      refine put2d_stCx (us := [v137]) (cells_one (SlN.one hv140)) (cs' := [.int .i64 s79.Truth.Epoch, .int .i64 s79.Truth.Leader, v65, v137,
          .nil]) (Sep.m2 hS141) hW rfl (all_c (SlN.one hv140) all_n) (Nat.le_of_ble_eq_true rfl) rfl (fun h143 hS144 => ?_)
      simp only [put_no, run_draw_nil, run_nil, put_at, ev_t, ev_c, reduceIte, Nat.reduceEqDiff, List.map_cons, List.map_nil]
      have e145 := some_inj hF136
      exact hN93 _ _ _ e145.symm ⟨v137, c138, by simp only [f101, put_at, put_no, ev_t, ev_c, reduceIte, Nat.reduceEqDiff, List.map_cons, List.map_nil], by simp only [f102,
          put_at, put_no, ev_t, ev_c, reduceIte, Nat.reduceEqDiff, List.map_cons, List.map_nil], by simp only [f103, put_at, put_no, ev_t, ev_c, reduceIte, Nat.reduceEqDiff,
          List.map_cons, List.map_nil], hv140, (Sep.m3 (Sep.m2 (Sep.m3 (Sep.m1 hS144))))⟩ (by simp only [f105, put_at, put_no, ev_t, ev_c, reduceIte, Nat.reduceEqDiff,
          List.map_cons, List.map_nil]) (by simp only [f106, put_at, put_no, ev_t, ev_c, reduceIte, Nat.reduceEqDiff, List.map_cons, List.map_nil])
    · rintro s147 fr152 h153 rfl ⟨v149, c150, f155, f156, f157, hv151, hS154⟩
      dsimp only [jnO] at hk89
      unfold impl_newCluster_j1 at hk89
      simp only [run_seq, run_reg, f157, run_ld, put_at, put_no, ev_t, ev_c, reduceIte, Nat.reduceEqDiff, List.map_cons, List.map_nil]
      refine put1_eq (v := .agg [.int .i64 s147.Truth.Epoch, .int .i64 s147.Truth.Leader, v65, v149, .nil]) ((xld_bs (Sep.bk _ _ _ (Sep.m1 hS154))).trans rfl) ?_
      simp only [f156, run_st, put_at, put_no, ev_t, ev_c, reduceIte, Nat.reduceEqDiff, List.map_cons, List.map_nil]
      refine put2_stCx (us := [.int .i64 s147.Truth.Epoch, .int .i64 s147.Truth.Leader, v65, v149, .nil]) rfl (cs' := [.int .i64 s147.Truth.Epoch, .int .i64 s147.Truth.Leader,
          v65, v149, .nil]) hS154 hW rfl (all_c rfl (all_c rfl (all_c (SlF.one hv67) (all_c (SlN.one hv151) (all_c rfl all_n))))) (Nat.le_of_ble_eq_true rfl) rfl
          (fun h158 hS159 => ?_)
      simp only [put_no, run_ops_nil, run_ret, put_at, ev_t, ev_c, reduceIte, Nat.reduceEqDiff, List.map_cons, List.map_nil]
      have he := some_inj hk89
      subst he
      refine end_ret_cell (bb := b1) (oo := 0) (v := .agg [.int .i64 s147.Truth.Epoch, .int .i64 s147.Truth.Leader, v65, v149, .nil]) (by simp only [f156, put_at, put_no, ev_t,
          ev_c, reduceIte, Nat.reduceEqDiff, List.map_cons, List.map_nil]) ((xld_bs (Sep.bk _ _ _ hS159)).trans rfl) ?_
      exact ⟨v65, c66, v149, c150, .nil, [], by first | trivial | rfl, hv67, hv151, SlF.nil, (Sep.m1 (Sep.m1 (Sep.dc ((Sep.dc (hS159))))))⟩
theorem impl_NewCluster_x {W : Nat → Bool} {h : Heap} (hW : ∀ b,
    h.length ≤ b → W b = true) (nodes_0 : Int) (r : Cluster × Bool) (hF : impl_NewCluster nodes_0 = some r) : Ret E W 10 [.int .i64 nodes_0] h
    (fun v h' => ∃ rv0_2 rc0_2 rv0_3 rc0_3 rv0_4 rc0_4, v = .tup [.agg [.int .i64 r.1.Truth.Epoch, .int .i64 r.1.Truth.Leader, rv0_2, rv0_3, rv0_4],
    .bool r.2] ∧ SlF cI 1 3 rv0_2 r.1.Truth.InStep rc0_2 ∧ SlN Node.R 6 68 rv0_3 r.1.Nodes rc0_3 ∧ SlF Row.cells 2 92 rv0_4 r.1.Acked rc0_4 ∧ Sep h' h.length (rc0_2 ++ (rc0_3 ++
    (rc0_4 ++ ([]))))) := by
  refine Ret.of (fn := x10) rfl (Run.of ?_)
  unfold impl_NewCluster at hF
  have zf0 : argFr [.int .i64 nodes_0] 0 = .int .i64 nodes_0 := rfl
  generalize argFr [.int .i64 nodes_0] = fr0 at zf0 ⊢
  have hS : Sep h h.length [] := Sep.nil h
  simp only [x10, run_seq, run_reg, run_new, put_at, put_no, ev_t, ev_c, reduceIte, Nat.reduceEqDiff, List.map_cons, List.map_nil]
  refine put2_newC hS (fun b1 h2 hS3 => ?_)
  simp only [run_mv, run_ops_nil, x10_3, run_seq, run_reg, zf0, run_call, put_at, put_no, ev_t, ev_c, reduceIte, Nat.reduceEqDiff, List.map_cons, List.map_nil]
  refine call1 rfl (mapM1 snap_int (mapM1 snap_int (mapM1 snap_int mapM0))) (impl_in_x (fun b hb => decide_eq_true hb) nodes_0 2 4 _ rfl) ?_
  simp only [run_un, put1_some, xnot, run_ops_nil, x10_1, run_cond, put_at, put_no, ev_t, ev_c, reduceIte, Nat.reduceEqDiff, List.map_cons, List.map_nil]
  refine cond_split (t := (!(impl_in nodes_0 2 4))) (fun hc5 => ?_) (fun hc5 => ?_)
  · rw [iteT hc5] at hF
    simp only [run_seq, run_reg, run_build, evp, put_at, put_no, ev_t, ev_c, reduceIte, Nat.reduceEqDiff, List.map_cons, List.map_nil]
    refine put1_eq (v := .agg [.int .i64 0, .int .i64 0, .nil, .nil, .nil]) rfl ?_
    simp only [run_st, put_at, put_no, ev_t, ev_c, reduceIte, Nat.reduceEqDiff, List.map_cons, List.map_nil]
    refine put2_stCx (us := [.int .i64 0, .int .i64 0, .nil, .nil, .nil]) rfl (cs' := [.int .i64 0, .int .i64 0, .nil, .nil,
        .nil]) hS3 hW rfl rfl (Nat.le_of_ble_eq_true rfl) rfl (fun h6 hS7 => ?_)
    simp only [put_no, run_mv, run_ops_nil, run_ret, put_at, ev_t, ev_c, reduceIte, Nat.reduceEqDiff, List.map_cons, List.map_nil]
    have he := some_inj hF
    subst he
    refine end_ret_m (mapM1 (res_cell (bb := b1) (oo := 0) (v := .agg [.int .i64 0, .int .i64 0, .nil, .nil, .nil]) (by simp only [put_at, put_no, ev_t, ev_c, reduceIte,
        Nat.reduceEqDiff, List.map_cons, List.map_nil]) ((xld_bs (Sep.bk _ _ _ hS7)).trans rfl)) (mapM1 (res_t (v := .bool false) (by simp only [put_at, put_no, ev_t, ev_c,
        reduceIte, Nat.reduceEqDiff, List.map_cons, List.map_nil])) mapM0)) ?_
    exact ⟨.nil, [], .nil, [], .nil, [], by first | trivial | rfl, SlF.nil, SlN.nil, SlF.nil, (Sep.dc (hS7))⟩
  · rw [iteF hc5] at hF
    obtain ⟨v8, hx9, hF10⟩ := bind_some' hF
    simp only [run_skip, x10_2, run_seq, run_reg, zf0, run_mv, run_call, put_at, put_no, ev_t, ev_c, reduceIte, Nat.reduceEqDiff, List.map_cons, List.map_nil]
    refine call2 rfl hS3 (mapM1 snap_int mapM0) (impl_newCluster_x (fun b hb => decide_eq_true hb) nodes_0 v8 hx9) ?_
    rintro _ h23 ⟨v11, c12, v15, c16, v19, c20, rfl, hv13, hv17, hv21, hS24⟩
    refine ⟨_, free_a (all_c rfl (all_c rfl (all_c (SlF.free1 hv13) (all_c (SlN.free1 hv17) (all_c (SlF.free1 hv21) all_n))))), hS24,
        (pf_app (SlF.pf hv13 (fun _ => rfl)) (pf_app (SlN.pf hv17 Node.RO) (pf_app (SlF.pf hv21 (fun _ => rfl)) pf_nil))), fun h25 hS26 => ?_⟩
    have hS27 : Sep h25 h.length (c12 ++ (c16 ++ (c20 ++ ([Blk1 b1 [.int .i64 0, .int .i64 0, .nil, .nil, .nil] 28] ++ ([]))))) := by simpa only [List.append_assoc,
        List.nil_append] using hS26
    simp only [run_st, put_at, put_no, ev_t, ev_c, reduceIte, Nat.reduceEqDiff, List.map_cons, List.map_nil]
    refine put2_stCx (us := [.int .i64 v8.Truth.Epoch, .int .i64 v8.Truth.Leader, v11, v15, v19]) rfl (cs' := [.int .i64 v8.Truth.Epoch, .int .i64 v8.Truth.Leader, v11, v15,
        v19]) (Sep.m3 hS27) hW rfl (all_c rfl (all_c rfl (all_c (SlF.one hv13) (all_c (SlN.one hv17) (all_c (SlF.one hv21) all_n))))) (Nat.le_of_ble_eq_true rfl) rfl
        (fun h28 hS29 => ?_)
    simp only [put_no, run_mv, run_ops_nil, run_ret, put_at, ev_t, ev_c, reduceIte, Nat.reduceEqDiff, List.map_cons, List.map_nil]
    have he := some_inj hF10
    subst he
    refine end_ret_m (mapM1 (res_cell (bb := b1) (oo := 0) (v := .agg [.int .i64 v8.Truth.Epoch, .int .i64 v8.Truth.Leader, v11, v15, v19]) (by simp only [put_at, put_no, ev_t,
        ev_c, reduceIte, Nat.reduceEqDiff, List.map_cons, List.map_nil]) ((xld_bs (Sep.bk _ _ _ hS29)).trans rfl)) (mapM1 (res_t (v := .bool true) (by simp only [put_at, put_no,
        ev_t, ev_c, reduceIte, Nat.reduceEqDiff, List.map_cons, List.map_nil])) mapM0)) ?_
    exact ⟨v11, c12, v15, c16, v19, c20, by first | trivial | rfl, hv13, hv17, hv21, (Sep.m2 (Sep.m2 (Sep.m2 (Sep.dc (hS29)))))⟩
theorem laws_eqIntS_x {W : Nat → Bool} {h : Heap} (hW : ∀ b,
    h.length ≤ b → W b = true) (k : Nat) (a_0 : List Int) (b_1 : List Int) (r : Bool) (hF : laws_eqIntS k a_0 b_1 = some r) : Ret E W 20 [lst cI a_0,
    lst cI b_1] h (fun v h' => cut h.length h' E.sz false 9 v = some (.bool r)) := by
  refine Ret.of (fn := x20) rfl (Run.of ?_)
  unfold laws_eqIntS at hF
  have zf0 : argFr [lst cI a_0, lst cI b_1] 0 = lst cI a_0 := rfl
  have zf1 : argFr [lst cI a_0, lst cI b_1] 1 = lst cI b_1 := rfl
  generalize argFr [lst cI a_0, lst cI b_1] = fr0 at zf0 zf1 ⊢
  have hS : Sep h h.length [] := Sep.nil h
  simp only [x20, run_seq, run_reg, run_mv, run_ops_nil, x20_7, zf0, run_len, put1_some, xlen_lst, zf1, run_bin, xneq, run_cond, put_at, put_no, ev_t, ev_c, reduceIte,
      Nat.reduceEqDiff, List.map_cons, List.map_nil]
  refine cond_split (t := (decide ((List.length a_0 : Int) ≠ (List.length b_1 : Int)))) (fun hc1 => ?_) (fun hc1 => ?_)
  · rw [iteT hc1] at hF
    simp only [run_seq, run_reg, run_mv, run_ops_nil, run_ret, put_at, put_no, ev_t, ev_c, reduceIte, Nat.reduceEqDiff, List.map_cons, List.map_nil]
    have he := some_inj hF
    subst he
    simp only [end_ret1, put_at, put_no, ev_t, ev_c, reduceIte, Nat.reduceEqDiff, List.map_cons, List.map_nil]
    exact rfl
  · rw [iteF hc1] at hF
    simp only [run_skip, x20_6, run_seq, run_reg, run_mv, run_ops_nil, put_at, put_no, ev_t, ev_c, reduceIte, Nat.reduceEqDiff, List.map_cons, List.map_nil]
    obtain ⟨oc6, hX8, hk9⟩ := jn_some hF
    simp only [x20_5]
    refine loopF_j (σ := Int) (fun s38 => laws_eqIntS_b1 a_0 b_1 s38) (fun s fr' h' => fr' 0 = lst cI a_0 ∧ fr' 1 = lst cI b_1 ∧ fr' 5 = .int .i64 s ∧ Sep h' h.length
        ([])) hX8 ⟨by simp only [zf0, put_at, put_no, ev_t, ev_c, reduceIte, Nat.reduceEqDiff, List.map_cons, List.map_nil], by simp only [zf1, put_at, put_no, ev_t, ev_c,
        reduceIte, Nat.reduceEqDiff, List.map_cons, List.map_nil], by simp only [put_at, put_no, ev_t, ev_c, reduceIte, Nat.reduceEqDiff, List.map_cons, List.map_nil],
        hS⟩ (fun _ _ _ h => h) ?_ ?_
    · rintro s3 fr18 h19 ⟨f21, f22, f23, hS20⟩ oc7 hF10 hr11 Q12 hN13 hK14 hR15 hE16
      unfold laws_eqIntS_b1 at hF10
      simp only [x20_3, run_seq, run_reg, f23, run_mv, f21, run_len, put1_some, xlen_lst, run_bin, xlss, run_ops_nil, run_cond, put_at, put_no, ev_t, ev_c, reduceIte,
          Nat.reduceEqDiff, List.map_cons, List.map_nil]
      refine cond_split (t := (decide (s3 < (List.length a_0 : Int)))) (fun hc25 => ?_) (fun hc25 => ?_)
      · rw [iteT hc25] at hF10
        obtain ⟨x26, hx27, hF28⟩ := bind_some' hF10
        simp only [run_skip, x20_2, run_seq, run_block, x20_1, run_draw, f21, d4_mv, put1d_some, f23, d4_ia, put_at, put_no, ev_t, ev_c, reduceIte, Nat.reduceEqDiff,
            List.map_cons, List.map_nil]
        refine put1d_eq (v := .ref (cI x26) 0) (xia_lst hx27 rfl) ?_
        simp only [d4_ld, put_at, put_no, ev_t, ev_c, reduceIte, Nat.reduceEqDiff, List.map_cons, List.map_nil]
        refine put1d_eq (v := .int .i64 x26) rfl ?_
        obtain ⟨x29, hx30, hF31⟩ := bind_some' hF28
        simp only [f22, d4_mv, put1d_some, f23, d4_ia, put_at, put_no, ev_t, ev_c, reduceIte, Nat.reduceEqDiff, List.map_cons, List.map_nil]
        refine put1d_eq (v := .ref (cI x29) 0) (xia_lst hx30 rfl) ?_
        simp only [d4_ld, put_at, put_no, ev_t, ev_c, reduceIte, Nat.reduceEqDiff, List.map_cons, List.map_nil]
        refine put1d_eq (v := .int .i64 x29) rfl ?_
        simp only [d4_bin, put1d_some, xneq, run_draw_nil, run_cond, put_at, put_no, ev_t, ev_c, reduceIte, Nat.reduceEqDiff, List.map_cons, List.map_nil]
        refine cond_split (t := (decide (x26 ≠ x29))) (fun hc32 => ?_) (fun hc32 => ?_)
        · rw [iteT hc32] at hF31
          simp only [run_seq, run_reg, run_mv, run_ops_nil, run_ret, put_at, put_no, ev_t, ev_c, reduceIte, Nat.reduceEqDiff, List.map_cons, List.map_nil]
          have e33 := some_inj hF31
          subst e33
          have ho34 := hr11 _ rfl
          have hk35 := hk9
          rw [ho34] at hk35
          dsimp only [jnO] at hk35
          apply hR15
          have he := some_inj hk35
          subst he
          simp only [end_ret1, put_at, put_no, ev_t, ev_c, reduceIte, Nat.reduceEqDiff, List.map_cons, List.map_nil]
          exact rfl
        · rw [iteF hc32] at hF31
          simp only [run_skip, run_blk, run_reg, f23, run_mv, run_bin, put1_some, xadd, run_ops_nil, run_nil, put_at, put_no, ev_t, ev_c, reduceIte, Nat.reduceEqDiff,
              List.map_cons, List.map_nil]
          have e36 := some_inj hF31
          exact hN13 _ _ _ e36.symm ⟨by simp only [f21, put_at, put_no, ev_t, ev_c, reduceIte, Nat.reduceEqDiff, List.map_cons, List.map_nil], by simp only [f22, put_at, put_no,
              ev_t, ev_c, reduceIte, Nat.reduceEqDiff, List.map_cons, List.map_nil], by simp only [put_at, put_no, ev_t, ev_c, reduceIte, Nat.reduceEqDiff, List.map_cons,
              List.map_nil], hS20⟩
      · rw [iteF hc25] at hF10
        simp only [run_exit, out_code, out_nil, put_at, put_no, ev_t, ev_c, reduceIte, Nat.reduceEqDiff, List.map_cons, List.map_nil]
        have e37 := some_inj hF10
        exact hK14 _ _ _ e37.symm ⟨by simp only [f21, put_at, put_no, ev_t, ev_c, reduceIte, Nat.reduceEqDiff, List.map_cons, List.map_nil], by simp only [f22, put_at, put_no,
            ev_t, ev_c, reduceIte, Nat.reduceEqDiff, List.map_cons, List.map_nil], by simp only [f23, put_at, put_no, ev_t, ev_c, reduceIte, Nat.reduceEqDiff, List.map_cons,
            List.map_nil], hS20⟩
    · rintro s39 fr40 h41 rfl ⟨f43, f44, f45, hS42⟩
      dsimp only [jnO] at hk9
      unfold laws_eqIntS_j1 at hk9
      simp only [run_seq, run_reg, run_mv, run_ops_nil, run_ret, put_at, put_no, ev_t, ev_c, reduceIte, Nat.reduceEqDiff, List.map_cons, List.map_nil]
      have he := some_inj hk9
      subst he
      simp only [end_ret1, put_at, put_no, ev_t, ev_c, reduceIte, Nat.reduceEqDiff, List.map_cons, List.map_nil]
      exact rfl
theorem laws_eqView_x {W : Nat → Bool} {h : Heap} (hW : ∀ b,
    h.length ≤ b → W b = true) (k : Nat) (a_0 : View) (b_1 : View) (r : Bool) (hF : laws_eqView k a_0 b_1 = some r) : Ret E W 41 [.agg [.int .i64 a_0.Epoch, .int .i64 a_0.Leader,
    lst cI a_0.InStep], .agg [.int .i64 b_1.Epoch, .int .i64 b_1.Leader, lst cI b_1.InStep]] h (fun v h' => cut h.length h' E.sz false 9 v = some (.bool r)) := by
  refine Ret.of (fn := x41) rfl (Run.of ?_)
  unfold laws_eqView at hF
  have zf0 : argFr [.agg [.int .i64 a_0.Epoch, .int .i64 a_0.Leader, lst cI a_0.InStep], .agg [.int .i64 b_1.Epoch, .int .i64 b_1.Leader,
      lst cI b_1.InStep]] 0 = .agg [.int .i64 a_0.Epoch, .int .i64 a_0.Leader, lst cI a_0.InStep] := rfl
  have zf1 : argFr [.agg [.int .i64 a_0.Epoch, .int .i64 a_0.Leader, lst cI a_0.InStep], .agg [.int .i64 b_1.Epoch, .int .i64 b_1.Leader,
      lst cI b_1.InStep]] 1 = .agg [.int .i64 b_1.Epoch, .int .i64 b_1.Leader, lst cI b_1.InStep] := rfl
  generalize argFr [.agg [.int .i64 a_0.Epoch, .int .i64 a_0.Leader, lst cI a_0.InStep], .agg [.int .i64 b_1.Epoch, .int .i64 b_1.Leader, lst cI b_1.InStep]] = fr0 at zf0 zf1 ⊢
  have hS : Sep h h.length [] := Sep.nil h
  simp only [x41, run_seq, run_reg, run_box, zf0, put_at, put_no, ev_t, ev_c, reduceIte, Nat.reduceEqDiff, List.map_cons, List.map_nil]
  refine put2_boxC (cs := [.int .i64 a_0.Epoch, .int .i64 a_0.Leader, lst cI a_0.InStep]) hS rfl rfl rfl (fun b1 h2 hS3 => ?_)
  simp only [run_box, zf1, put_at, put_no, ev_t, ev_c, reduceIte, Nat.reduceEqDiff, List.map_cons, List.map_nil]
  refine put2_boxC (cs := [.int .i64 b_1.Epoch, .int .i64 b_1.Leader, lst cI b_1.InStep]) hS3 rfl rfl rfl (fun b5 h6 hS7 => ?_)
  simp only [run_mv, run_ops_nil, put_at, put_no, ev_t, ev_c, reduceIte, Nat.reduceEqDiff, List.map_cons, List.map_nil]
  refine frz_stepC (Sep.m1 hS7) hW (by simp only [put_at, put_no, ev_t, ev_c, reduceIte, Nat.reduceEqDiff, List.map_cons, List.map_nil]) (fun h9 hS10 => ?_)
  refine frz_stepC hS10 hW (by simp only [put_at, put_no, ev_t, ev_c, reduceIte, Nat.reduceEqDiff, List.map_cons, List.map_nil]) (fun h11 hS12 => ?_)
  simp only [run_frz_nil, x41_3, run_seq, run_reg, run_fa, put1_some, Nat.reduceAdd, Nat.zero_add, Nat.add_zero, xfa_ref, run_ld, put_at, put_no, ev_t, ev_c, reduceIte,
      Nat.reduceEqDiff, List.map_cons, List.map_nil]
  refine put1_eq (v := .int .i64 a_0.Epoch) rfl ?_
  simp only [run_fa, put1_some, Nat.reduceAdd, Nat.zero_add, Nat.add_zero, xfa_ref, run_ld, put_at, put_no, ev_t, ev_c, reduceIte, Nat.reduceEqDiff, List.map_cons, List.map_nil]
  refine put1_eq (v := .int .i64 b_1.Epoch) rfl ?_
  simp only [run_bin, put1_some, xneq, run_ops_nil, run_cond, put_at, put_no, ev_t, ev_c, reduceIte, Nat.reduceEqDiff, List.map_cons, List.map_nil]
  refine cond_split (t := (decide (a_0.Epoch ≠ b_1.Epoch))) (fun hc13 => ?_) (fun hc13 => ?_)
  · rw [iteT hc13] at hF
    simp only [run_seq, run_reg, run_mv, run_ops_nil, run_ret, put_at, put_no, ev_t, ev_c, reduceIte, Nat.reduceEqDiff, List.map_cons, List.map_nil]
    have he := some_inj hF
    subst he
    simp only [end_ret1, put_at, put_no, ev_t, ev_c, reduceIte, Nat.reduceEqDiff, List.map_cons, List.map_nil]
    exact rfl
  · rw [iteF hc13] at hF
    simp only [run_skip, x41_2, run_seq, run_reg, run_fa, put1_some, Nat.reduceAdd, Nat.zero_add, Nat.add_zero, xfa_ref, run_ld, put_at, put_no, ev_t, ev_c, reduceIte,
        Nat.reduceEqDiff, List.map_cons, List.map_nil]
    refine put1_eq (v := .int .i64 a_0.Leader) rfl ?_
    simp only [run_fa, put1_some, Nat.reduceAdd, Nat.zero_add, Nat.add_zero, xfa_ref, run_ld, put_at, put_no, ev_t, ev_c, reduceIte, Nat.reduceEqDiff, List.map_cons, List.map_nil]
    refine put1_eq (v := .int .i64 b_1.Leader) rfl ?_
    simp only [run_bin, put1_some, xneq, run_ops_nil, run_cond, put_at, put_no, ev_t, ev_c, reduceIte, Nat.reduceEqDiff, List.map_cons, List.map_nil]
    refine cond_split (t := (decide (a_0.Leader ≠ b_1.Leader))) (fun hc14 => ?_) (fun hc14 => ?_)
    · rw [iteT hc14] at hF
      simp only [run_seq, run_reg, run_mv, run_ops_nil, run_ret, put_at, put_no, ev_t, ev_c, reduceIte, Nat.reduceEqDiff, List.map_cons, List.map_nil]
      have he := some_inj hF
      subst he
      simp only [end_ret1, put_at, put_no, ev_t, ev_c, reduceIte, Nat.reduceEqDiff, List.map_cons, List.map_nil]
      exact rfl
    · rw [iteF hc14] at hF
      simp only [run_skip, x41_1, run_seq, run_reg, run_fa, put1_some, Nat.reduceAdd, Nat.zero_add, Nat.add_zero, xfa_ref, run_ld, put_at, put_no, ev_t, ev_c, reduceIte,
          Nat.reduceEqDiff, List.map_cons, List.map_nil]
      refine put1_eq (v := lst cI a_0.InStep) rfl ?_
      simp only [run_fa, put1_some, Nat.reduceAdd, Nat.zero_add, Nat.add_zero, xfa_ref, run_ld, put_at, put_no, ev_t, ev_c, reduceIte, Nat.reduceEqDiff, List.map_cons,
          List.map_nil]
      refine put1_eq (v := lst cI b_1.InStep) rfl ?_
      obtain ⟨v15, hx16, hF17⟩ := bind_some' hF
      simp only [run_call, put_at, put_no, ev_t, ev_c, reduceIte, Nat.reduceEqDiff, List.map_cons, List.map_nil]
      refine call1 rfl (mapM1 snap_lst (mapM1 snap_lst mapM0)) (laws_eqIntS_x (fun b hb => decide_eq_true hb) k a_0.InStep b_1.InStep v15 hx16) ?_
      simp only [run_un, put1_some, xnot, run_ops_nil, run_cond, put_at, put_no, ev_t, ev_c, reduceIte, Nat.reduceEqDiff, List.map_cons, List.map_nil]
      refine cond_split (t := (!v15)) (fun hc18 => ?_) (fun hc18 => ?_)
      · rw [iteT hc18] at hF17
        simp only [run_seq, run_reg, run_mv, run_ops_nil, run_ret, put_at, put_no, ev_t, ev_c, reduceIte, Nat.reduceEqDiff, List.map_cons, List.map_nil]
        have he := some_inj hF17
        subst he
        simp only [end_ret1, put_at, put_no, ev_t, ev_c, reduceIte, Nat.reduceEqDiff, List.map_cons, List.map_nil]
        exact rfl
      · rw [iteF hc18] at hF17
        simp only [run_skip, run_seq, run_reg, run_mv, run_ops_nil, run_ret, put_at, put_no, ev_t, ev_c, reduceIte, Nat.reduceEqDiff, List.map_cons, List.map_nil]
        have he := some_inj hF17
        subst he
        simp only [end_ret1, put_at, put_no, ev_t, ev_c, reduceIte, Nat.reduceEqDiff, List.map_cons, List.map_nil]
        exact rfl
end Go.Proofs.Ytohofoampalhoaa.X
