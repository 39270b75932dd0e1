/- The functions' code comes to what the plain functions say (2). -/
import Derived.Test.YtohofoampalhoaaXEH1
set_option linter.unusedVariables false
set_option linter.unusedSimpArgs false
set_option maxRecDepth 100000
namespace Go.Proofs.Ytohofoampalhoaa.X
open Go
theorem laws_toRowS_x {W : Nat → Bool} {h : Heap} (hW : ∀ b,
    h.length ≤ b → W b = true) (k : Nat) (a_0 : List Row) (r : List Row) (hF : laws_toRowS k a_0 = some r) : Ret E W 58 [lst Row.cells a_0] h (fun v h' => ∃ rv0 rc0,
    v = rv0 ∧ SlF Row.cells 2 92 rv0 r rc0 ∧ Sep h' h.length (rc0 ++ ([]))) := by
  refine Ret.of (fn := x58) rfl (Run.of ?_)
  unfold laws_toRowS at hF
  have zf0 : argFr [lst Row.cells a_0] 0 = lst Row.cells a_0 := rfl
  generalize argFr [lst Row.cells a_0] = fr0 at zf0 ⊢
  have hS : Sep h h.length [] := Sep.nil h
  obtain ⟨l1, hx2, hF3⟩ := bind_some' hF
  simp only [x58, run_seq, run_reg, run_mv, run_ops_nil, x58_7, zf0, run_len, put1_some, xlen_lst, run_mkS, put_at, put_no, ev_t, ev_c, reduceIte, Nat.reduceEqDiff, List.map_cons,
      List.map_nil]
  refine put2_mkSF (f := Row.cells) (z := (Row.mk (0 : Int) (0 : Int))) hS hx2 rfl (fun v4 c5 h6 hv7 hS8 => ?_)
  simp only [run_mv, run_ops_nil, x58_6, run_seq, run_reg, put_at, put_no, ev_t, ev_c, reduceIte, Nat.reduceEqDiff, List.map_cons, List.map_nil]
  obtain ⟨oc20, hX22, hk23⟩ := jn_some hF3
  simp only [x58_5]
  refine loopF_j (σ := Int × (List Row)) (fun s55 => laws_toRowS_b1 a_0 s55.1 s55.2) (fun s fr' h' => ∃ c16,
      fr' 0 = lst Row.cells a_0 ∧ fr' 3 = v4 ∧ fr' 4 = .int .i64 s.1 ∧ SlF Row.cells 2 92 v4 s.2 c16 ∧ Sep h' h.length (c16 ++ ([]))) hX22 ⟨c5, by simp only [zf0, put_at, put_no,
      ev_t, ev_c, reduceIte, Nat.reduceEqDiff, List.map_cons, List.map_nil], by simp only [put_at, put_no, ev_t, ev_c, reduceIte, Nat.reduceEqDiff, List.map_cons, List.map_nil],
      by simp only [put_at, put_no, ev_t, ev_c, reduceIte, Nat.reduceEqDiff, List.map_cons, List.map_nil], hv7, hS8⟩ (fun _ _ _ h => h) ?_ ?_
  · rintro ⟨s14, s15⟩ fr32 h33 ⟨c16, f35, f36, f37, hv17, hS34⟩ oc21 hF24 hr25 Q26 hN27 hK28 hR29 hE30
    dsimp only at *
    unfold laws_toRowS_b1 at hF24
    simp only [x58_3, run_seq, run_reg, f37, run_mv, f35, run_len, put1_some, xlen_lst, run_bin, xlss, run_ops_nil, run_cond, put_at, put_no, ev_t, ev_c, reduceIte,
        Nat.reduceEqDiff, List.map_cons, List.map_nil]
    refine cond_split (t := (decide (s14 < (List.length a_0 : Int)))) (fun hc39 => ?_) (fun hc39 => ?_)
    · rw [iteT hc39] at hF24
      obtain ⟨x40, hx41, hF42⟩ := bind_some' hF24
      simp only [run_skip, x58_2, run_seq, run_block, x58_1, run_reg, f36, run_mv, f37, f35, run_ia, put_at, put_no, ev_t, ev_c, reduceIte, Nat.reduceEqDiff, List.map_cons,
          List.map_nil]
      refine put1_eq (v := .ref (Row.cells x40) 0) (xia_lst hx41 rfl) ?_
      simp only [run_ld, put_at, put_no, ev_t, ev_c, reduceIte, Nat.reduceEqDiff, List.map_cons, List.map_nil]
      refine put1_eq (v := .agg [.int .i64 x40.Epoch, .int .i64 x40.Value]) rfl ?_
      simp only [run_call, put_at, put_no, ev_t, ev_c, reduceIte, Nat.reduceEqDiff, List.map_cons, List.map_nil]
      refine call1 rfl (mapM1 (snap_agg (mapM1 snap_int (mapM1 snap_int mapM0))) mapM0) (laws_toRow_x (fun b hb => decide_eq_true hb) x40 _ rfl) ?_
      obtain ⟨x43, hx44, hF45⟩ := bind_some' hF42
      simp only [run_ia, put_at, put_no, ev_t, ev_c, reduceIte, Nat.reduceEqDiff, List.map_cons, List.map_nil]
      obtain ⟨b46, hb47⟩ := SlF.isrow hv17 (geti_ne hx44)
      refine put1_eq (SlF.ia hv17 hb47 hx44) ?_
      simp only [run_st, put_at, put_no, ev_t, ev_c, reduceIte, Nat.reduceEqDiff, List.map_cons, List.map_nil]
      refine put2_stF (f := Row.cells) (x' := (laws_toRow x40)) (o := 0) hv17 hS34 hW hb47 hx44 (fun _ => rfl) rfl rfl (Nat.le_of_ble_eq_true rfl) rfl (fun c50 h48 hv51 hS49 => ?_)
      have hx52 := geti_set (x' := (laws_toRow x40)) hx44
      simp only [put_no, run_ops_nil, run_blk, run_reg, f37, run_mv, run_bin, put1_some, xadd, run_nil, put_at, ev_t, ev_c, reduceIte, Nat.reduceEqDiff, List.map_cons,
          List.map_nil]
      have e53 := some_inj hF45
      exact hN27 _ _ _ e53.symm ⟨c50, by simp only [f35, put_at, put_no, ev_t, ev_c, reduceIte, Nat.reduceEqDiff, List.map_cons, List.map_nil], by simp only [f36, put_at, put_no,
          ev_t, ev_c, reduceIte, Nat.reduceEqDiff, List.map_cons, List.map_nil], by simp only [put_at, put_no, ev_t, ev_c, reduceIte, Nat.reduceEqDiff, List.map_cons,
          List.map_nil], hv51, hS49⟩
    · rw [iteF hc39] at hF24
      simp only [run_exit, out_code, out_nil, put_at, put_no, ev_t, ev_c, reduceIte, Nat.reduceEqDiff, List.map_cons, List.map_nil]
      have e54 := some_inj hF24
      exact hK28 _ _ _ e54.symm ⟨c16, by simp only [f35, put_at, put_no, ev_t, ev_c, reduceIte, Nat.reduceEqDiff, List.map_cons, List.map_nil], by simp only [f36, put_at, put_no,
          ev_t, ev_c, reduceIte, Nat.reduceEqDiff, List.map_cons, List.map_nil], by simp only [f37, put_at, put_no, ev_t, ev_c, reduceIte, Nat.reduceEqDiff, List.map_cons,
          List.map_nil], hv17, hS34⟩
  · rintro ⟨s56, s57⟩ fr60 h61 rfl ⟨c58, f63, f64, f65, hv59, hS62⟩
    dsimp only [jnO] at hk23
    dsimp only at *
    unfold laws_toRowS_j1 at hk23
    simp only [run_seq, run_reg, f64, run_mv, run_ops_nil, run_ret, put_at, put_no, ev_t, ev_c, reduceIte, Nat.reduceEqDiff, List.map_cons, List.map_nil]
    have he := some_inj hk23
    subst he
    simp only [end_ret1, put_at, put_no, ev_t, ev_c, reduceIte, Nat.reduceEqDiff, List.map_cons, List.map_nil]
    exact ⟨v4, c58, by first | trivial | rfl, hv59, hS62⟩
theorem laws_toNode_x {W : Nat → Bool} {h : Heap} (hW : ∀ b,
    h.length ≤ b → W b = true) (k : Nat) (a_0 : Node) (r : Node) (hF : laws_toNode k a_0 = some r) : Ret E W 76 [.agg [.int .i64 a_0.View.Epoch, .int .i64 a_0.View.Leader,
    lst cI a_0.View.InStep, lst Row.cells a_0.Log, lst cI a_0.Known, .int .i64 a_0.Told]] h (fun v h' => ∃ rv0_2 rc0_2 rv0_3 rc0_3 rv0_4 rc0_4, v = .agg [.int .i64 r.View.Epoch,
    .int .i64 r.View.Leader, rv0_2, rv0_3, rv0_4,
    .int .i64 r.Told] ∧ SlF cI 1 3 rv0_2 r.View.InStep rc0_2 ∧ SlF Row.cells 2 92 rv0_3 r.Log rc0_3 ∧ SlF cI 1 3 rv0_4 r.Known rc0_4 ∧ Sep h' h.length (rc0_2 ++ (rc0_3 ++
    (rc0_4 ++ ([]))))) := by
  refine Ret.of (fn := x76) rfl (Run.of ?_)
  unfold laws_toNode at hF
  have zf0 : argFr [.agg [.int .i64 a_0.View.Epoch, .int .i64 a_0.View.Leader, lst cI a_0.View.InStep, lst Row.cells a_0.Log, lst cI a_0.Known,
      .int .i64 a_0.Told]] 0 = .agg [.int .i64 a_0.View.Epoch, .int .i64 a_0.View.Leader, lst cI a_0.View.InStep, lst Row.cells a_0.Log, lst cI a_0.Known,
      .int .i64 a_0.Told] := rfl
  generalize argFr [.agg [.int .i64 a_0.View.Epoch, .int .i64 a_0.View.Leader, lst cI a_0.View.InStep, lst Row.cells a_0.Log, lst cI a_0.Known, .int .i64 a_0.Told]] = fr0 at zf0 ⊢
  have hS : Sep h h.length [] := Sep.nil h
  simp only [x76, run_seq, run_reg, run_box, zf0, put_at, put_no, ev_t, ev_c, reduceIte, Nat.reduceEqDiff, List.map_cons, List.map_nil]
  refine put2_boxC (cs := [.int .i64 a_0.View.Epoch, .int .i64 a_0.View.Leader, lst cI a_0.View.InStep, lst Row.cells a_0.Log, lst cI a_0.Known,
      .int .i64 a_0.Told]) hS rfl rfl rfl (fun b1 h2 hS3 => ?_)
  simp only [run_new, put_at, put_no, ev_t, ev_c, reduceIte, Nat.reduceEqDiff, List.map_cons, List.map_nil]
  refine put2_newC hS3 (fun b5 h6 hS7 => ?_)
  simp only [run_ops_nil, put_at, put_no, ev_t, ev_c, reduceIte, Nat.reduceEqDiff, List.map_cons, List.map_nil]
  refine frz_stepC (Sep.m1 hS7) hW (by simp only [put_at, put_no, ev_t, ev_c, reduceIte, Nat.reduceEqDiff, List.map_cons, List.map_nil]) (fun h9 hS10 => ?_)
  simp only [run_frz_nil, x76_5, run_seq, run_reg, run_new, put_at, put_no, ev_t, ev_c, reduceIte, Nat.reduceEqDiff, List.map_cons, List.map_nil]
  refine put2_newC hS10 (fun b11 h12 hS13 => ?_)
  simp only [run_ops_nil, x76_4, run_seq, run_reg, run_fa, put1_some, Nat.reduceAdd, Nat.zero_add, Nat.add_zero, xfa_ref, run_ld, put_at, put_no, ev_t, ev_c, reduceIte,
      Nat.reduceEqDiff, List.map_cons, List.map_nil]
  refine put1_eq (v := .agg [.int .i64 a_0.View.Epoch, .int .i64 a_0.View.Leader, lst cI a_0.View.InStep]) rfl ?_
  obtain ⟨v15, hx16, hF17⟩ := bind_some' hF
  simp only [run_call, put_at, put_no, ev_t, ev_c, reduceIte, Nat.reduceEqDiff, List.map_cons, List.map_nil]
  refine call2 rfl hS13 (mapM1 (snap_agg (mapM1 snap_int (mapM1 snap_int (mapM1 snap_lst mapM0)))) mapM0) (laws_toView_x (fun b hb => decide_eq_true hb) k a_0.View v15 hx16) ?_
  rintro _ h22 ⟨v18, c19, rfl, hv20, hS23⟩
  refine ⟨_, free_a (all_c rfl (all_c rfl (all_c (SlF.free1 hv20) all_n))), hS23, (pf_app (SlF.pf hv20 (fun _ => rfl)) pf_nil), fun h24 hS25 => ?_⟩
  have hS26 : Sep h24 h.length (c19 ++ ([Blk1 b11 [.int .i64 0, .int .i64 0, .nil, .nil, .nil, .int .i64 0] 68] ++ ([Blk1 b5 [.int .i64 0, .int .i64 0, .nil, .nil, .nil,
      .int .i64 0] 68] ++ ([])))) := by simpa only [List.append_assoc, List.nil_append] using hS25
  simp only [run_fa, put1_some, Nat.reduceAdd, Nat.zero_add, Nat.add_zero, xfa_ptr, run_st, put_at, put_no, ev_t, ev_c, reduceIte, Nat.reduceEqDiff, List.map_cons, List.map_nil]
  refine put2_stCx (us := [.int .i64 v15.Epoch, .int .i64 v15.Leader, v18]) rfl (cs' := [.int .i64 v15.Epoch, .int .i64 v15.Leader, v18, .nil, .nil,
      .int .i64 0]) (Sep.m1 hS26) hW rfl (all_c rfl (all_c rfl (all_c (SlF.one hv20) all_n))) (Nat.le_of_ble_eq_true rfl) rfl (fun h27 hS28 => ?_)
  simp only [put_no, run_ops_nil, x76_3, run_seq, run_reg, run_fa, put1_some, Nat.reduceAdd, Nat.zero_add, Nat.add_zero, xfa_ref, run_ld, put_at, ev_t, ev_c, reduceIte,
      Nat.reduceEqDiff, List.map_cons, List.map_nil]
  refine put1_eq (v := lst Row.cells a_0.Log) rfl ?_
  obtain ⟨v29, hx30, hF31⟩ := bind_some' hF17
  simp only [run_call, put_at, put_no, ev_t, ev_c, reduceIte, Nat.reduceEqDiff, List.map_cons, List.map_nil]
  refine call2 rfl hS28 (mapM1 snap_lst mapM0) (laws_toRowS_x (fun b hb => decide_eq_true hb) k a_0.Log v29 hx30) ?_
  rintro v32 h36 ⟨_, c33, rfl, hv34, hS37⟩
  refine ⟨_, free_1 (SlF.free1 hv34), hS37, (pf_app (SlF.pf hv34 (fun _ => rfl)) pf_nil), fun h38 hS39 => ?_⟩
  have hS40 : Sep h38 h.length (c33 ++ ([Blk1 b11 [.int .i64 v15.Epoch, .int .i64 v15.Leader, v18, .nil, .nil, .int .i64 0] 68] ++ (c19 ++ ([Blk1 b5 [.int .i64 0, .int .i64 0,
      .nil, .nil, .nil, .int .i64 0] 68] ++ ([]))))) := by simpa only [List.append_assoc, List.nil_append] using hS39
  simp only [run_fa, put1_some, Nat.reduceAdd, Nat.zero_add, Nat.add_zero, xfa_ptr, run_st, put_at, put_no, ev_t, ev_c, reduceIte, Nat.reduceEqDiff, List.map_cons, List.map_nil]
  refine put2_stCx (us := [v32]) (cells_one (SlF.one hv34)) (cs' := [.int .i64 v15.Epoch, .int .i64 v15.Leader, v18, v32, .nil,
      .int .i64 0]) (Sep.m1 hS40) hW rfl (all_c (SlF.one hv34) all_n) (Nat.le_of_ble_eq_true rfl) rfl (fun h41 hS42 => ?_)
  simp only [put_no, run_ops_nil, x76_2, run_seq, run_reg, run_fa, put1_some, Nat.reduceAdd, Nat.zero_add, Nat.add_zero, xfa_ref, run_ld, put_at, ev_t, ev_c, reduceIte,
      Nat.reduceEqDiff, List.map_cons, List.map_nil]
  refine put1_eq (v := lst cI a_0.Known) rfl ?_
  obtain ⟨v43, hx44, hF45⟩ := bind_some' hF31
  simp only [run_call, put_at, put_no, ev_t, ev_c, reduceIte, Nat.reduceEqDiff, List.map_cons, List.map_nil]
  refine call2 rfl hS42 (mapM1 snap_lst mapM0) (laws_toIntS_x (fun b hb => decide_eq_true hb) k a_0.Known v43 hx44) ?_
  rintro v46 h50 ⟨_, c47, rfl, hv48, hS51⟩
  refine ⟨_, free_1 (SlF.free1 hv48), hS51, (pf_app (SlF.pf hv48 (fun _ => rfl)) pf_nil), fun h52 hS53 => ?_⟩
  have hS54 : Sep h52 h.length (c47 ++ ([Blk1 b11 [.int .i64 v15.Epoch, .int .i64 v15.Leader, v18, v32, .nil, .int .i64 0] 68] ++ (c33 ++ (c19 ++ ([Blk1 b5 [.int .i64 0,
      .int .i64 0, .nil, .nil, .nil, .int .i64 0] 68] ++ ([])))))) := by simpa only [List.append_assoc, List.nil_append] using hS53
  simp only [run_fa, put1_some, Nat.reduceAdd, Nat.zero_add, Nat.add_zero, xfa_ptr, run_st, put_at, put_no, ev_t, ev_c, reduceIte, Nat.reduceEqDiff, List.map_cons, List.map_nil]
  refine put2_stCx (us := [v46]) (cells_one (SlF.one hv48)) (cs' := [.int .i64 v15.Epoch, .int .i64 v15.Leader, v18, v32, v46,
      .int .i64 0]) (Sep.m1 hS54) hW rfl (all_c (SlF.one hv48) all_n) (Nat.le_of_ble_eq_true rfl) rfl (fun h55 hS56 => ?_)
  simp only [put_no, run_ops_nil, x76_1, run_seq, run_reg, run_fa, put1_some, Nat.reduceAdd, Nat.zero_add, Nat.add_zero, xfa_ref, run_ld, put_at, ev_t, ev_c, reduceIte,
      Nat.reduceEqDiff, List.map_cons, List.map_nil]
  refine put1_eq (v := .int .i64 a_0.Told) rfl ?_
  simp only [run_fa, put1_some, Nat.reduceAdd, Nat.zero_add, Nat.add_zero, xfa_ptr, run_st, put_at, put_no, ev_t, ev_c, reduceIte, Nat.reduceEqDiff, List.map_cons, List.map_nil]
  refine put2_stCx (us := [.int .i64 a_0.Told]) rfl (cs' := [.int .i64 v15.Epoch, .int .i64 v15.Leader, v18, v32, v46,
      .int .i64 a_0.Told]) hS56 hW rfl rfl (Nat.le_of_ble_eq_true rfl) rfl (fun h57 hS58 => ?_)
  simp only [put_no, run_ops_nil, run_seq, run_reg, run_ld, put_at, ev_t, ev_c, reduceIte, Nat.reduceEqDiff, List.map_cons, List.map_nil]
  refine put1_eq (v := .agg [.int .i64 v15.Epoch, .int .i64 v15.Leader, v18, v32, v46, .int .i64 a_0.Told]) ((xld_bs (Sep.bk _ _ _ hS58)).trans rfl) ?_
  simp only [run_st, put_at, put_no, ev_t, ev_c, reduceIte, Nat.reduceEqDiff, List.map_cons, List.map_nil]
  refine put2_stCx (us := [.int .i64 v15.Epoch, .int .i64 v15.Leader, v18, v32, v46, .int .i64 a_0.Told]) rfl (cs' := [.int .i64 v15.Epoch, .int .i64 v15.Leader, v18, v32, v46,
      .int .i64 a_0.Told]) (Sep.m4 hS58) hW rfl (all_c rfl (all_c rfl (all_c (SlF.one hv20) (all_c (SlF.one hv34) (all_c (SlF.one hv48) (all_c rfl all_n))))))
      (Nat.le_of_ble_eq_true rfl) rfl (fun h59 hS60 => ?_)
  simp only [put_no, run_ops_nil, run_ret, put_at, ev_t, ev_c, reduceIte, Nat.reduceEqDiff, List.map_cons, List.map_nil]
  have he := some_inj hF45
  subst he
  refine end_ret_cell (bb := b5) (oo := 0) (v := .agg [.int .i64 v15.Epoch, .int .i64 v15.Leader, v18, v32, v46, .int .i64 a_0.Told]) (by simp only [put_at, put_no, ev_t, ev_c,
      reduceIte, Nat.reduceEqDiff, List.map_cons, List.map_nil]) ((xld_bs (Sep.bk _ _ _ hS60)).trans rfl) ?_
  exact ⟨v18, c19, v32, c33, v46, c47, by first | trivial | rfl, hv20, hv34, hv48, (Sep.m2 (Sep.m1 (Sep.dc ((Sep.dc (hS60))))))⟩
theorem laws_toNodeS_x {W : Nat → Bool} {h : Heap} (hW : ∀ b,
    h.length ≤ b → W b = true) (k : Nat) (a_0 : List Node) (r : List Node) (hF : laws_toNodeS k a_0 = some r) : Ret E W 57 [lst Node.cells a_0] h (fun v h' => ∃ rv0 rc0,
    v = rv0 ∧ SlN Node.R 6 68 rv0 r rc0 ∧ Sep h' h.length (rc0 ++ ([]))) := by
  refine Ret.of (fn := x57) rfl (Run.of ?_)
  unfold laws_toNodeS at hF
  have zf0 : argFr [lst Node.cells a_0] 0 = lst Node.cells a_0 := rfl
  generalize argFr [lst Node.cells a_0] = fr0 at zf0 ⊢
  have hS : Sep h h.length [] := Sep.nil h
  obtain ⟨l1, hx2, hF3⟩ := bind_some' hF
  simp only [x57, run_seq, run_reg, run_mv, run_ops_nil, x57_7, zf0, run_len, put1_some, xlen_lst, run_mkS, put_at, put_no, ev_t, ev_c, reduceIte, Nat.reduceEqDiff, List.map_cons,
      List.map_nil]
  refine put2_mkSN (R := Node.R) (e := (Node.mk (View.mk (0 : Int) (0 : Int) []) [] [] (0 : Int))) (z := [.int .i64 0, .int .i64 0, .nil, .nil, .nil,
      .int .i64 0]) hS hx2 (Node.RI (x := (Node.mk (View.mk 0 0 []) [] [] 0)) SlF.nil SlF.nil SlF.nil) rfl (fun v4 c5 h6 hv7 hS8 => ?_)
  simp only [run_mv, run_ops_nil, x57_6, run_seq, run_reg, put_at, put_no, ev_t, ev_c, reduceIte, Nat.reduceEqDiff, List.map_cons, List.map_nil]
  obtain ⟨oc20, hX22, hk23⟩ := jn_some hF3
  simp only [x57_5]
  refine loopF_j (σ := Int × (List Node)) (fun s98 => laws_toNodeS_b1 k a_0 s98.1 s98.2) (fun s fr' h' => ∃ c16,
      fr' 0 = lst Node.cells a_0 ∧ fr' 3 = v4 ∧ fr' 4 = .int .i64 s.1 ∧ SlN Node.R 6 68 v4 s.2 c16 ∧ Sep h' h.length (c16 ++ ([]))) hX22 ⟨c5, by simp only [zf0, put_at, put_no,
      ev_t, ev_c, reduceIte, Nat.reduceEqDiff, List.map_cons, List.map_nil], by simp only [put_at, put_no, ev_t, ev_c, reduceIte, Nat.reduceEqDiff, List.map_cons, List.map_nil],
      by simp only [put_at, put_no, ev_t, ev_c, reduceIte, Nat.reduceEqDiff, List.map_cons, List.map_nil], hv7, hS8⟩ (fun _ _ _ h => h) ?_ ?_
  · rintro ⟨s14, s15⟩ fr32 h33 ⟨c16, f35, f36, f37, hv17, hS34⟩ oc21 hF24 hr25 Q26 hN27 hK28 hR29 hE30
    dsimp only at *
    unfold laws_toNodeS_b1 at hF24
    simp only [x57_3, run_seq, run_reg, f37, run_mv, f35, run_len, put1_some, xlen_lst, run_bin, xlss, run_ops_nil, run_cond, put_at, put_no, ev_t, ev_c, reduceIte,
        Nat.reduceEqDiff, List.map_cons, List.map_nil]
    refine cond_split (t := (decide (s14 < (List.length a_0 : Int)))) (fun hc39 => ?_) (fun hc39 => ?_)
    · rw [iteT hc39] at hF24
      obtain ⟨x40, hx41, hF42⟩ := bind_some' hF24
      simp only [run_skip, x57_2, run_seq, run_block, x57_1, run_reg, f36, run_mv, f37, f35, run_ia, put_at, put_no, ev_t, ev_c, reduceIte, Nat.reduceEqDiff, List.map_cons,
          List.map_nil]
      refine put1_eq (v := .ref (Node.cells x40) 0) (xia_lst hx41 rfl) ?_
      simp only [run_ld, put_at, put_no, ev_t, ev_c, reduceIte, Nat.reduceEqDiff, List.map_cons, List.map_nil]
      refine put1_eq (v := .agg [.int .i64 x40.View.Epoch, .int .i64 x40.View.Leader, lst cI x40.View.InStep, lst Row.cells x40.Log, lst cI x40.Known, .int .i64 x40.Told]) rfl ?_
      obtain ⟨v43, hx44, hF45⟩ := bind_some' hF42
      simp only [run_call, put_at, put_no, ev_t, ev_c, reduceIte, Nat.reduceEqDiff, List.map_cons, List.map_nil]
      refine call2 rfl hS34 (mapM1 (snap_agg (mapM1 snap_int (mapM1 snap_int (mapM1 snap_lst (mapM1 snap_lst (mapM1 snap_lst (mapM1 snap_int mapM0))))))) mapM0) (laws_toNode_x
          (fun b hb => decide_eq_true hb) k x40 v43 hx44) ?_
      rintro _ h58 ⟨v46, c47, v50, c51, v54, c55, rfl, hv48, hv52, hv56, hS59⟩
      refine ⟨_, free_a (all_c rfl (all_c rfl (all_c (SlF.free1 hv48) (all_c (SlF.free1 hv52) (all_c (SlF.free1 hv56) (all_c rfl all_n)))))), hS59,
          (pf_app (SlF.pf hv48 (fun _ => rfl)) (pf_app (SlF.pf hv52 (fun _ => rfl)) (pf_app (SlF.pf hv56 (fun _ => rfl)) pf_nil))), fun h60 hS61 => ?_⟩
      have hS62 : Sep h60 h.length (c47 ++ (c51 ++ (c55 ++ (c16 ++ ([]))))) := by simpa only [List.append_assoc, List.nil_append] using hS61
      obtain ⟨x63, hx64, hF65⟩ := bind_some' hF45
      simp only [run_ia, put_at, put_no, ev_t, ev_c, reduceIte, Nat.reduceEqDiff, List.map_cons, List.map_nil]
      obtain ⟨b66, hb67⟩ := SlN.isrow hv17 (geti_ne hx64)
      refine put1_eq (SlN.ia hv17 hb67 hx64) ?_
      obtain ⟨c70, cs71, os72, hv73, hR74, hS75⟩ := SlG.opn (SlN.toG hv17 hb67 Node.RO.len) hx64 hk_nil Node.RO.len (Sep.m3 hS62)
      obtain ⟨v77, c78, v81, c82, v85, c86, hv79, hv83, hv87, rfl, rfl⟩ := hR74
      have hS76 := Sep.no3 hS75
      simp only [run_st, put_at, put_no, ev_t, ev_c, reduceIte, Nat.reduceEqDiff, List.map_cons, List.map_nil]
      refine put2_stGx (us := [.int .i64 v43.View.Epoch, .int .i64 v43.View.Leader, v46, v50, v54, .int .i64 v43.Told]) (o := 0) (cs' := [.int .i64 v43.View.Epoch,
          .int .i64 v43.View.Leader, v46, v50, v54,
          .int .i64 v43.Told]) rfl hv73 rfl hx64 hS76 hW rfl (all_c rfl (all_c rfl (all_c (SlF.one hv48) (all_c (SlF.one hv52) (all_c (SlF.one hv56) (all_c rfl all_n))))))
          (Nat.le_of_ble_eq_true rfl) rfl (fun c89 h68 hv90 hS69 => ?_)
      simp only [put_no, run_ops_nil, run_blk, run_reg, f37, run_mv, run_bin, put1_some, xadd, run_nil, put_at, ev_t, ev_c, reduceIte, Nat.reduceEqDiff, List.map_cons,
          List.map_nil]
      obtain ⟨c91, hv92, hS93⟩ := SlG.cls (e' := v43) (c := c89) (os := c47 ++ (c51 ++ (c55))) hv90 rfl hx64 hk_nil (Node.RI (x := v43) hv48 hv52 hv56) (Sep.ni3 (c1 := c47)
          (c2 := c51) (c3 := c55) (Sep.m3 (Sep.m6 (Sep.m6 (Sep.m6 hS69)))))
      have hx94 := geti_set (x' := v43) hx64
      have hv95 := SlG.toN hv92
      have e96 := some_inj hF65
      exact hN27 _ _ _ e96.symm ⟨c91, by simp only [f35, put_at, put_no, ev_t, ev_c, reduceIte, Nat.reduceEqDiff, List.map_cons, List.map_nil], by simp only [f36, put_at, put_no,
          ev_t, ev_c, reduceIte, Nat.reduceEqDiff, List.map_cons, List.map_nil], by simp only [put_at, put_no, ev_t, ev_c, reduceIte, Nat.reduceEqDiff, List.map_cons,
          List.map_nil], hv95, (Sep.dc (Sep.m1 (Sep.dc (Sep.m1 (Sep.dc (Sep.m1 hS93))))))⟩
    · rw [iteF hc39] at hF24
      simp only [run_exit, out_code, out_nil, put_at, put_no, ev_t, ev_c, reduceIte, Nat.reduceEqDiff, List.map_cons, List.map_nil]
      have e97 := some_inj hF24
      exact hK28 _ _ _ e97.symm ⟨c16, by simp only [f35, put_at, put_no, ev_t, ev_c, reduceIte, Nat.reduceEqDiff, List.map_cons, List.map_nil], by simp only [f36, put_at, put_no,
          ev_t, ev_c, reduceIte, Nat.reduceEqDiff, List.map_cons, List.map_nil], by simp only [f37, put_at, put_no, ev_t, ev_c, reduceIte, Nat.reduceEqDiff, List.map_cons,
          List.map_nil], hv17, hS34⟩
  · rintro ⟨s99, s100⟩ fr103 h104 rfl ⟨c101, f106, f107, f108, hv102, hS105⟩
    dsimp only [jnO] at hk23
    dsimp only at *
    unfold laws_toNodeS_j1 at hk23
    simp only [run_seq, run_reg, f107, run_mv, run_ops_nil, run_ret, put_at, put_no, ev_t, ev_c, reduceIte, Nat.reduceEqDiff, List.map_cons, List.map_nil]
    have he := some_inj hk23
    subst he
    simp only [end_ret1, put_at, put_no, ev_t, ev_c, reduceIte, Nat.reduceEqDiff, List.map_cons, List.map_nil]
    exact ⟨v4, c101, by first | trivial | rfl, hv102, hS105⟩
theorem laws_toCluster_x {W : Nat → Bool} {h : Heap} (hW : ∀ b,
    h.length ≤ b → W b = true) (k : Nat) (a_0 : Cluster) (r : Cluster) (hF : laws_toCluster k a_0 = some r) : Ret E W 16 [.agg [.int .i64 a_0.Truth.Epoch,
    .int .i64 a_0.Truth.Leader, lst cI a_0.Truth.InStep, lst Node.cells a_0.Nodes, lst Row.cells a_0.Acked]] h (fun v h' => ∃ rv0_2 rc0_2 rv0_3 rc0_3 rv0_4 rc0_4,
    v = .agg [.int .i64 r.Truth.Epoch, .int .i64 r.Truth.Leader, rv0_2, rv0_3,
    rv0_4] ∧ SlF cI 1 3 rv0_2 r.Truth.InStep rc0_2 ∧ SlN Node.R 6 68 rv0_3 r.Nodes rc0_3 ∧ SlF Row.cells 2 92 rv0_4 r.Acked rc0_4 ∧ Sep h' h.length (rc0_2 ++ (rc0_3 ++ (rc0_4 ++
    ([]))))) := by
  refine Ret.of (fn := x16) rfl (Run.of ?_)
  unfold laws_toCluster at hF
  have zf0 : argFr [.agg [.int .i64 a_0.Truth.Epoch, .int .i64 a_0.Truth.Leader, lst cI a_0.Truth.InStep, lst Node.cells a_0.Nodes,
      lst Row.cells a_0.Acked]] 0 = .agg [.int .i64 a_0.Truth.Epoch, .int .i64 a_0.Truth.Leader, lst cI a_0.Truth.InStep, lst Node.cells a_0.Nodes, lst Row.cells a_0.Acked] := rfl
  generalize argFr [.agg [.int .i64 a_0.Truth.Epoch, .int .i64 a_0.Truth.Leader, lst cI a_0.Truth.InStep, lst Node.cells a_0.Nodes, lst Row.cells a_0.Acked]] = fr0 at zf0 ⊢
  have hS : Sep h h.length [] := Sep.nil h
  simp only [x16, run_seq, run_reg, run_box, zf0, put_at, put_no, ev_t, ev_c, reduceIte, Nat.reduceEqDiff, List.map_cons, List.map_nil]
  refine put2_boxC (cs := [.int .i64 a_0.Truth.Epoch, .int .i64 a_0.Truth.Leader, lst cI a_0.Truth.InStep, lst Node.cells a_0.Nodes,
      lst Row.cells a_0.Acked]) hS rfl rfl rfl (fun b1 h2 hS3 => ?_)
  simp only [run_new, put_at, put_no, ev_t, ev_c, reduceIte, Nat.reduceEqDiff, List.map_cons, List.map_nil]
  refine put2_newC hS3 (fun b5 h6 hS7 => ?_)
  simp only [run_ops_nil, put_at, put_no, ev_t, ev_c, reduceIte, Nat.reduceEqDiff, List.map_cons, List.map_nil]
  refine frz_stepC (Sep.m1 hS7) hW (by simp only [put_at, put_no, ev_t, ev_c, reduceIte, Nat.reduceEqDiff, List.map_cons, List.map_nil]) (fun h9 hS10 => ?_)
  simp only [run_frz_nil, x16_4, run_seq, run_reg, run_new, put_at, put_no, ev_t, ev_c, reduceIte, Nat.reduceEqDiff, List.map_cons, List.map_nil]
  refine put2_newC hS10 (fun b11 h12 hS13 => ?_)
  simp only [run_ops_nil, x16_3, run_seq, run_reg, run_fa, put1_some, Nat.reduceAdd, Nat.zero_add, Nat.add_zero, xfa_ref, run_ld, put_at, put_no, ev_t, ev_c, reduceIte,
      Nat.reduceEqDiff, List.map_cons, List.map_nil]
  refine put1_eq (v := .agg [.int .i64 a_0.Truth.Epoch, .int .i64 a_0.Truth.Leader, lst cI a_0.Truth.InStep]) rfl ?_
  obtain ⟨v15, hx16, hF17⟩ := bind_some' hF
  simp only [run_call, put_at, put_no, ev_t, ev_c, reduceIte, Nat.reduceEqDiff, List.map_cons, List.map_nil]
  refine call2 rfl hS13 (mapM1 (snap_agg (mapM1 snap_int (mapM1 snap_int (mapM1 snap_lst mapM0)))) mapM0) (laws_toView_x (fun b hb => decide_eq_true hb) k a_0.Truth v15 hx16) ?_
  rintro _ h22 ⟨v18, c19, rfl, hv20, hS23⟩
  refine ⟨_, free_a (all_c rfl (all_c rfl (all_c (SlF.free1 hv20) all_n))), hS23, (pf_app (SlF.pf hv20 (fun _ => rfl)) pf_nil), fun h24 hS25 => ?_⟩
  have hS26 : Sep h24 h.length (c19 ++ ([Blk1 b11 [.int .i64 0, .int .i64 0, .nil, .nil, .nil] 28] ++ ([Blk1 b5 [.int .i64 0, .int .i64 0, .nil, .nil,
      .nil] 28] ++ ([])))) := by simpa only [List.append_assoc, List.nil_append] using hS25
  simp only [run_fa, put1_some, Nat.reduceAdd, Nat.zero_add, Nat.add_zero, xfa_ptr, run_st, put_at, put_no, ev_t, ev_c, reduceIte, Nat.reduceEqDiff, List.map_cons, List.map_nil]
  refine put2_stCx (us := [.int .i64 v15.Epoch, .int .i64 v15.Leader, v18]) rfl (cs' := [.int .i64 v15.Epoch, .int .i64 v15.Leader, v18, .nil,
      .nil]) (Sep.m1 hS26) hW rfl (all_c rfl (all_c rfl (all_c (SlF.one hv20) all_n))) (Nat.le_of_ble_eq_true rfl) rfl (fun h27 hS28 => ?_)
  simp only [put_no, run_ops_nil, x16_2, run_seq, run_reg, run_fa, put1_some, Nat.reduceAdd, Nat.zero_add, Nat.add_zero, xfa_ref, run_ld, put_at, ev_t, ev_c, reduceIte,
      Nat.reduceEqDiff, List.map_cons, List.map_nil]
  refine put1_eq (v := lst Node.cells a_0.Nodes) rfl ?_
  obtain ⟨v29, hx30, hF31⟩ := bind_some' hF17
  simp only [run_call, put_at, put_no, ev_t, ev_c, reduceIte, Nat.reduceEqDiff, List.map_cons, List.map_nil]
  refine call2 rfl hS28 (mapM1 snap_lst mapM0) (laws_toNodeS_x (fun b hb => decide_eq_true hb) k a_0.Nodes v29 hx30) ?_
  rintro v32 h36 ⟨_, c33, rfl, hv34, hS37⟩
  refine ⟨_, free_1 (SlN.free1 hv34), hS37, (pf_app (SlN.pf hv34 Node.RO) pf_nil), fun h38 hS39 => ?_⟩
  have hS40 : Sep h38 h.length (c33 ++ ([Blk1 b11 [.int .i64 v15.Epoch, .int .i64 v15.Leader, v18, .nil, .nil] 28] ++ (c19 ++ ([Blk1 b5 [.int .i64 0, .int .i64 0, .nil, .nil,
      .nil] 28] ++ ([]))))) := by simpa only [List.append_assoc, List.nil_append] using hS39
  simp only [run_fa, put1_some, Nat.reduceAdd, Nat.zero_add, Nat.add_zero, xfa_ptr, run_st, put_at, put_no, ev_t, ev_c, reduceIte, Nat.reduceEqDiff, List.map_cons, List.map_nil]
  refine put2_stCx (us := [v32]) (cells_one (SlN.one hv34)) (cs' := [.int .i64 v15.Epoch, .int .i64 v15.Leader, v18, v32,
      .nil]) (Sep.m1 hS40) hW rfl (all_c (SlN.one hv34) all_n) (Nat.le_of_ble_eq_true rfl) rfl (fun h41 hS42 => ?_)
  simp only [put_no, run_ops_nil, x16_1, run_seq, run_reg, run_fa, put1_some, Nat.reduceAdd, Nat.zero_add, Nat.add_zero, xfa_ref, run_ld, put_at, ev_t, ev_c, reduceIte,
      Nat.reduceEqDiff, List.map_cons, List.map_nil]
  refine put1_eq (v := lst Row.cells a_0.Acked) rfl ?_
  obtain ⟨v43, hx44, hF45⟩ := bind_some' hF31
  simp only [run_call, put_at, put_no, ev_t, ev_c, reduceIte, Nat.reduceEqDiff, List.map_cons, List.map_nil]
  refine call2 rfl hS42 (mapM1 snap_lst mapM0) (laws_toRowS_x (fun b hb => decide_eq_true hb) k a_0.Acked v43 hx44) ?_
  rintro v46 h50 ⟨_, c47, rfl, hv48, hS51⟩
  refine ⟨_, free_1 (SlF.free1 hv48), hS51, (pf_app (SlF.pf hv48 (fun _ => rfl)) pf_nil), fun h52 hS53 => ?_⟩
  have hS54 : Sep h52 h.length (c47 ++ ([Blk1 b11 [.int .i64 v15.Epoch, .int .i64 v15.Leader, v18, v32, .nil] 28] ++ (c33 ++ (c19 ++ ([Blk1 b5 [.int .i64 0, .int .i64 0, .nil,
      .nil, .nil] 28] ++ ([])))))) := by simpa only [List.append_assoc, List.nil_append] using hS53
  simp only [run_fa, put1_some, Nat.reduceAdd, Nat.zero_add, Nat.add_zero, xfa_ptr, run_st, put_at, put_no, ev_t, ev_c, reduceIte, Nat.reduceEqDiff, List.map_cons, List.map_nil]
  refine put2_stCx (us := [v46]) (cells_one (SlF.one hv48)) (cs' := [.int .i64 v15.Epoch, .int .i64 v15.Leader, v18, v32,
      v46]) (Sep.m1 hS54) hW rfl (all_c (SlF.one hv48) all_n) (Nat.le_of_ble_eq_true rfl) rfl (fun h55 hS56 => ?_)
  simp only [put_no, run_ops_nil, run_seq, run_reg, run_ld, put_at, ev_t, ev_c, reduceIte, Nat.reduceEqDiff, List.map_cons, List.map_nil]
  refine put1_eq (v := .agg [.int .i64 v15.Epoch, .int .i64 v15.Leader, v18, v32, v46]) ((xld_bs (Sep.bk _ _ _ hS56)).trans rfl) ?_
  simp only [run_st, put_at, put_no, ev_t, ev_c, reduceIte, Nat.reduceEqDiff, List.map_cons, List.map_nil]
  refine put2_stCx (us := [.int .i64 v15.Epoch, .int .i64 v15.Leader, v18, v32, v46]) rfl (cs' := [.int .i64 v15.Epoch, .int .i64 v15.Leader, v18, v32,
      v46]) (Sep.m4 hS56) hW rfl (all_c rfl (all_c rfl (all_c (SlF.one hv20) (all_c (SlN.one hv34) (all_c (SlF.one hv48) all_n))))) (Nat.le_of_ble_eq_true rfl) rfl
      (fun h57 hS58 => ?_)
  simp only [put_no, run_ops_nil, run_ret, put_at, ev_t, ev_c, reduceIte, Nat.reduceEqDiff, List.map_cons, List.map_nil]
  have he := some_inj hF45
  subst he
  refine end_ret_cell (bb := b5) (oo := 0) (v := .agg [.int .i64 v15.Epoch, .int .i64 v15.Leader, v18, v32, v46]) (by simp only [put_at, put_no, ev_t, ev_c, reduceIte,
      Nat.reduceEqDiff, List.map_cons, List.map_nil]) ((xld_bs (Sep.bk _ _ _ hS58)).trans rfl) ?_
  exact ⟨v18, c19, v32, c33, v46, c47, by first | trivial | rfl, hv20, hv34, hv48, (Sep.m2 (Sep.m1 (Sep.dc ((Sep.dc (hS58))))))⟩
theorem laws_heldIntS_x {W : Nat → Bool} {h : Heap} (hW : ∀ b,
    h.length ≤ b → W b = true) (k : Nat) (a_0 : List Int) (k_1 : Int) (r : Int) (hF : laws_heldIntS k a_0 k_1 = some r) : Ret E W 22 [lst cI a_0,
    .int .i64 k_1] h (fun v h' => cut h.length h' E.sz false 9 v = some (.int .i64 r)) := by
  refine Ret.of (fn := x22) rfl (Run.of ?_)
  unfold laws_heldIntS at hF
  have zf0 : argFr [lst cI a_0, .int .i64 k_1] 0 = lst cI a_0 := rfl
  have zf1 : argFr [lst cI a_0, .int .i64 k_1] 1 = .int .i64 k_1 := rfl
  generalize argFr [lst cI a_0, .int .i64 k_1] = fr0 at zf0 zf1 ⊢
  have hS : Sep h h.length [] := Sep.nil h
  simp only [x22, run_seq, run_reg, run_mv, run_ops_nil, x22_6, put_at, put_no, ev_t, ev_c, reduceIte, Nat.reduceEqDiff, List.map_cons, List.map_nil]
  obtain ⟨oc7, hX9, hk10⟩ := jn_some hF
  simp only [x22_5]
  refine loopF_j (σ := Int × Int) (fun s36 => laws_heldIntS_b1 a_0 s36.1 s36.2)
      (fun s fr' h' => fr' 0 = lst cI a_0 ∧ fr' 1 = .int .i64 s.1 ∧ fr' 5 = .int .i64 s.2 ∧ Sep h' h.length ([])) hX9 ⟨by simp only [zf0, put_at, put_no, ev_t, ev_c, reduceIte,
      Nat.reduceEqDiff, List.map_cons, List.map_nil], by simp only [zf1, put_at, put_no, ev_t, ev_c, reduceIte, Nat.reduceEqDiff, List.map_cons, List.map_nil],
      by simp only [put_at, put_no, ev_t, ev_c, reduceIte, Nat.reduceEqDiff, List.map_cons, List.map_nil], hS⟩ (fun _ _ _ h => h) ?_ ?_
  · rintro ⟨s3, s4⟩ fr19 h20 ⟨f22, f23, f24, hS21⟩ oc8 hF11 hr12 Q13 hN14 hK15 hR16 hE17
    dsimp only at *
    unfold laws_heldIntS_b1 at hF11
    simp only [x22_3, run_seq, run_reg, f24, run_mv, f22, run_len, put1_some, xlen_lst, run_bin, xlss, run_ops_nil, run_cond, put_at, put_no, ev_t, ev_c, reduceIte,
        Nat.reduceEqDiff, List.map_cons, List.map_nil]
    refine cond_split (t := (decide (s4 < (List.length a_0 : Int)))) (fun hc26 => ?_) (fun hc26 => ?_)
    · rw [iteT hc26] at hF11
      obtain ⟨x27, hx28, hF29⟩ := bind_some' hF11
      simp only [run_skip, x22_2, run_seq, run_block, x22_1, run_reg, f22, run_mv, f24, run_ia, put_at, put_no, ev_t, ev_c, reduceIte, Nat.reduceEqDiff, List.map_cons,
          List.map_nil]
      refine put1_eq (v := .ref (cI x27) 0) (xia_lst hx28 rfl) ?_
      simp only [run_ld, put_at, put_no, ev_t, ev_c, reduceIte, Nat.reduceEqDiff, List.map_cons, List.map_nil]
      refine put1_eq (v := .int .i64 x27) rfl ?_
      simp only [f23, run_mv, run_bin, put1_some, xneq, run_ops_nil, run_cond, put_at, put_no, ev_t, ev_c, reduceIte, Nat.reduceEqDiff, List.map_cons, List.map_nil]
      refine cond_split (t := (decide (x27 ≠ s3))) (fun hc30 => ?_) (fun hc30 => ?_)
      · rw [iteT hc30] at hF29
        simp only [run_seq, run_reg, run_mv, run_ops_nil, run_ret, put_at, put_no, ev_t, ev_c, reduceIte, Nat.reduceEqDiff, List.map_cons, List.map_nil]
        have e31 := some_inj hF29
        subst e31
        have ho32 := hr12 _ rfl
        have hk33 := hk10
        rw [ho32] at hk33
        dsimp only [jnO] at hk33
        apply hR16
        have he := some_inj hk33
        subst he
        simp only [end_ret1, put_at, put_no, ev_t, ev_c, reduceIte, Nat.reduceEqDiff, List.map_cons, List.map_nil]
        exact rfl
      · rw [iteF hc30] at hF29
        simp only [run_skip, run_reg, f23, run_mv, run_bin, put1_some, xadd, run_ops_nil, run_blk, f24, run_nil, put_at, put_no, ev_t, ev_c, reduceIte, Nat.reduceEqDiff,
            List.map_cons, List.map_nil]
        have e34 := some_inj hF29
        exact hN14 _ _ _ e34.symm ⟨by simp only [f22, put_at, put_no, ev_t, ev_c, reduceIte, Nat.reduceEqDiff, List.map_cons, List.map_nil], by simp only [put_at, put_no, ev_t,
            ev_c, reduceIte, Nat.reduceEqDiff, List.map_cons, List.map_nil], by simp only [put_at, put_no, ev_t, ev_c, reduceIte, Nat.reduceEqDiff, List.map_cons, List.map_nil],
            hS21⟩
    · rw [iteF hc26] at hF11
      simp only [run_exit, out_code, out_nil, put_at, put_no, ev_t, ev_c, reduceIte, Nat.reduceEqDiff, List.map_cons, List.map_nil]
      have e35 := some_inj hF11
      exact hK15 _ _ _ e35.symm ⟨by simp only [f22, put_at, put_no, ev_t, ev_c, reduceIte, Nat.reduceEqDiff, List.map_cons, List.map_nil], by simp only [f23, put_at, put_no, ev_t,
          ev_c, reduceIte, Nat.reduceEqDiff, List.map_cons, List.map_nil], by simp only [f24, put_at, put_no, ev_t, ev_c, reduceIte, Nat.reduceEqDiff, List.map_cons,
          List.map_nil], hS21⟩
  · rintro ⟨s37, s38⟩ fr39 h40 rfl ⟨f42, f43, f44, hS41⟩
    dsimp only [jnO] at hk10
    dsimp only at *
    unfold laws_heldIntS_j1 at hk10
    simp only [run_seq, run_reg, f43, run_mv, run_ops_nil, run_ret, put_at, put_no, ev_t, ev_c, reduceIte, Nat.reduceEqDiff, List.map_cons, List.map_nil]
    have he := some_inj hk10
    subst he
    simp only [end_ret1, put_at, put_no, ev_t, ev_c, reduceIte, Nat.reduceEqDiff, List.map_cons, List.map_nil]
    exact rfl
theorem spec_l1In_x {W : Nat → Bool} {h : Heap} (hW : ∀ b,
    h.length ≤ b → W b = true) (n_0 : Int) (lo_1 : Int) (hi_2 : Int) (r : Bool) (hF : some (spec_l1In n_0 lo_1 hi_2) = some r) : Ret E W 37 [.int .i64 n_0, .int .i64 lo_1,
    .int .i64 hi_2] h (fun v h' => cut h.length h' E.sz false 9 v = some (.bool r)) := by
  refine Ret.of (fn := x37) rfl (Run.of ?_)
  unfold spec_l1In at hF
  have zf0 : argFr [.int .i64 n_0, .int .i64 lo_1, .int .i64 hi_2] 0 = .int .i64 n_0 := rfl
  have zf1 : argFr [.int .i64 n_0, .int .i64 lo_1, .int .i64 hi_2] 1 = .int .i64 lo_1 := rfl
  have zf2 : argFr [.int .i64 n_0, .int .i64 lo_1, .int .i64 hi_2] 2 = .int .i64 hi_2 := rfl
  generalize argFr [.int .i64 n_0, .int .i64 lo_1, .int .i64 hi_2] = fr0 at zf0 zf1 zf2 ⊢
  have hS : Sep h h.length [] := Sep.nil h
  simp only [x37, run_seq, run_reg, run_mv, run_ops_nil, x37_1, zf0, zf1, run_bin, put1_some, xgeq, put_at, put_no, ev_t, ev_c, reduceIte, Nat.reduceEqDiff, List.map_cons,
      List.map_nil]
  refine ops_j 4 (fun fr' h' => Sep h' h.length ([]) ∧ fr' 14 = .bool ((decide (lo_1 ≤ n_0)) && (decide (n_0 ≤ hi_2)))) (fun Q1 hN2 => ?_) ?_
  · simp only [List.take_succ_cons, List.take_zero]
    simp only [run_guard (g := 10), put_at, put_no, ev_t, ev_c, reduceIte, Nat.reduceEqDiff, List.map_cons, List.map_nil]
    refine guard_split (t := (decide (lo_1 ≤ n_0))) (fun hg3 => ?_) (fun hg3 => ?_)
    · simp only [hg3, run_guard (g := 10), guard_true, zf0, run_mv, zf2, run_bin, put1_some, xleq, run_pick, xpick_t, run_ops_nil, run_nil, put_at, put_no, ev_t, ev_c, reduceIte,
        Nat.reduceEqDiff, List.map_cons, List.map_nil]
      exact hN2 _ _ ⟨hS, by rw [andT hg3]; simp only [put_at, put_no, ev_t, ev_c, reduceIte, Nat.reduceEqDiff, List.map_cons, List.map_nil]⟩
    · simp only [hg3, run_guard (g := 10), guard_off, run_pick, put1_some, xpick_f, run_ops_nil, run_nil, put_at, put_no, ev_t, ev_c, reduceIte, Nat.reduceEqDiff, List.map_cons,
        List.map_nil]
      exact hN2 _ _ ⟨hS, by rw [andF hg3]; simp only [put_at, put_no, ev_t, ev_c, reduceIte, Nat.reduceEqDiff, List.map_cons, List.map_nil]⟩
  · rintro fr4 h6 ⟨hS7, f5⟩
    simp only [List.drop_succ_cons, List.drop_zero]
    simp only [f5, run_mv, run_ops_nil, run_ret, put_at, put_no, ev_t, ev_c, reduceIte, Nat.reduceEqDiff, List.map_cons, List.map_nil]
    have he := some_inj hF
    subst he
    simp only [end_ret1, put_at, put_no, ev_t, ev_c, reduceIte, Nat.reduceEqDiff, List.map_cons, List.map_nil]
    exact rfl
theorem spec_l6Group_x {W : Nat → Bool} {h : Heap} (hW : ∀ b,
    h.length ≤ b → W b = true) (l_0 : List Int) (many_1 : Int) (r : Bool) (hF : spec_l6Group l_0 many_1 = some r) : Ret E W 72 [lst cI l_0,
    .int .i64 many_1] h (fun v h' => cut h.length h' E.sz false 9 v = some (.bool r)) := by
  refine Ret.of (fn := x72) rfl (Run.of ?_)
  unfold spec_l6Group at hF
  have zf0 : argFr [lst cI l_0, .int .i64 many_1] 0 = lst cI l_0 := rfl
  have zf1 : argFr [lst cI l_0, .int .i64 many_1] 1 = .int .i64 many_1 := rfl
  generalize argFr [lst cI l_0, .int .i64 many_1] = fr0 at zf0 zf1 ⊢
  have hS : Sep h h.length [] := Sep.nil h
  simp only [x72, run_seq, run_reg, run_mv, run_ops_nil, x72_5, zf0, run_len, put1_some, xlen_lst, put_at, put_no, ev_t, ev_c, reduceIte, Nat.reduceEqDiff, List.map_cons,
      List.map_nil]
  obtain ⟨oc3, hX5, hk6⟩ := jn_some hF
  simp only [x72_4]
  refine rangeL_j (σ := Unit) l_0 (fun i1 x2 _ => spec_l6Group_b1 l_0 many_1 i1 x2 )
      (fun s fr' h' => fr' 0 = lst cI l_0 ∧ fr' 1 = .int .i64 many_1 ∧ fr' 7 = lst cI l_0 ∧ Sep h' h.length ([])) hX5 ⟨by simp only [zf0, put_at, put_no, ev_t, ev_c, reduceIte,
      Nat.reduceEqDiff, List.map_cons, List.map_nil], by simp only [zf1, put_at, put_no, ev_t, ev_c, reduceIte, Nat.reduceEqDiff, List.map_cons, List.map_nil],
      by simp only [put_at, put_no, ev_t, ev_c, reduceIte, Nat.reduceEqDiff, List.map_cons, List.map_nil], hS⟩ (by simp only [put_at, put_no, ev_t, ev_c, reduceIte,
      Nat.reduceEqDiff, List.map_cons, List.map_nil]) (by simp only [put_at, put_no, ev_t, ev_c, reduceIte, Nat.reduceEqDiff, List.map_cons,
      List.map_nil]) (fun _ _ _ h => h) rfl rfl (fun _ _ _ _ h => h) (fun _ _ _ _ h => h) (fun _ _ _ _ h => h) (by decide) ?_ ?_
  · rintro i1 x2 _ fr15 h16 hx21 ⟨f18, f19, f20, hS17⟩ f22 f23 oc4 hF7 hr8 Q9 hN10 hB14 hK11 hR12 hE13
    unfold spec_l6Group_b1 at hF7
    simp only [x72_2, run_seq, run_reg, f22, run_mv, f20, run_ia, put_at, put_no, ev_t, ev_c, reduceIte, Nat.reduceEqDiff, List.map_cons, List.map_nil]
    refine put1_eq (v := .ref (cI x2) 0) (xia_lstN hx21 rfl) ?_
    simp only [run_ld, put_at, put_no, ev_t, ev_c, reduceIte, Nat.reduceEqDiff, List.map_cons, List.map_nil]
    refine put1_eq (v := .int .i64 x2) rfl ?_
    simp only [run_mv, run_ops_nil, x72_1, run_seq, run_reg, run_bin, put1_some, xlss, put_at, put_no, ev_t, ev_c, reduceIte, Nat.reduceEqDiff, List.map_cons, List.map_nil]
    refine ops_j 4 (fun fr' h' => Sep h' h.length ([]) ∧ fr' 20 = .bool ((decide (x2 < 0)) || (decide
        (many_1 ≤ x2))) ∧ fr' 0 = lst cI l_0 ∧ fr' 1 = .int .i64 many_1 ∧ fr' 5 = .int .i64 (i1 : Int) ∧ fr' 6 = .int .i64 x2 ∧ fr' 7 = lst cI l_0 ∧ fr' 8 = .int .i64
        (List.length l_0 : Int) ∧ fr' 9 = .int .i64 (i1 : Int)) (fun Q24 hN25 => ?_) ?_
    · simp only [List.take_succ_cons, List.take_zero]
      simp only [run_guard (g := 16), put_at, put_no, ev_t, ev_c, reduceIte, Nat.reduceEqDiff, List.map_cons, List.map_nil]
      refine guard_split (t := (decide (x2 < 0))) (fun hg26 => ?_) (fun hg26 => ?_)
      · simp only [hg26, run_guard (g := 16), guard_off', run_pick, put1_some, xpick_t, run_ops_nil, run_nil, put_at, put_no, ev_t, ev_c, reduceIte, Nat.reduceEqDiff,
          List.map_cons, List.map_nil]
        exact hN25 _ _ ⟨hS17, by rw [orT hg26]; simp only [put_at, put_no, ev_t, ev_c, reduceIte, Nat.reduceEqDiff, List.map_cons, List.map_nil], by simp only [f18, put_at,
            put_no, ev_t, ev_c, reduceIte, Nat.reduceEqDiff, List.map_cons, List.map_nil], by simp only [f19, put_at, put_no, ev_t, ev_c, reduceIte, Nat.reduceEqDiff,
            List.map_cons, List.map_nil], by simp only [put_at, put_no, ev_t, ev_c, reduceIte, Nat.reduceEqDiff, List.map_cons, List.map_nil], by simp only [put_at, put_no, ev_t,
            ev_c, reduceIte, Nat.reduceEqDiff, List.map_cons, List.map_nil], by simp only [f20, put_at, put_no, ev_t, ev_c, reduceIte, Nat.reduceEqDiff, List.map_cons,
            List.map_nil], by simp only [f23, put_at, put_no, ev_t, ev_c, reduceIte, Nat.reduceEqDiff, List.map_cons, List.map_nil], by simp only [f22, put_at, put_no, ev_t, ev_c,
            reduceIte, Nat.reduceEqDiff, List.map_cons, List.map_nil]⟩
      · simp only [hg26, run_guard (g := 16), guard_false, run_mv, f19, run_bin, put1_some, xgeq, run_pick, xpick_f, run_ops_nil, run_nil, put_at, put_no, ev_t, ev_c, reduceIte,
          Nat.reduceEqDiff, List.map_cons, List.map_nil]
        exact hN25 _ _ ⟨hS17, by rw [orF hg26]; simp only [put_at, put_no, ev_t, ev_c, reduceIte, Nat.reduceEqDiff, List.map_cons, List.map_nil], by simp only [f18, put_at,
            put_no, ev_t, ev_c, reduceIte, Nat.reduceEqDiff, List.map_cons, List.map_nil], by simp only [f19, put_at, put_no, ev_t, ev_c, reduceIte, Nat.reduceEqDiff,
            List.map_cons, List.map_nil], by simp only [put_at, put_no, ev_t, ev_c, reduceIte, Nat.reduceEqDiff, List.map_cons, List.map_nil], by simp only [put_at, put_no, ev_t,
            ev_c, reduceIte, Nat.reduceEqDiff, List.map_cons, List.map_nil], by simp only [f20, put_at, put_no, ev_t, ev_c, reduceIte, Nat.reduceEqDiff, List.map_cons,
            List.map_nil], by simp only [f23, put_at, put_no, ev_t, ev_c, reduceIte, Nat.reduceEqDiff, List.map_cons, List.map_nil], by simp only [f22, put_at, put_no, ev_t, ev_c,
            reduceIte, Nat.reduceEqDiff, List.map_cons, List.map_nil]⟩
    · rintro fr27 h36 ⟨hS37, f28, f29, f30, f31, f32, f33, f34, f35⟩
      simp only [List.drop_succ_cons, List.drop_zero]
      simp only [f28, run_mv, put_at, put_no, ev_t, ev_c, reduceIte, Nat.reduceEqDiff, List.map_cons, List.map_nil]
      obtain ⟨v41, hx42, hF43⟩ := bind_some' hF7
      refine ops_j 12 (fun fr' h' => Sep h' h.length ([]) ∧ fr' 33 = .bool v41 ∧ fr' 0 = lst cI l_0 ∧ fr' 1 = .int .i64 many_1 ∧ fr' 7 = lst cI l_0 ∧ fr' 8 = .int .i64
          (List.length l_0 : Int) ∧ fr' 9 = .int .i64 (i1 : Int)) (fun Q38 hN39 => ?_) ?_
      · simp only [List.take_succ_cons, List.take_zero]
        simp only [run_guard (g := 21), put_at, put_no, ev_t, ev_c, reduceIte, Nat.reduceEqDiff, List.map_cons, List.map_nil]
        refine guard_split (t := ((decide (x2 < 0)) || (decide (many_1 ≤ x2)))) (fun hg40 => ?_) (fun hg40 => ?_)
        · rw [iteT hg40] at hx42
          simp only [hg40, run_guard (g := 21), guard_off', run_guard (g := 24), guard_tup, run_pick, put1_some, xpick_t, run_ops_nil, run_nil, put_at, put_no, ev_t, ev_c,
              reduceIte, Nat.reduceEqDiff, List.map_cons, List.map_nil]
          have e44 := some_inj hx42
          exact hN39 _ _ ⟨hS37, by rw [← e44]; simp only [put_at, put_no, ev_t, ev_c, reduceIte, Nat.reduceEqDiff, List.map_cons, List.map_nil], by simp only [f29, put_at, put_no,
              ev_t, ev_c, reduceIte, Nat.reduceEqDiff, List.map_cons, List.map_nil], by simp only [f30, put_at, put_no, ev_t, ev_c, reduceIte, Nat.reduceEqDiff, List.map_cons,
              List.map_nil], by simp only [f33, put_at, put_no, ev_t, ev_c, reduceIte, Nat.reduceEqDiff, List.map_cons, List.map_nil], by simp only [f34, put_at, put_no, ev_t,
              ev_c, reduceIte, Nat.reduceEqDiff, List.map_cons, List.map_nil], by simp only [f35, put_at, put_no, ev_t, ev_c, reduceIte, Nat.reduceEqDiff, List.map_cons,
              List.map_nil]⟩
        · rw [iteF hg40] at hx42
          simp only [hg40, run_guard (g := 21), guard_false, f31, run_mv, run_bin, put1_some, xgtr, put_at, put_no, ev_t, ev_c, reduceIte, Nat.reduceEqDiff, List.map_cons,
              List.map_nil]
          obtain ⟨v48, hx49, hF50⟩ := bind_some' hx42
          refine ops_j 8 (fun fr' h' => Sep h' h.length ([]) ∧ fr' 32 = .bool v48 ∧ fr' 0 = lst cI l_0 ∧ fr' 1 = .int .i64 many_1 ∧ fr' 7 = lst cI l_0 ∧ fr' 8 = .int .i64
              (List.length l_0 : Int) ∧ fr' 9 = .int .i64 (i1 : Int) ∧ fr' 21 = .bool ((decide (x2 < 0)) || (decide (many_1 ≤ x2)))) (fun Q45 hN46 => ?_) ?_
          · simp only [List.take_succ_cons, List.take_zero]
            simp only [run_guard (g := 24), put_at, put_no, ev_t, ev_c, reduceIte, Nat.reduceEqDiff, List.map_cons, List.map_nil]
            refine guard_split (t := (decide ((0 : Int) < (i1 : Int)))) (fun hg47 => ?_) (fun hg47 => ?_)
            · rw [iteT hg47] at hx49
              obtain ⟨x51, hx52, hF53⟩ := bind_some' hx49
              simp only [hg47, run_guard (g := 24), guard_true, f29, run_mv, f31, run_bin, put1_some, xsub, run_ia, put_at, put_no, ev_t, ev_c, reduceIte, Nat.reduceEqDiff,
                  List.map_cons, List.map_nil]
              refine put1_eq (v := .ref (cI x51) 0) (xia_lst hx52 rfl) ?_
              simp only [hg47, run_guard (g := 24), guard_true, run_ld, put_at, put_no, ev_t, ev_c, reduceIte, Nat.reduceEqDiff, List.map_cons, List.map_nil]
              refine put1_eq (v := .int .i64 x51) rfl ?_
              simp only [hg47, run_guard (g := 24), guard_true, f32, run_mv, run_bin, put1_some, xgeq, hg40, run_guard (g := 21), guard_false, run_pick, xpick_t, run_ops_nil,
                  run_nil, put_at, put_no, ev_t, ev_c, reduceIte, Nat.reduceEqDiff, List.map_cons, List.map_nil]
              have e54 := some_inj hF53
              exact hN46 _ _ ⟨hS37, by rw [← e54]; simp only [put_at, put_no, ev_t, ev_c, reduceIte, Nat.reduceEqDiff, List.map_cons, List.map_nil], by simp only [f29, put_at,
                  put_no, ev_t, ev_c, reduceIte, Nat.reduceEqDiff, List.map_cons, List.map_nil], by simp only [f30, put_at, put_no, ev_t, ev_c, reduceIte, Nat.reduceEqDiff,
                  List.map_cons, List.map_nil], by simp only [f33, put_at, put_no, ev_t, ev_c, reduceIte, Nat.reduceEqDiff, List.map_cons, List.map_nil], by simp only [f34,
                  put_at, put_no, ev_t, ev_c, reduceIte, Nat.reduceEqDiff, List.map_cons, List.map_nil], by simp only [f35, put_at, put_no, ev_t, ev_c, reduceIte,
                  Nat.reduceEqDiff, List.map_cons, List.map_nil], by simp only [hg40, put_at, put_no, ev_t, ev_c, reduceIte, Nat.reduceEqDiff, List.map_cons, List.map_nil]⟩
            · rw [iteF hg47] at hx49
              simp only [hg47, run_guard (g := 24), guard_off, hg40, run_guard (g := 21), guard_false, run_pick, put1_some, xpick_f, run_ops_nil, run_nil, put_at, put_no, ev_t,
                  ev_c, reduceIte, Nat.reduceEqDiff, List.map_cons, List.map_nil]
              have e55 := some_inj hx49
              exact hN46 _ _ ⟨hS37, by rw [← e55]; simp only [put_at, put_no, ev_t, ev_c, reduceIte, Nat.reduceEqDiff, List.map_cons, List.map_nil], by simp only [f29, put_at,
                  put_no, ev_t, ev_c, reduceIte, Nat.reduceEqDiff, List.map_cons, List.map_nil], by simp only [f30, put_at, put_no, ev_t, ev_c, reduceIte, Nat.reduceEqDiff,
                  List.map_cons, List.map_nil], by simp only [f33, put_at, put_no, ev_t, ev_c, reduceIte, Nat.reduceEqDiff, List.map_cons, List.map_nil], by simp only [f34,
                  put_at, put_no, ev_t, ev_c, reduceIte, Nat.reduceEqDiff, List.map_cons, List.map_nil], by simp only [f35, put_at, put_no, ev_t, ev_c, reduceIte,
                  Nat.reduceEqDiff, List.map_cons, List.map_nil], by simp only [hg40, put_at, put_no, ev_t, ev_c, reduceIte, Nat.reduceEqDiff, List.map_cons, List.map_nil]⟩
          · rintro fr56 h64 ⟨hS65, f57, f58, f59, f60, f61, f62, f63⟩
            simp only [List.drop_succ_cons, List.drop_zero]
            simp only [f63, hg40, run_pick, put1_some, xpick_f, f57, run_ops_nil, run_nil, put_at, put_no, ev_t, ev_c, reduceIte, Nat.reduceEqDiff, List.map_cons, List.map_nil]
            have e66 := some_inj hF50
            exact hN39 _ _ ⟨hS65, by rw [← e66]; simp only [put_at, put_no, ev_t, ev_c, reduceIte, Nat.reduceEqDiff, List.map_cons, List.map_nil], by simp only [f58, put_at,
                put_no, ev_t, ev_c, reduceIte, Nat.reduceEqDiff, List.map_cons, List.map_nil], by simp only [f59, put_at, put_no, ev_t, ev_c, reduceIte, Nat.reduceEqDiff,
                List.map_cons, List.map_nil], by simp only [f60, put_at, put_no, ev_t, ev_c, reduceIte, Nat.reduceEqDiff, List.map_cons, List.map_nil], by simp only [f61, put_at,
                put_no, ev_t, ev_c, reduceIte, Nat.reduceEqDiff, List.map_cons, List.map_nil], by simp only [f62, put_at, put_no, ev_t, ev_c, reduceIte, Nat.reduceEqDiff,
                List.map_cons, List.map_nil]⟩
      · rintro fr67 h74 ⟨hS75, f68, f69, f70, f71, f72, f73⟩
        simp only [List.drop_succ_cons, List.drop_zero]
        simp only [run_ops_nil, f68, run_cond, put_at, put_no, ev_t, ev_c, reduceIte, Nat.reduceEqDiff, List.map_cons, List.map_nil]
        refine cond_split (t := v41) (fun hc76 => ?_) (fun hc76 => ?_)
        · rw [iteT hc76] at hF43
          simp only [run_seq, run_reg, run_mv, run_ops_nil, run_ret, put_at, put_no, ev_t, ev_c, reduceIte, Nat.reduceEqDiff, List.map_cons, List.map_nil]
          have e77 := some_inj hF43
          subst e77
          have ho78 := hr8 _ rfl
          have hk79 := hk6
          rw [ho78] at hk79
          dsimp only [jnO] at hk79
          apply hR12
          have he := some_inj hk79
          subst he
          simp only [end_ret1, put_at, put_no, ev_t, ev_c, reduceIte, Nat.reduceEqDiff, List.map_cons, List.map_nil]
          exact rfl
        · rw [iteF hc76] at hF43
          simp only [run_skip, run_nil, put_at, put_no, ev_t, ev_c, reduceIte, Nat.reduceEqDiff, List.map_cons, List.map_nil]
          have e80 := some_inj hF43
          exact hN10 _ _ _ e80.symm ⟨by simp only [f69, put_at, put_no, ev_t, ev_c, reduceIte, Nat.reduceEqDiff, List.map_cons, List.map_nil], by simp only [f70, put_at, put_no,
              ev_t, ev_c, reduceIte, Nat.reduceEqDiff, List.map_cons, List.map_nil], by simp only [f71, put_at, put_no, ev_t, ev_c, reduceIte, Nat.reduceEqDiff, List.map_cons,
              List.map_nil], hS75⟩ (by simp only [f73, put_at, put_no, ev_t, ev_c, reduceIte, Nat.reduceEqDiff, List.map_cons, List.map_nil]) (by simp only [f72, put_at, put_no,
              ev_t, ev_c, reduceIte, Nat.reduceEqDiff, List.map_cons, List.map_nil])
  · rintro _ fr82 h83 rfl ⟨f85, f86, f87, hS84⟩
    dsimp only [jnO] at hk6
    unfold spec_l6Group_j1 at hk6
    simp only [run_seq, run_reg, run_mv, run_ops_nil, run_ret, put_at, put_no, ev_t, ev_c, reduceIte, Nat.reduceEqDiff, List.map_cons, List.map_nil]
    have he := some_inj hk6
    subst he
    simp only [end_ret1, put_at, put_no, ev_t, ev_c, reduceIte, Nat.reduceEqDiff, List.map_cons, List.map_nil]
    exact rfl
theorem spec_l1Has_x {W : Nat → Bool} {h : Heap} (hW : ∀ b,
    h.length ≤ b → W b = true) (l_0 : List Int) (n_1 : Int) (r : Bool) (hF : spec_l1Has l_0 n_1 = some r) : Ret E W 73 [lst cI l_0,
    .int .i64 n_1] h (fun v h' => cut h.length h' E.sz false 9 v = some (.bool r)) := by
  refine Ret.of (fn := x73) rfl (Run.of ?_)
  unfold spec_l1Has at hF
  have zf0 : argFr [lst cI l_0, .int .i64 n_1] 0 = lst cI l_0 := rfl
  have zf1 : argFr [lst cI l_0, .int .i64 n_1] 1 = .int .i64 n_1 := rfl
  generalize argFr [lst cI l_0, .int .i64 n_1] = fr0 at zf0 zf1 ⊢
  have hS : Sep h h.length [] := Sep.nil h
  simp only [x73, run_seq, run_reg, run_mv, run_ops_nil, x73_5, zf0, run_len, put1_some, xlen_lst, put_at, put_no, ev_t, ev_c, reduceIte, Nat.reduceEqDiff, List.map_cons,
      List.map_nil]
  obtain ⟨oc3, hX5, hk6⟩ := jn_some hF
  simp only [x73_4]
  refine rangeL_j (σ := Unit) l_0 (fun i1 x2 _ => spec_l1Has_b1 n_1 i1 x2 ) (fun s fr' h' => fr' 1 = .int .i64 n_1 ∧ fr' 7 = lst cI l_0 ∧ Sep h' h.length
      ([])) hX5 ⟨by simp only [zf1, put_at, put_no, ev_t, ev_c, reduceIte, Nat.reduceEqDiff, List.map_cons, List.map_nil], by simp only [put_at, put_no, ev_t, ev_c, reduceIte,
      Nat.reduceEqDiff, List.map_cons, List.map_nil], hS⟩ (by simp only [put_at, put_no, ev_t, ev_c, reduceIte, Nat.reduceEqDiff, List.map_cons,
      List.map_nil]) (by simp only [put_at, put_no, ev_t, ev_c, reduceIte, Nat.reduceEqDiff, List.map_cons,
      List.map_nil]) (fun _ _ _ h => h) rfl rfl (fun _ _ _ _ h => h) (fun _ _ _ _ h => h) (fun _ _ _ _ h => h) (by decide) ?_ ?_
  · rintro i1 x2 _ fr15 h16 hx20 ⟨f18, f19, hS17⟩ f21 f22 oc4 hF7 hr8 Q9 hN10 hB14 hK11 hR12 hE13
    unfold spec_l1Has_b1 at hF7
    simp only [x73_2, run_seq, run_reg, f19, f21, run_ia, put_at, put_no, ev_t, ev_c, reduceIte, Nat.reduceEqDiff, List.map_cons, List.map_nil]
    refine put1_eq (v := .ref (cI x2) 0) (xia_lstN hx20 rfl) ?_
    simp only [run_ld, put_at, put_no, ev_t, ev_c, reduceIte, Nat.reduceEqDiff, List.map_cons, List.map_nil]
    refine put1_eq (v := .int .i64 x2) rfl ?_
    simp only [run_mv, run_ops_nil, x73_1, run_seq, run_reg, f18, run_bin, put1_some, xeql, run_cond, put_at, put_no, ev_t, ev_c, reduceIte, Nat.reduceEqDiff, List.map_cons,
        List.map_nil]
    refine cond_split (t := (decide (x2 = n_1))) (fun hc23 => ?_) (fun hc23 => ?_)
    · rw [iteT hc23] at hF7
      simp only [run_seq, run_reg, run_mv, run_ops_nil, run_ret, put_at, put_no, ev_t, ev_c, reduceIte, Nat.reduceEqDiff, List.map_cons, List.map_nil]
      have e24 := some_inj hF7
      subst e24
      have ho25 := hr8 _ rfl
      have hk26 := hk6
      rw [ho25] at hk26
      dsimp only [jnO] at hk26
      apply hR12
      have he := some_inj hk26
      subst he
      simp only [end_ret1, put_at, put_no, ev_t, ev_c, reduceIte, Nat.reduceEqDiff, List.map_cons, List.map_nil]
      exact rfl
    · rw [iteF hc23] at hF7
      simp only [run_skip, run_nil, put_at, put_no, ev_t, ev_c, reduceIte, Nat.reduceEqDiff, List.map_cons, List.map_nil]
      have e27 := some_inj hF7
      exact hN10 _ _ _ e27.symm ⟨by simp only [f18, put_at, put_no, ev_t, ev_c, reduceIte, Nat.reduceEqDiff, List.map_cons, List.map_nil], by simp only [f19, put_at, put_no, ev_t,
          ev_c, reduceIte, Nat.reduceEqDiff, List.map_cons, List.map_nil], hS17⟩ (by simp only [f21, put_at, put_no, ev_t, ev_c, reduceIte, Nat.reduceEqDiff, List.map_cons,
          List.map_nil]) (by simp only [f22, put_at, put_no, ev_t, ev_c, reduceIte, Nat.reduceEqDiff, List.map_cons, List.map_nil])
  · rintro _ fr29 h30 rfl ⟨f32, f33, hS31⟩
    dsimp only [jnO] at hk6
    unfold spec_l1Has_j1 at hk6
    simp only [run_seq, run_reg, run_mv, run_ops_nil, run_ret, put_at, put_no, ev_t, ev_c, reduceIte, Nat.reduceEqDiff, List.map_cons, List.map_nil]
    have he := some_inj hk6
    subst he
    simp only [end_ret1, put_at, put_no, ev_t, ev_c, reduceIte, Nat.reduceEqDiff, List.map_cons, List.map_nil]
    exact rfl
end Go.Proofs.Ytohofoampalhoaa.X
namespace Go.Proofs.Ytohofoampalhoaa.X
open Go
theorem spec_l17View_x {W : Nat → Bool} {h : Heap} (hW : ∀ b,
    h.length ≤ b → W b = true) (v_0 : View) (n_1 : Int) (r : Bool) (hF : spec_l17View v_0 n_1 = some r) : Ret E W 53 [.agg [.int .i64 v_0.Epoch, .int .i64 v_0.Leader,
    lst cI v_0.InStep], .int .i64 n_1] h (fun v h' => cut h.length h' E.sz false 9 v = some (.bool r)) := by
  refine Ret.of (fn := x53) rfl (Run.of ?_)
  unfold spec_l17View at hF
  have zf0 : argFr [.agg [.int .i64 v_0.Epoch, .int .i64 v_0.Leader, lst cI v_0.InStep], .int .i64 n_1] 0 = .agg [.int .i64 v_0.Epoch, .int .i64 v_0.Leader,
      lst cI v_0.InStep] := rfl
  have zf1 : argFr [.agg [.int .i64 v_0.Epoch, .int .i64 v_0.Leader, lst cI v_0.InStep], .int .i64 n_1] 1 = .int .i64 n_1 := rfl
  generalize argFr [.agg [.int .i64 v_0.Epoch, .int .i64 v_0.Leader, lst cI v_0.InStep], .int .i64 n_1] = fr0 at zf0 zf1 ⊢
  have hS : Sep h h.length [] := Sep.nil h
  simp only [x53, run_seq, run_reg, run_box, zf0, put_at, put_no, ev_t, ev_c, reduceIte, Nat.reduceEqDiff, List.map_cons, List.map_nil]
  refine put2_boxC (cs := [.int .i64 v_0.Epoch, .int .i64 v_0.Leader, lst cI v_0.InStep]) hS rfl rfl rfl (fun b1 h2 hS3 => ?_)
  simp only [run_mv, run_ops_nil, put_at, put_no, ev_t, ev_c, reduceIte, Nat.reduceEqDiff, List.map_cons, List.map_nil]
  refine frz_stepC hS3 hW (by simp only [put_at, put_no, ev_t, ev_c, reduceIte, Nat.reduceEqDiff, List.map_cons, List.map_nil]) (fun h5 hS6 => ?_)
  simp only [run_frz_nil, x53_1, run_seq, run_reg, run_fa, put1_some, Nat.reduceAdd, Nat.zero_add, Nat.add_zero, xfa_ref, run_ld, put_at, put_no, ev_t, ev_c, reduceIte,
      Nat.reduceEqDiff, List.map_cons, List.map_nil]
  refine put1_eq (v := .int .i64 v_0.Epoch) rfl ?_
  simp only [run_call, put_at, put_no, ev_t, ev_c, reduceIte, Nat.reduceEqDiff, List.map_cons, List.map_nil]
  refine call1 rfl (mapM1 snap_int (mapM1 snap_int (mapM1 snap_int mapM0))) (spec_l1In_x (fun b hb => decide_eq_true hb) v_0.Epoch 0 100 _ rfl) ?_
  simp only [run_mv, put_at, put_no, ev_t, ev_c, reduceIte, Nat.reduceEqDiff, List.map_cons, List.map_nil]
  obtain ⟨v10, hx11, hF12⟩ := bind_some' hF
  refine ops_j 5 (fun fr' h' => Sep h' h.length ([]) ∧ fr' 13 = .bool v10 ∧ fr' 2 = .ref [.int .i64 v_0.Epoch, .int .i64 v_0.Leader, lst cI v_0.InStep] 0) (fun Q7 hN8 => ?_) ?_
  · simp only [List.take_succ_cons, List.take_zero]
    simp only [run_guard (g := 8), put_at, put_no, ev_t, ev_c, reduceIte, Nat.reduceEqDiff, List.map_cons, List.map_nil]
    refine guard_split (t := (spec_l1In v_0.Epoch 0 100)) (fun hg9 => ?_) (fun hg9 => ?_)
    · rw [iteT hg9] at hx11
      simp only [hg9, run_guard (g := 8), guard_true, run_fa, put1_some, Nat.reduceAdd, Nat.zero_add, Nat.add_zero, xfa_ref, run_ld, put_at, put_no, ev_t, ev_c, reduceIte,
          Nat.reduceEqDiff, List.map_cons, List.map_nil]
      refine put1_eq (v := lst cI v_0.InStep) rfl ?_
      obtain ⟨v13, hx14, hF15⟩ := bind_some' hx11
      simp only [hg9, run_guard (g := 8), guard_true, zf1, run_mv, run_call, put_at, put_no, ev_t, ev_c, reduceIte, Nat.reduceEqDiff, List.map_cons, List.map_nil]
      refine call1 rfl (mapM1 snap_lst (mapM1 snap_int mapM0)) (spec_l6Group_x (fun b hb => decide_eq_true hb) v_0.InStep n_1 v13 hx14) ?_
      simp only [hg9, run_pick, put1_some, xpick_t, run_ops_nil, run_nil, put_at, put_no, ev_t, ev_c, reduceIte, Nat.reduceEqDiff, List.map_cons, List.map_nil]
      have e16 := some_inj hF15
      exact hN8 _ _ ⟨hS6, by rw [← e16]; simp only [put_at, put_no, ev_t, ev_c, reduceIte, Nat.reduceEqDiff, List.map_cons, List.map_nil], by simp only [put_at, put_no, ev_t,
          ev_c, reduceIte, Nat.reduceEqDiff, List.map_cons, List.map_nil]⟩
    · rw [iteF hg9] at hx11
      simp only [hg9, run_guard (g := 8), guard_off, run_pick, put1_some, xpick_f, run_ops_nil, run_nil, put_at, put_no, ev_t, ev_c, reduceIte, Nat.reduceEqDiff, List.map_cons,
          List.map_nil]
      have e17 := some_inj hx11
      exact hN8 _ _ ⟨hS6, by rw [← e17]; simp only [put_at, put_no, ev_t, ev_c, reduceIte, Nat.reduceEqDiff, List.map_cons, List.map_nil], by simp only [put_at, put_no, ev_t,
          ev_c, reduceIte, Nat.reduceEqDiff, List.map_cons, List.map_nil]⟩
  · rintro fr18 h21 ⟨hS22, f19, f20⟩
    simp only [List.drop_succ_cons, List.drop_zero]
    simp only [f19, run_mv, put_at, put_no, ev_t, ev_c, reduceIte, Nat.reduceEqDiff, List.map_cons, List.map_nil]
    obtain ⟨v26, hx27, hF28⟩ := bind_some' hF12
    refine ops_j 6 (fun fr' h' => Sep h' h.length ([]) ∧ fr' 20 = .bool v26) (fun Q23 hN24 => ?_) ?_
    · simp only [List.take_succ_cons, List.take_zero]
      simp only [run_guard (g := 14), put_at, put_no, ev_t, ev_c, reduceIte, Nat.reduceEqDiff, List.map_cons, List.map_nil]
      refine guard_split (t := v10) (fun hg25 => ?_) (fun hg25 => ?_)
      · rw [iteT hg25] at hx27
        simp only [hg25, run_guard (g := 14), guard_true, f20, run_fa, put1_some, Nat.reduceAdd, Nat.zero_add, Nat.add_zero, xfa_ref, run_ld, put_at, put_no, ev_t, ev_c,
            reduceIte, Nat.reduceEqDiff, List.map_cons, List.map_nil]
        refine put1_eq (v := lst cI v_0.InStep) rfl ?_
        simp only [hg25, run_guard (g := 14), guard_true, f20, run_fa, put1_some, Nat.reduceAdd, Nat.zero_add, Nat.add_zero, xfa_ref, run_ld, put_at, put_no, ev_t, ev_c,
            reduceIte, Nat.reduceEqDiff, List.map_cons, List.map_nil]
        refine put1_eq (v := .int .i64 v_0.Leader) rfl ?_
        obtain ⟨v29, hx30, hF31⟩ := bind_some' hx27
        simp only [hg25, run_guard (g := 14), guard_true, run_call, put_at, put_no, ev_t, ev_c, reduceIte, Nat.reduceEqDiff, List.map_cons, List.map_nil]
        refine call1 rfl (mapM1 snap_lst (mapM1 snap_int mapM0)) (spec_l1Has_x (fun b hb => decide_eq_true hb) v_0.InStep v_0.Leader v29 hx30) ?_
        simp only [hg25, run_pick, put1_some, xpick_t, run_ops_nil, run_nil, put_at, put_no, ev_t, ev_c, reduceIte, Nat.reduceEqDiff, List.map_cons, List.map_nil]
        have e32 := some_inj hF31
        exact hN24 _ _ ⟨hS22, by rw [← e32]; simp only [put_at, put_no, ev_t, ev_c, reduceIte, Nat.reduceEqDiff, List.map_cons, List.map_nil]⟩
      · rw [iteF hg25] at hx27
        simp only [hg25, run_guard (g := 14), guard_off, run_pick, put1_some, xpick_f, run_ops_nil, run_nil, put_at, put_no, ev_t, ev_c, reduceIte, Nat.reduceEqDiff,
            List.map_cons, List.map_nil]
        have e33 := some_inj hx27
        exact hN24 _ _ ⟨hS22, by rw [← e33]; simp only [put_at, put_no, ev_t, ev_c, reduceIte, Nat.reduceEqDiff, List.map_cons, List.map_nil]⟩
    · rintro fr34 h36 ⟨hS37, f35⟩
      simp only [List.drop_succ_cons, List.drop_zero]
      simp only [f35, run_mv, run_ops_nil, run_ret, put_at, put_no, ev_t, ev_c, reduceIte, Nat.reduceEqDiff, List.map_cons, List.map_nil]
      have he := some_inj hF28
      subst he
      simp only [end_ret1, put_at, put_no, ev_t, ev_c, reduceIte, Nat.reduceEqDiff, List.map_cons, List.map_nil]
      exact rfl
theorem spec_l11Log_x {W : Nat → Bool} {h : Heap} (hW : ∀ b,
    h.length ≤ b → W b = true) (l_0 : List Row) (epoch_1 : Int) (r : Bool) (hF : spec_l11Log l_0 epoch_1 = some r) : Ret E W 54 [lst Row.cells l_0,
    .int .i64 epoch_1] h (fun v h' => cut h.length h' E.sz false 9 v = some (.bool r)) := by
  refine Ret.of (fn := x54) rfl (Run.of ?_)
  unfold spec_l11Log at hF
  have zf0 : argFr [lst Row.cells l_0, .int .i64 epoch_1] 0 = lst Row.cells l_0 := rfl
  have zf1 : argFr [lst Row.cells l_0, .int .i64 epoch_1] 1 = .int .i64 epoch_1 := rfl
  generalize argFr [lst Row.cells l_0, .int .i64 epoch_1] = fr0 at zf0 zf1 ⊢
  have hS : Sep h h.length [] := Sep.nil h
  simp only [x54, run_seq, run_reg, run_mv, run_ops_nil, x54_6, zf0, run_len, put1_some, xlen_lst, put_at, put_no, ev_t, ev_c, reduceIte, Nat.reduceEqDiff, List.map_cons,
      List.map_nil]
  obtain ⟨oc3, hX5, hk6⟩ := jn_some hF
  simp only [x54_4]
  refine rangeL_j (σ := Unit) l_0 (fun i1 x2 _ => spec_l11Log_b1 l_0 epoch_1 i1 x2 )
      (fun s fr' h' => fr' 0 = lst Row.cells l_0 ∧ fr' 1 = .int .i64 epoch_1 ∧ fr' 7 = lst Row.cells l_0 ∧ Sep h' h.length ([])) hX5 ⟨by simp only [zf0, put_at, put_no, ev_t,
      ev_c, reduceIte, Nat.reduceEqDiff, List.map_cons, List.map_nil], by simp only [zf1, put_at, put_no, ev_t, ev_c, reduceIte, Nat.reduceEqDiff, List.map_cons, List.map_nil],
      by simp only [put_at, put_no, ev_t, ev_c, reduceIte, Nat.reduceEqDiff, List.map_cons, List.map_nil], hS⟩ (by simp only [put_at, put_no, ev_t, ev_c, reduceIte,
      Nat.reduceEqDiff, List.map_cons, List.map_nil]) (by simp only [put_at, put_no, ev_t, ev_c, reduceIte, Nat.reduceEqDiff, List.map_cons,
      List.map_nil]) (fun _ _ _ h => h) rfl rfl (fun _ _ _ _ h => h) (fun _ _ _ _ h => h) (fun _ _ _ _ h => h) (by decide) ?_ ?_
  · rintro i1 x2 _ fr15 h16 hx21 ⟨f18, f19, f20, hS17⟩ f22 f23 oc4 hF7 hr8 Q9 hN10 hB14 hK11 hR12 hE13
    unfold spec_l11Log_b1 at hF7
    simp only [x54_2, run_seq, run_reg, f22, run_mv, f20, run_ia, put_at, put_no, ev_t, ev_c, reduceIte, Nat.reduceEqDiff, List.map_cons, List.map_nil]
    refine put1_eq (v := .ref (Row.cells x2) 0) (xia_lstN hx21 rfl) ?_
    simp only [run_ld, put_at, put_no, ev_t, ev_c, reduceIte, Nat.reduceEqDiff, List.map_cons, List.map_nil]
    refine put1_eq (v := .agg [.int .i64 x2.Epoch, .int .i64 x2.Value]) rfl ?_
    simp only [run_new, put_at, put_no, ev_t, ev_c, reduceIte, Nat.reduceEqDiff, List.map_cons, List.map_nil]
    refine put2_newC hS17 (fun b24 h25 hS26 => ?_)
    simp only [run_mv, run_st, put_at, put_no, ev_t, ev_c, reduceIte, Nat.reduceEqDiff, List.map_cons, List.map_nil]
    refine put2_stCx (us := [.int .i64 x2.Epoch, .int .i64 x2.Value]) rfl (cs' := [.int .i64 x2.Epoch,
        .int .i64 x2.Value]) hS26 hW rfl rfl (Nat.le_of_ble_eq_true rfl) rfl (fun h28 hS29 => ?_)
    simp only [put_no, run_ops_nil, put_at, ev_t, ev_c, reduceIte, Nat.reduceEqDiff, List.map_cons, List.map_nil]
    refine frz_stepC hS29 hW (by simp only [put_at, put_no, ev_t, ev_c, reduceIte, Nat.reduceEqDiff, List.map_cons, List.map_nil]) (fun h30 hS31 => ?_)
    simp only [run_frz_nil, x54_1, run_seq, run_draw, d4_fa, put1d_some, Nat.reduceAdd, Nat.zero_add, Nat.add_zero, xfa_ref, d4_ld, put_at, put_no, ev_t, ev_c, reduceIte,
        Nat.reduceEqDiff, List.map_cons, List.map_nil]
    refine put1d_eq (v := .int .i64 x2.Epoch) rfl ?_
    simp only [f19, d4_mv, put1d_some, run_d3_call, put_at, put_no, ev_t, ev_c, reduceIte, Nat.reduceEqDiff, List.map_cons, List.map_nil]
    refine call1d rfl (mapM1 snap_int (mapM1 snap_int (mapM1 snap_int mapM0))) (spec_l1In_x (fun b hb => decide_eq_true hb) x2.Epoch 0 epoch_1 _ rfl) ?_
    simp only [d4_un, put1d_some, xnot, d4_mv, put_at, put_no, ev_t, ev_c, reduceIte, Nat.reduceEqDiff, List.map_cons, List.map_nil]
    simp only [run_guardd (g := 19), put_at, put_no, ev_t, ev_c, reduceIte, Nat.reduceEqDiff, List.map_cons, List.map_nil]
    refine guardd_split (t := (!(spec_l1In x2.Epoch 0 epoch_1))) (fun hg32 => ?_) (fun hg32 => ?_)
    · rw [iteT hg32] at hF7
      simp only [hg32, run_guardd (g := 19), guardd_off', d4_pick, put1d_some, xpick_t, d4_mv, run_guardd (g := 25), run_guardd (g := 28), guardd_tup, run_draw_nil, run_cond,
          cond_true, run_seq, run_reg, run_mv, run_ops_nil, run_ret, put_at, put_no, ev_t, ev_c, reduceIte, Nat.reduceEqDiff, List.map_cons, List.map_nil]
      have e33 := some_inj hF7
      subst e33
      have ho34 := hr8 _ rfl
      have hk35 := hk6
      rw [ho34] at hk35
      dsimp only [jnO] at hk35
      apply hR12
      have he := some_inj hk35
      subst he
      simp only [end_ret1, put_at, put_no, ev_t, ev_c, reduceIte, Nat.reduceEqDiff, List.map_cons, List.map_nil]
      exact rfl
    · rw [iteF hg32] at hF7
      simp only [hg32, run_guardd (g := 19), guardd_false, d4_fa, put1d_some, Nat.reduceAdd, Nat.zero_add, Nat.add_zero, xfa_ref, d4_ld, put_at, put_no, ev_t, ev_c, reduceIte,
          Nat.reduceEqDiff, List.map_cons, List.map_nil]
      refine put1d_eq (v := .int .i64 x2.Value) rfl ?_
      simp only [hg32, run_guardd (g := 19), guardd_false, run_d3_call, put_at, put_no, ev_t, ev_c, reduceIte, Nat.reduceEqDiff, List.map_cons, List.map_nil]
      refine call1d rfl (mapM1 snap_int (mapM1 snap_int (mapM1 snap_int mapM0))) (spec_l1In_x (fun b hb => decide_eq_true hb) x2.Value 0 99 _ rfl) ?_
      simp only [hg32, run_guardd (g := 19), guardd_false, d4_un, put1d_some, xnot, d4_pick, xpick_f, d4_mv, put_at, put_no, ev_t, ev_c, reduceIte, Nat.reduceEqDiff,
          List.map_cons, List.map_nil]
      obtain ⟨v39, hx40, hF41⟩ := bind_some' hF7
      refine draw_j 14 (fun fr' h' => Sep h' h.length
          ([]) ∧ fr' 39 = .bool v39 ∧ fr' 0 = lst Row.cells l_0 ∧ fr' 1 = .int .i64 epoch_1 ∧ fr' 7 = lst Row.cells l_0 ∧ fr' 8 = .int .i64
          (List.length l_0 : Int) ∧ fr' 9 = .int .i64 (i1 : Int)) rfl (fun Q36 hN37 => ?_) ?_
      · simp only [List.take_succ_cons, List.take_zero]
        simp only [run_guardd (g := 25), put_at, put_no, ev_t, ev_c, reduceIte, Nat.reduceEqDiff, List.map_cons, List.map_nil]
        refine guardd_split (t := (!(spec_l1In x2.Value 0 99))) (fun hg38 => ?_) (fun hg38 => ?_)
        · rw [iteT hg38] at hx40
          simp only [hg38, run_guardd (g := 25), guardd_off', run_guardd (g := 28), guardd_tup, d4_pick, put1d_some, xpick_t, run_draw_nil, run_nil, put_at, put_no, ev_t, ev_c,
              reduceIte, Nat.reduceEqDiff, List.map_cons, List.map_nil]
          have e42 := some_inj hx40
          exact hN37 _ _ ⟨hS31, by rw [← e42]; simp only [put_at, put_no, ev_t, ev_c, reduceIte, Nat.reduceEqDiff, List.map_cons, List.map_nil], by simp only [f18, put_at, put_no,
              ev_t, ev_c, reduceIte, Nat.reduceEqDiff, List.map_cons, List.map_nil], by simp only [f19, put_at, put_no, ev_t, ev_c, reduceIte, Nat.reduceEqDiff, List.map_cons,
              List.map_nil], by simp only [f20, put_at, put_no, ev_t, ev_c, reduceIte, Nat.reduceEqDiff, List.map_cons, List.map_nil], by simp only [f23, put_at, put_no, ev_t,
              ev_c, reduceIte, Nat.reduceEqDiff, List.map_cons, List.map_nil], by simp only [f22, put_at, put_no, ev_t, ev_c, reduceIte, Nat.reduceEqDiff, List.map_cons,
              List.map_nil]⟩
        · rw [iteF hg38] at hx40
          simp only [hg38, run_guardd (g := 25), guardd_false, d4_mv, put1d_some, d4_bin, xgtr, put_at, put_no, ev_t, ev_c, reduceIte, Nat.reduceEqDiff, List.map_cons,
              List.map_nil]
          obtain ⟨v46, hx47, hF48⟩ := bind_some' hx40
          refine draw_j 10 (fun fr' h' => Sep h' h.length
              ([]) ∧ fr' 38 = .bool v46 ∧ fr' 0 = lst Row.cells l_0 ∧ fr' 1 = .int .i64 epoch_1 ∧ fr' 7 = lst Row.cells l_0 ∧ fr' 8 = .int .i64
              (List.length l_0 : Int) ∧ fr' 9 = .int .i64 (i1 : Int) ∧ fr' 25 = .bool (!(spec_l1In x2.Value 0 99))) rfl (fun Q43 hN44 => ?_) ?_
          · simp only [List.take_succ_cons, List.take_zero]
            simp only [run_guardd (g := 28), put_at, put_no, ev_t, ev_c, reduceIte, Nat.reduceEqDiff, List.map_cons, List.map_nil]
            refine guardd_split (t := (decide ((0 : Int) < (i1 : Int)))) (fun hg45 => ?_) (fun hg45 => ?_)
            · rw [iteT hg45] at hx47
              obtain ⟨x49, hx50, hF51⟩ := bind_some' hx47
              simp only [hg45, run_guardd (g := 28), guardd_true, f18, d4_mv, put1d_some, d4_bin, xsub, d4_ia, put_at, put_no, ev_t, ev_c, reduceIte, Nat.reduceEqDiff,
                  List.map_cons, List.map_nil]
              refine put1d_eq (v := .ref (Row.cells x49) 0) (xia_lst hx50 rfl) ?_
              simp only [hg45, run_guardd (g := 28), guardd_true, d4_fa, put1d_some, Nat.reduceAdd, Nat.zero_add, Nat.add_zero, xfa_ref, d4_ld, put_at, put_no, ev_t, ev_c,
                  reduceIte, Nat.reduceEqDiff, List.map_cons, List.map_nil]
              refine put1d_eq (v := .int .i64 x49.Epoch) rfl ?_
              simp only [hg45, run_guardd (g := 28), guardd_true, d4_fa, put1d_some, Nat.reduceAdd, Nat.zero_add, Nat.add_zero, xfa_ref, d4_ld, put_at, put_no, ev_t, ev_c,
                  reduceIte, Nat.reduceEqDiff, List.map_cons, List.map_nil]
              refine put1d_eq (v := .int .i64 x2.Epoch) rfl ?_
              simp only [hg45, run_guardd (g := 28), guardd_true, d4_bin, put1d_some, xgtr, hg38, run_guardd (g := 25), guardd_false, d4_pick, xpick_t, run_draw_nil, run_nil,
                  put_at, put_no, ev_t, ev_c, reduceIte, Nat.reduceEqDiff, List.map_cons, List.map_nil]
              have e52 := some_inj hF51
              exact hN44 _ _ ⟨hS31, by rw [← e52]; simp only [put_at, put_no, ev_t, ev_c, reduceIte, Nat.reduceEqDiff, List.map_cons, List.map_nil], by simp only [f18, put_at,
                  put_no, ev_t, ev_c, reduceIte, Nat.reduceEqDiff, List.map_cons, List.map_nil], by simp only [f19, put_at, put_no, ev_t, ev_c, reduceIte, Nat.reduceEqDiff,
                  List.map_cons, List.map_nil], by simp only [f20, put_at, put_no, ev_t, ev_c, reduceIte, Nat.reduceEqDiff, List.map_cons, List.map_nil], by simp only [f23,
                  put_at, put_no, ev_t, ev_c, reduceIte, Nat.reduceEqDiff, List.map_cons, List.map_nil], by simp only [f22, put_at, put_no, ev_t, ev_c, reduceIte,
                  Nat.reduceEqDiff, List.map_cons, List.map_nil], by simp only [hg38, put_at, put_no, ev_t, ev_c, reduceIte, Nat.reduceEqDiff, List.map_cons, List.map_nil]⟩
            · rw [iteF hg45] at hx47
              simp only [hg45, run_guardd (g := 28), guardd_off, hg38, run_guardd (g := 25), guardd_false, d4_pick, put1d_some, xpick_f, run_draw_nil, run_nil, put_at, put_no,
                  ev_t, ev_c, reduceIte, Nat.reduceEqDiff, List.map_cons, List.map_nil]
              have e53 := some_inj hx47
              exact hN44 _ _ ⟨hS31, by rw [← e53]; simp only [put_at, put_no, ev_t, ev_c, reduceIte, Nat.reduceEqDiff, List.map_cons, List.map_nil], by simp only [f18, put_at,
                  put_no, ev_t, ev_c, reduceIte, Nat.reduceEqDiff, List.map_cons, List.map_nil], by simp only [f19, put_at, put_no, ev_t, ev_c, reduceIte, Nat.reduceEqDiff,
                  List.map_cons, List.map_nil], by simp only [f20, put_at, put_no, ev_t, ev_c, reduceIte, Nat.reduceEqDiff, List.map_cons, List.map_nil], by simp only [f23,
                  put_at, put_no, ev_t, ev_c, reduceIte, Nat.reduceEqDiff, List.map_cons, List.map_nil], by simp only [f22, put_at, put_no, ev_t, ev_c, reduceIte,
                  Nat.reduceEqDiff, List.map_cons, List.map_nil], by simp only [hg38, put_at, put_no, ev_t, ev_c, reduceIte, Nat.reduceEqDiff, List.map_cons, List.map_nil]⟩
          · rintro fr54 h62 ⟨hS63, f55, f56, f57, f58, f59, f60, f61⟩
            simp only [List.drop_succ_cons, List.drop_zero]
            simp only [f61, hg38, d4_pick, put1d_some, xpick_f, f55, run_draw_nil, run_nil, put_at, put_no, ev_t, ev_c, reduceIte, Nat.reduceEqDiff, List.map_cons, List.map_nil]
            have e64 := some_inj hF48
            exact hN37 _ _ ⟨hS63, by rw [← e64]; simp only [put_at, put_no, ev_t, ev_c, reduceIte, Nat.reduceEqDiff, List.map_cons, List.map_nil], by simp only [f56, put_at,
                put_no, ev_t, ev_c, reduceIte, Nat.reduceEqDiff, List.map_cons, List.map_nil], by simp only [f57, put_at, put_no, ev_t, ev_c, reduceIte, Nat.reduceEqDiff,
                List.map_cons, List.map_nil], by simp only [f58, put_at, put_no, ev_t, ev_c, reduceIte, Nat.reduceEqDiff, List.map_cons, List.map_nil], by simp only [f59, put_at,
                put_no, ev_t, ev_c, reduceIte, Nat.reduceEqDiff, List.map_cons, List.map_nil], by simp only [f60, put_at, put_no, ev_t, ev_c, reduceIte, Nat.reduceEqDiff,
                List.map_cons, List.map_nil]⟩
      · rintro fr65 h72 ⟨hS73, f66, f67, f68, f69, f70, f71⟩
        simp only [List.drop_succ_cons, List.drop_zero]
        simp only [run_draw_nil, f66, run_cond, put_at, put_no, ev_t, ev_c, reduceIte, Nat.reduceEqDiff, List.map_cons, List.map_nil]
        refine cond_split (t := v39) (fun hc74 => ?_) (fun hc74 => ?_)
        · rw [iteT hc74] at hF41
          simp only [run_seq, run_reg, run_mv, run_ops_nil, run_ret, put_at, put_no, ev_t, ev_c, reduceIte, Nat.reduceEqDiff, List.map_cons, List.map_nil]
          have e75 := some_inj hF41
          subst e75
          have ho76 := hr8 _ rfl
          have hk77 := hk6
          rw [ho76] at hk77
          dsimp only [jnO] at hk77
          apply hR12
          have he := some_inj hk77
          subst he
          simp only [end_ret1, put_at, put_no, ev_t, ev_c, reduceIte, Nat.reduceEqDiff, List.map_cons, List.map_nil]
          exact rfl
        · rw [iteF hc74] at hF41
          simp only [run_skip, run_nil, put_at, put_no, ev_t, ev_c, reduceIte, Nat.reduceEqDiff, List.map_cons, List.map_nil]
          have e78 := some_inj hF41
          exact hN10 _ _ _ e78.symm ⟨by simp only [f67, put_at, put_no, ev_t, ev_c, reduceIte, Nat.reduceEqDiff, List.map_cons, List.map_nil], by simp only [f68, put_at, put_no,
              ev_t, ev_c, reduceIte, Nat.reduceEqDiff, List.map_cons, List.map_nil], by simp only [f69, put_at, put_no, ev_t, ev_c, reduceIte, Nat.reduceEqDiff, List.map_cons,
              List.map_nil], hS73⟩ (by simp only [f71, put_at, put_no, ev_t, ev_c, reduceIte, Nat.reduceEqDiff, List.map_cons, List.map_nil]) (by simp only [f70, put_at, put_no,
              ev_t, ev_c, reduceIte, Nat.reduceEqDiff, List.map_cons, List.map_nil])
  · rintro _ fr80 h81 rfl ⟨f83, f84, f85, hS82⟩
    dsimp only [jnO] at hk6
    unfold spec_l11Log_j1 at hk6
    simp only [x54_5, run_seq, run_reg, f83, run_mv, run_len, put1_some, xlen_lst, run_bin, xleq, run_ops_nil, run_ret, put_at, put_no, ev_t, ev_c, reduceIte, Nat.reduceEqDiff,
        List.map_cons, List.map_nil]
    have he := some_inj hk6
    subst he
    simp only [end_ret1, put_at, put_no, ev_t, ev_c, reduceIte, Nat.reduceEqDiff, List.map_cons, List.map_nil]
    exact rfl
theorem spec_l17Thinks_x {W : Nat → Bool} {h : Heap} (hW : ∀ b,
    h.length ≤ b → W b = true) (c_0 : Cluster) (k_1 : Int) (r : Bool) (hF : spec_l17Thinks c_0 k_1 = some r) : Ret E W 60 [.agg [.int .i64 c_0.Truth.Epoch,
    .int .i64 c_0.Truth.Leader, lst cI c_0.Truth.InStep, lst Node.cells c_0.Nodes, lst Row.cells c_0.Acked],
    .int .i64 k_1] h (fun v h' => cut h.length h' E.sz false 9 v = some (.bool r)) := by
  refine Ret.of (fn := x60) rfl (Run.of ?_)
  unfold spec_l17Thinks at hF
  have zf0 : argFr [.agg [.int .i64 c_0.Truth.Epoch, .int .i64 c_0.Truth.Leader, lst cI c_0.Truth.InStep, lst Node.cells c_0.Nodes, lst Row.cells c_0.Acked],
      .int .i64 k_1] 0 = .agg [.int .i64 c_0.Truth.Epoch, .int .i64 c_0.Truth.Leader, lst cI c_0.Truth.InStep, lst Node.cells c_0.Nodes, lst Row.cells c_0.Acked] := rfl
  have zf1 : argFr [.agg [.int .i64 c_0.Truth.Epoch, .int .i64 c_0.Truth.Leader, lst cI c_0.Truth.InStep, lst Node.cells c_0.Nodes, lst Row.cells c_0.Acked],
      .int .i64 k_1] 1 = .int .i64 k_1 := rfl
  generalize argFr [.agg [.int .i64 c_0.Truth.Epoch, .int .i64 c_0.Truth.Leader, lst cI c_0.Truth.InStep, lst Node.cells c_0.Nodes, lst Row.cells c_0.Acked],
      .int .i64 k_1] = fr0 at zf0 zf1 ⊢
  have hS : Sep h h.length [] := Sep.nil h
  simp only [x60, run_seq, run_reg, run_box, zf0, put_at, put_no, ev_t, ev_c, reduceIte, Nat.reduceEqDiff, List.map_cons, List.map_nil]
  refine put2_boxC (cs := [.int .i64 c_0.Truth.Epoch, .int .i64 c_0.Truth.Leader, lst cI c_0.Truth.InStep, lst Node.cells c_0.Nodes,
      lst Row.cells c_0.Acked]) hS rfl rfl rfl (fun b1 h2 hS3 => ?_)
  simp only [run_mv, run_ops_nil, put_at, put_no, ev_t, ev_c, reduceIte, Nat.reduceEqDiff, List.map_cons, List.map_nil]
  refine frz_stepC hS3 hW (by simp only [put_at, put_no, ev_t, ev_c, reduceIte, Nat.reduceEqDiff, List.map_cons, List.map_nil]) (fun h5 hS6 => ?_)
  simp only [run_frz_nil, x60_1, run_seq, run_reg, run_fa, put1_some, Nat.reduceAdd, Nat.zero_add, Nat.add_zero, xfa_ref, run_ld, put_at, put_no, ev_t, ev_c, reduceIte,
      Nat.reduceEqDiff, List.map_cons, List.map_nil]
  refine put1_eq (v := lst Node.cells c_0.Nodes) rfl ?_
  obtain ⟨x7, hx8, hF9⟩ := bind_some' hF
  simp only [zf1, run_mv, run_ia, put_at, put_no, ev_t, ev_c, reduceIte, Nat.reduceEqDiff, List.map_cons, List.map_nil]
  refine put1_eq (v := .ref (Node.cells x7) 0) (xia_lst hx8 rfl) ?_
  simp only [run_fa, put1_some, Nat.reduceAdd, Nat.zero_add, Nat.add_zero, xfa_ref, run_ld, put_at, put_no, ev_t, ev_c, reduceIte, Nat.reduceEqDiff, List.map_cons, List.map_nil]
  refine put1_eq (v := .int .i64 x7.View.Leader) rfl ?_
  simp only [zf1, run_mv, run_bin, put1_some, xeql, run_ops_nil, run_ret, put_at, put_no, ev_t, ev_c, reduceIte, Nat.reduceEqDiff, List.map_cons, List.map_nil]
  have he := some_inj hF9
  subst he
  simp only [end_ret1, put_at, put_no, ev_t, ev_c, reduceIte, Nat.reduceEqDiff, List.map_cons, List.map_nil]
  exact rfl
theorem spec_l11Same_x {W : Nat → Bool} {h : Heap} (hW : ∀ b,
    h.length ≤ b → W b = true) (k : Nat) (a_0 : List Row) (b_1 : List Row) (r : Int) (hF : spec_l11Same k a_0 b_1 = some r) : Ret E W 74 [lst Row.cells a_0,
    lst Row.cells b_1] h (fun v h' => cut h.length h' E.sz false 9 v = some (.int .i64 r)) := by
  refine Ret.of (fn := x74) rfl (Run.of ?_)
  unfold spec_l11Same at hF
  have zf0 : argFr [lst Row.cells a_0, lst Row.cells b_1] 0 = lst Row.cells a_0 := rfl
  have zf1 : argFr [lst Row.cells a_0, lst Row.cells b_1] 1 = lst Row.cells b_1 := rfl
  generalize argFr [lst Row.cells a_0, lst Row.cells b_1] = fr0 at zf0 zf1 ⊢
  have hS : Sep h h.length [] := Sep.nil h
  simp only [x74, run_seq, run_reg, run_mv, run_ops_nil, x74_4, x74_3, put_at, put_no, ev_t, ev_c, reduceIte, Nat.reduceEqDiff, List.map_cons, List.map_nil]
  obtain ⟨oc5, hX7, hk8⟩ := jn_some hF
  simp only [x74_2]
  refine loopF_j (σ := Int) (fun s58 => spec_l11Same_b1 a_0 b_1 s58)
      (fun s fr' h' => fr' 0 = lst Row.cells a_0 ∧ fr' 1 = lst Row.cells b_1 ∧ fr' 5 = .int .i64 s ∧ Sep h' h.length ([])) hX7 ⟨by simp only [zf0, put_at, put_no, ev_t, ev_c,
      reduceIte, Nat.reduceEqDiff, List.map_cons, List.map_nil], by simp only [zf1, put_at, put_no, ev_t, ev_c, reduceIte, Nat.reduceEqDiff, List.map_cons, List.map_nil],
      by simp only [put_at, put_no, ev_t, ev_c, reduceIte, Nat.reduceEqDiff, List.map_cons, List.map_nil], hS⟩ (fun _ _ _ h => h) ?_ ?_
  · rintro s2 fr17 h18 ⟨f20, f21, f22, hS19⟩ oc6 hF9 hr10 Q11 hN12 hK13 hR14 hE15
    unfold spec_l11Same_b1 at hF9
    simp only [x74_1, run_seq, run_draw, f22, d4_mv, put1d_some, f20, d4_len, xlen_lst, d4_bin, xlss, put_at, put_no, ev_t, ev_c, reduceIte, Nat.reduceEqDiff, List.map_cons,
        List.map_nil]
    refine draw_j 5 (fun fr' h' => Sep h' h.length ([]) ∧ fr' 15 = .bool ((decide (s2 < (List.length a_0 : Int))) && (decide (s2 <
        (List.length b_1 : Int)))) ∧ fr' 0 = lst Row.cells a_0 ∧ fr' 1 = lst Row.cells b_1 ∧ fr' 5 = .int .i64 s2) rfl (fun Q24 hN25 => ?_) ?_
    · simp only [List.take_succ_cons, List.take_zero]
      simp only [run_guardd (g := 10), put_at, put_no, ev_t, ev_c, reduceIte, Nat.reduceEqDiff, List.map_cons, List.map_nil]
      refine guardd_split (t := (decide (s2 < (List.length a_0 : Int)))) (fun hg26 => ?_) (fun hg26 => ?_)
      · simp only [hg26, run_guardd (g := 10), guardd_true, f22, d4_mv, put1d_some, f21, d4_len, xlen_lst, d4_bin, xlss, d4_pick, xpick_t, run_draw_nil, run_nil, put_at, put_no,
          ev_t, ev_c, reduceIte, Nat.reduceEqDiff, List.map_cons, List.map_nil]
        exact hN25 _ _ ⟨hS19, by rw [andT hg26]; simp only [put_at, put_no, ev_t, ev_c, reduceIte, Nat.reduceEqDiff, List.map_cons, List.map_nil], by simp only [f20, put_at,
            put_no, ev_t, ev_c, reduceIte, Nat.reduceEqDiff, List.map_cons, List.map_nil], by simp only [f21, put_at, put_no, ev_t, ev_c, reduceIte, Nat.reduceEqDiff,
            List.map_cons, List.map_nil], by simp only [f22, put_at, put_no, ev_t, ev_c, reduceIte, Nat.reduceEqDiff, List.map_cons, List.map_nil]⟩
      · simp only [hg26, run_guardd (g := 10), guardd_off, d4_pick, put1d_some, xpick_f, run_draw_nil, run_nil, put_at, put_no, ev_t, ev_c, reduceIte, Nat.reduceEqDiff,
          List.map_cons, List.map_nil]
        exact hN25 _ _ ⟨hS19, by rw [andF hg26]; simp only [put_at, put_no, ev_t, ev_c, reduceIte, Nat.reduceEqDiff, List.map_cons, List.map_nil], by simp only [f20, put_at,
            put_no, ev_t, ev_c, reduceIte, Nat.reduceEqDiff, List.map_cons, List.map_nil], by simp only [f21, put_at, put_no, ev_t, ev_c, reduceIte, Nat.reduceEqDiff,
            List.map_cons, List.map_nil], by simp only [f22, put_at, put_no, ev_t, ev_c, reduceIte, Nat.reduceEqDiff, List.map_cons, List.map_nil]⟩
    · rintro fr27 h32 ⟨hS33, f28, f29, f30, f31⟩
      simp only [List.drop_succ_cons, List.drop_zero]
      simp only [f28, d4_mv, put1d_some, put_at, put_no, ev_t, ev_c, reduceIte, Nat.reduceEqDiff, List.map_cons, List.map_nil]
      obtain ⟨v37, hx38, hF39⟩ := bind_some' hF9
      refine draw_j 10 (fun fr' h' => Sep h' h.length ([]) ∧ fr' 26 = .bool v37 ∧ fr' 0 = lst Row.cells a_0 ∧ fr' 1 = lst Row.cells b_1 ∧ fr' 5 = .int .i64 s2) rfl
          (fun Q34 hN35 => ?_) ?_
      · simp only [List.take_succ_cons, List.take_zero]
        simp only [run_guardd (g := 16), put_at, put_no, ev_t, ev_c, reduceIte, Nat.reduceEqDiff, List.map_cons, List.map_nil]
        refine guardd_split (t := ((decide (s2 < (List.length a_0 : Int))) && (decide (s2 < (List.length b_1 : Int))))) (fun hg36 => ?_) (fun hg36 => ?_)
        · rw [iteT hg36] at hx38
          obtain ⟨x40, hx41, hF42⟩ := bind_some' hx38
          simp only [hg36, run_guardd (g := 16), guardd_true, f29, d4_mv, put1d_some, f31, d4_ia, put_at, put_no, ev_t, ev_c, reduceIte, Nat.reduceEqDiff, List.map_cons,
              List.map_nil]
          refine put1d_eq (v := .ref (Row.cells x40) 0) (xia_lst hx41 rfl) ?_
          simp only [hg36, run_guardd (g := 16), guardd_true, d4_ld, put_at, put_no, ev_t, ev_c, reduceIte, Nat.reduceEqDiff, List.map_cons, List.map_nil]
          refine put1d_eq (v := .agg [.int .i64 x40.Epoch, .int .i64 x40.Value]) rfl ?_
          obtain ⟨x43, hx44, hF45⟩ := bind_some' hF42
          simp only [hg36, run_guardd (g := 16), guardd_true, f30, d4_mv, put1d_some, f31, d4_ia, put_at, put_no, ev_t, ev_c, reduceIte, Nat.reduceEqDiff, List.map_cons,
              List.map_nil]
          refine put1d_eq (v := .ref (Row.cells x43) 0) (xia_lst hx44 rfl) ?_
          simp only [hg36, run_guardd (g := 16), guardd_true, d4_ld, put_at, put_no, ev_t, ev_c, reduceIte, Nat.reduceEqDiff, List.map_cons, List.map_nil]
          refine put1d_eq (v := .agg [.int .i64 x43.Epoch, .int .i64 x43.Value]) rfl ?_
          simp only [hg36, run_guardd (g := 16), guardd_true, d4_eqs, put_at, put_no, ev_t, ev_c, reduceIte, Nat.reduceEqDiff, List.map_cons, List.map_nil]
          refine put1d_eq (v := .bool ((x40.Epoch == x43.Epoch) && ((x40.Value == x43.Value) && true))) rfl ?_
          simp only [hg36, d4_pick, put1d_some, xpick_t, run_draw_nil, run_nil, put_at, put_no, ev_t, ev_c, reduceIte, Nat.reduceEqDiff, List.map_cons, List.map_nil]
          have e46 := some_inj hF45
          exact hN35 _ _ ⟨hS33, by rw [← e46]; simp only [put_at, put_no, ev_t, ev_c, reduceIte, Nat.reduceEqDiff, List.map_cons, List.map_nil], by simp only [f29, put_at, put_no,
              ev_t, ev_c, reduceIte, Nat.reduceEqDiff, List.map_cons, List.map_nil], by simp only [f30, put_at, put_no, ev_t, ev_c, reduceIte, Nat.reduceEqDiff, List.map_cons,
              List.map_nil], by simp only [f31, put_at, put_no, ev_t, ev_c, reduceIte, Nat.reduceEqDiff, List.map_cons, List.map_nil]⟩
        · rw [iteF hg36] at hx38
          simp only [hg36, run_guardd (g := 16), guardd_off, d4_pick, put1d_some, xpick_f, run_draw_nil, run_nil, put_at, put_no, ev_t, ev_c, reduceIte, Nat.reduceEqDiff,
              List.map_cons, List.map_nil]
          have e47 := some_inj hx38
          exact hN35 _ _ ⟨hS33, by rw [← e47]; simp only [put_at, put_no, ev_t, ev_c, reduceIte, Nat.reduceEqDiff, List.map_cons, List.map_nil], by simp only [f29, put_at, put_no,
              ev_t, ev_c, reduceIte, Nat.reduceEqDiff, List.map_cons, List.map_nil], by simp only [f30, put_at, put_no, ev_t, ev_c, reduceIte, Nat.reduceEqDiff, List.map_cons,
              List.map_nil], by simp only [f31, put_at, put_no, ev_t, ev_c, reduceIte, Nat.reduceEqDiff, List.map_cons, List.map_nil]⟩
      · rintro fr48 h53 ⟨hS54, f49, f50, f51, f52⟩
        simp only [List.drop_succ_cons, List.drop_zero]
        simp only [run_draw_nil, f49, run_cond, put_at, put_no, ev_t, ev_c, reduceIte, Nat.reduceEqDiff, List.map_cons, List.map_nil]
        refine cond_split (t := v37) (fun hc55 => ?_) (fun hc55 => ?_)
        · rw [iteT hc55] at hF39
          simp only [run_skip, run_block, run_reg, f52, run_mv, run_bin, put1_some, xadd, run_ops_nil, run_blk, run_nil, put_at, put_no, ev_t, ev_c, reduceIte, Nat.reduceEqDiff,
              List.map_cons, List.map_nil]
          have e56 := some_inj hF39
          exact hN12 _ _ _ e56.symm ⟨by simp only [f50, put_at, put_no, ev_t, ev_c, reduceIte, Nat.reduceEqDiff, List.map_cons, List.map_nil], by simp only [f51, put_at, put_no,
              ev_t, ev_c, reduceIte, Nat.reduceEqDiff, List.map_cons, List.map_nil], by simp only [put_at, put_no, ev_t, ev_c, reduceIte, Nat.reduceEqDiff, List.map_cons,
              List.map_nil], hS54⟩
        · rw [iteF hc55] at hF39
          simp only [run_exit, out_code, out_nil, put_at, put_no, ev_t, ev_c, reduceIte, Nat.reduceEqDiff, List.map_cons, List.map_nil]
          have e57 := some_inj hF39
          exact hK13 _ _ _ e57.symm ⟨by simp only [f50, put_at, put_no, ev_t, ev_c, reduceIte, Nat.reduceEqDiff, List.map_cons, List.map_nil], by simp only [f51, put_at, put_no,
              ev_t, ev_c, reduceIte, Nat.reduceEqDiff, List.map_cons, List.map_nil], by simp only [f52, put_at, put_no, ev_t, ev_c, reduceIte, Nat.reduceEqDiff, List.map_cons,
              List.map_nil], hS54⟩
  · rintro s59 fr60 h61 rfl ⟨f63, f64, f65, hS62⟩
    dsimp only [jnO] at hk8
    unfold spec_l11Same_j1 at hk8
    simp only [run_seq, run_reg, f65, run_mv, run_ops_nil, run_ret, put_at, put_no, ev_t, ev_c, reduceIte, Nat.reduceEqDiff, List.map_cons, List.map_nil]
    have he := some_inj hk8
    subst he
    simp only [end_ret1, put_at, put_no, ev_t, ev_c, reduceIte, Nat.reduceEqDiff, List.map_cons, List.map_nil]
    exact rfl
end Go.Proofs.Ytohofoampalhoaa.X
