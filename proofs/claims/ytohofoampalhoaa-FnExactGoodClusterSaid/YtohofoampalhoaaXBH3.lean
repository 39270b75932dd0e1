/- The functions' code comes to what the plain functions say (3). -/
import Derived.Test.YtohofoampalhoaaXBH2
set_option linter.unusedVariables false
set_option linter.unusedSimpArgs false
set_option maxRecDepth 100000
namespace Go.Proofs.Ytohofoampalhoaa.X
open Go
theorem spec_GoodCluster_x {W : Nat → Bool} {h : Heap} (hW : ∀ b,
    h.length ≤ b → W b = true) (k : Nat) (c_0 : Cluster) (r : Bool) (hF : spec_GoodCluster k c_0 = some r) : Ret E W 15 [.agg [.int .i64 c_0.Truth.Epoch,
    .int .i64 c_0.Truth.Leader, lst cI c_0.Truth.InStep, lst Node.cells c_0.Nodes, lst Row.cells c_0.Acked]] h (fun v h' => cut h.length h' E.sz false 9 v = some (.bool r)) := by
  refine Ret.of (fn := x15) rfl (Run.of ?_)
  unfold spec_GoodCluster at hF
  have zf0 : argFr [.agg [.int .i64 c_0.Truth.Epoch, .int .i64 c_0.Truth.Leader, lst cI c_0.Truth.InStep, lst Node.cells c_0.Nodes,
      lst Row.cells c_0.Acked]] 0 = .agg [.int .i64 c_0.Truth.Epoch, .int .i64 c_0.Truth.Leader, lst cI c_0.Truth.InStep, lst Node.cells c_0.Nodes, lst Row.cells c_0.Acked] := rfl
  generalize argFr [.agg [.int .i64 c_0.Truth.Epoch, .int .i64 c_0.Truth.Leader, lst cI c_0.Truth.InStep, lst Node.cells c_0.Nodes, lst Row.cells c_0.Acked]] = fr0 at zf0 ⊢
  have hS : Sep h h.length [] := Sep.nil h
  simp only [x15, run_seq, run_reg, run_box, zf0, put_at, put_no, ev_t, ev_c, reduceIte, Nat.reduceEqDiff, List.map_cons, List.map_nil]
  refine put2_boxC (cs := [.int .i64 c_0.Truth.Epoch, .int .i64 c_0.Truth.Leader, lst cI c_0.Truth.InStep, lst Node.cells c_0.Nodes,
      lst Row.cells c_0.Acked]) hS rfl rfl rfl (fun b1 h2 hS3 => ?_)
  simp only [run_mv, run_ops_nil, put_at, put_no, ev_t, ev_c, reduceIte, Nat.reduceEqDiff, List.map_cons, List.map_nil]
  refine frz_stepC hS3 hW (by simp only [put_at, put_no, ev_t, ev_c, reduceIte, Nat.reduceEqDiff, List.map_cons, List.map_nil]) (fun h5 hS6 => ?_)
  simp only [run_frz_nil, x15_7, run_seq, run_reg, run_fa, put1_some, Nat.reduceAdd, Nat.zero_add, Nat.add_zero, xfa_ref, run_ld, put_at, put_no, ev_t, ev_c, reduceIte,
      Nat.reduceEqDiff, List.map_cons, List.map_nil]
  refine put1_eq (v := lst Node.cells c_0.Nodes) rfl ?_
  simp only [run_len, put1_some, xlen_lst, run_mv, run_ops_nil, x15_6, run_seq, run_reg, run_call, put_at, put_no, ev_t, ev_c, reduceIte, Nat.reduceEqDiff, List.map_cons,
      List.map_nil]
  refine call1 rfl (mapM1 snap_int (mapM1 snap_int (mapM1 snap_int mapM0))) (spec_l1In_x (fun b hb => decide_eq_true hb) (List.length c_0.Nodes : Int) 2 4 _ rfl) ?_
  simp only [run_un, put1_some, xnot, run_mv, put_at, put_no, ev_t, ev_c, reduceIte, Nat.reduceEqDiff, List.map_cons, List.map_nil]
  obtain ⟨v10, hx11, hF12⟩ := bind_some' hF
  refine ops_j 6 (fun fr' h' => Sep h' h.length ([]) ∧ fr' 17 = .bool v10 ∧ fr' 1 = .ref [.int .i64 c_0.Truth.Epoch, .int .i64 c_0.Truth.Leader, lst cI c_0.Truth.InStep,
      lst Node.cells c_0.Nodes, lst Row.cells c_0.Acked] 0) (fun Q7 hN8 => ?_) ?_
  · simp only [List.take_succ_cons, List.take_zero]
    simp only [run_guard (g := 11), put_at, put_no, ev_t, ev_c, reduceIte, Nat.reduceEqDiff, List.map_cons, List.map_nil]
    refine guard_split (t := (!(spec_l1In (List.length c_0.Nodes : Int) 2 4))) (fun hg9 => ?_) (fun hg9 => ?_)
    · rw [iteT hg9] at hx11
      simp only [hg9, run_guard (g := 11), guard_off', run_pick, put1_some, xpick_t, run_ops_nil, run_nil, put_at, put_no, ev_t, ev_c, reduceIte, Nat.reduceEqDiff, List.map_cons,
          List.map_nil]
      have e13 := some_inj hx11
      exact hN8 _ _ ⟨hS6, by rw [← e13]; simp only [put_at, put_no, ev_t, ev_c, reduceIte, Nat.reduceEqDiff, List.map_cons, List.map_nil], by simp only [put_at, put_no, ev_t,
          ev_c, reduceIte, Nat.reduceEqDiff, List.map_cons, List.map_nil]⟩
    · rw [iteF hg9] at hx11
      simp only [hg9, run_guard (g := 11), guard_false, run_fa, put1_some, Nat.reduceAdd, Nat.zero_add, Nat.add_zero, xfa_ref, run_ld, put_at, put_no, ev_t, ev_c, reduceIte,
          Nat.reduceEqDiff, List.map_cons, List.map_nil]
      refine put1_eq (v := .agg [.int .i64 c_0.Truth.Epoch, .int .i64 c_0.Truth.Leader, lst cI c_0.Truth.InStep]) rfl ?_
      obtain ⟨v14, hx15, hF16⟩ := bind_some' hx11
      simp only [hg9, run_guard (g := 11), guard_false, run_mv, run_call, put_at, put_no, ev_t, ev_c, reduceIte, Nat.reduceEqDiff, List.map_cons, List.map_nil]
      refine call1 rfl (mapM1 (snap_agg (mapM1 snap_int (mapM1 snap_int (mapM1 snap_lst mapM0)))) (mapM1 snap_int mapM0)) (spec_l17View_x
          (fun b hb => decide_eq_true hb) c_0.Truth (List.length c_0.Nodes : Int) v14 hx15) ?_
      simp only [hg9, run_guard (g := 11), guard_false, run_un, put1_some, xnot, run_pick, xpick_f, run_ops_nil, run_nil, put_at, put_no, ev_t, ev_c, reduceIte, Nat.reduceEqDiff,
          List.map_cons, List.map_nil]
      have e17 := some_inj hF16
      exact hN8 _ _ ⟨hS6, by rw [← e17]; simp only [put_at, put_no, ev_t, ev_c, reduceIte, Nat.reduceEqDiff, List.map_cons, List.map_nil], by simp only [put_at, put_no, ev_t,
          ev_c, reduceIte, Nat.reduceEqDiff, List.map_cons, List.map_nil]⟩
  · rintro fr18 h21 ⟨hS22, f19, f20⟩
    simp only [List.drop_succ_cons, List.drop_zero]
    simp only [f19, run_mv, put_at, put_no, ev_t, ev_c, reduceIte, Nat.reduceEqDiff, List.map_cons, List.map_nil]
    obtain ⟨v26, hx27, hF28⟩ := bind_some' hF12
    refine ops_j 5 (fun fr' h' => Sep h' h.length ([]) ∧ fr' 23 = .bool v26 ∧ fr' 1 = .ref [.int .i64 c_0.Truth.Epoch, .int .i64 c_0.Truth.Leader, lst cI c_0.Truth.InStep,
        lst Node.cells c_0.Nodes, lst Row.cells c_0.Acked] 0) (fun Q23 hN24 => ?_) ?_
    · simp only [List.take_succ_cons, List.take_zero]
      simp only [run_guard (g := 18), put_at, put_no, ev_t, ev_c, reduceIte, Nat.reduceEqDiff, List.map_cons, List.map_nil]
      refine guard_split (t := v10) (fun hg25 => ?_) (fun hg25 => ?_)
      · rw [iteT hg25] at hx27
        simp only [hg25, run_guard (g := 18), guard_off', run_pick, put1_some, xpick_t, run_ops_nil, run_nil, put_at, put_no, ev_t, ev_c, reduceIte, Nat.reduceEqDiff,
            List.map_cons, List.map_nil]
        have e29 := some_inj hx27
        exact hN24 _ _ ⟨hS22, by rw [← e29]; simp only [put_at, put_no, ev_t, ev_c, reduceIte, Nat.reduceEqDiff, List.map_cons, List.map_nil], by simp only [f20, put_at, put_no,
            ev_t, ev_c, reduceIte, Nat.reduceEqDiff, List.map_cons, List.map_nil]⟩
      · rw [iteF hg25] at hx27
        simp only [hg25, run_guard (g := 18), guard_false, f20, run_fa, put1_some, Nat.reduceAdd, Nat.zero_add, Nat.add_zero, xfa_ref, run_ld, put_at, put_no, ev_t, ev_c,
            reduceIte, Nat.reduceEqDiff, List.map_cons, List.map_nil]
        refine put1_eq (v := lst Row.cells c_0.Acked) rfl ?_
        obtain ⟨v30, hx31, hF32⟩ := bind_some' hx27
        simp only [hg25, run_guard (g := 18), guard_false, run_call, put_at, put_no, ev_t, ev_c, reduceIte, Nat.reduceEqDiff, List.map_cons, List.map_nil]
        refine call1 rfl (mapM1 snap_lst (mapM1 snap_int mapM0)) (spec_l11Log_x (fun b hb => decide_eq_true hb) c_0.Acked 100 v30 hx31) ?_
        simp only [hg25, run_guard (g := 18), guard_false, run_un, put1_some, xnot, run_pick, xpick_f, run_ops_nil, run_nil, put_at, put_no, ev_t, ev_c, reduceIte,
            Nat.reduceEqDiff, List.map_cons, List.map_nil]
        have e33 := some_inj hF32
        exact hN24 _ _ ⟨hS22, by rw [← e33]; simp only [put_at, put_no, ev_t, ev_c, reduceIte, Nat.reduceEqDiff, List.map_cons, List.map_nil], by simp only [f20, put_at, put_no,
            ev_t, ev_c, reduceIte, Nat.reduceEqDiff, List.map_cons, List.map_nil]⟩
    · rintro fr34 h37 ⟨hS38, f35, f36⟩
      simp only [List.drop_succ_cons, List.drop_zero]
      simp only [run_ops_nil, f35, run_cond, put_at, put_no, ev_t, ev_c, reduceIte, Nat.reduceEqDiff, List.map_cons, List.map_nil]
      refine cond_split (t := v26) (fun hc39 => ?_) (fun hc39 => ?_)
      · rw [iteT hc39] at hF28
        simp only [run_seq, run_reg, run_mv, run_ops_nil, run_ret, put_at, put_no, ev_t, ev_c, reduceIte, Nat.reduceEqDiff, List.map_cons, List.map_nil]
        have he := some_inj hF28
        subst he
        simp only [end_ret1, put_at, put_no, ev_t, ev_c, reduceIte, Nat.reduceEqDiff, List.map_cons, List.map_nil]
        exact rfl
      · rw [iteF hc39] at hF28
        simp only [run_skip, x15_5, run_seq, run_reg, f36, run_fa, put1_some, Nat.reduceAdd, Nat.zero_add, Nat.add_zero, xfa_ref, run_ld, put_at, put_no, ev_t, ev_c, reduceIte,
            Nat.reduceEqDiff, List.map_cons, List.map_nil]
        refine put1_eq (v := lst Node.cells c_0.Nodes) rfl ?_
        simp only [run_len, put1_some, xlen_lst, run_mv, run_ops_nil, put_at, put_no, ev_t, ev_c, reduceIte, Nat.reduceEqDiff, List.map_cons, List.map_nil]
        obtain ⟨oc42, hX44, hk45⟩ := jn_some hF28
        simp only [x15_4]
        refine rangeN_j (σ := Unit) (fun i40 _ => spec_GoodCluster_b1 k c_0 i40 ) (fun s fr' h' => fr' 1 = .ref [.int .i64 c_0.Truth.Epoch, .int .i64 c_0.Truth.Leader,
            lst cI c_0.Truth.InStep, lst Node.cells c_0.Nodes, lst Row.cells c_0.Acked] 0 ∧ Sep h' h.length ([])) hX44 ⟨by simp only [f36, put_at, put_no, ev_t, ev_c, reduceIte,
            Nat.reduceEqDiff, List.map_cons, List.map_nil], hS38⟩ (by simp only [put_at, put_no, ev_t, ev_c, reduceIte, Nat.reduceEqDiff, List.map_cons,
            List.map_nil]) (by simp only [put_at, put_no, ev_t, ev_c, reduceIte, Nat.reduceEqDiff, List.map_cons,
            List.map_nil]) (fun _ _ _ h => h) rfl rfl (fun _ _ _ _ h => h) (fun _ _ _ _ h => h) (fun _ _ _ _ h => h) (by decide) ?_ ?_
        · rintro i40 _ fr54 h55 hx58 ⟨f57, hS56⟩ f59 f60 oc43 hF46 hr47 Q48 hN49 hB53 hK50 hR51 hE52
          unfold spec_GoodCluster_b1 at hF46
          simp only [x15_2, run_seq, run_reg, f59, run_mv, run_ops_nil, x15_1, f57, run_ld, put_at, put_no, ev_t, ev_c, reduceIte, Nat.reduceEqDiff, List.map_cons, List.map_nil]
          refine put1_eq (v := .agg [.int .i64 c_0.Truth.Epoch, .int .i64 c_0.Truth.Leader, lst cI c_0.Truth.InStep, lst Node.cells c_0.Nodes, lst Row.cells c_0.Acked]) rfl ?_
          obtain ⟨v61, hx62, hF63⟩ := bind_some' hF46
          simp only [run_mv, run_call, put_at, put_no, ev_t, ev_c, reduceIte, Nat.reduceEqDiff, List.map_cons, List.map_nil]
          refine call1 rfl (mapM1 (snap_agg (mapM1 snap_int (mapM1 snap_int (mapM1 snap_lst (mapM1 snap_lst (mapM1 snap_lst mapM0)))))) (mapM1 snap_int mapM0)) (spec_l17Node_x
              (fun b hb => decide_eq_true hb) k c_0 (i40 : Int) v61 hx62) ?_
          simp only [run_un, put1_some, xnot, run_ops_nil, run_cond, put_at, put_no, ev_t, ev_c, reduceIte, Nat.reduceEqDiff, List.map_cons, List.map_nil]
          refine cond_split (t := (!v61)) (fun hc64 => ?_) (fun hc64 => ?_)
          · rw [iteT hc64] at hF63
            simp only [run_seq, run_reg, run_mv, run_ops_nil, run_ret, put_at, put_no, ev_t, ev_c, reduceIte, Nat.reduceEqDiff, List.map_cons, List.map_nil]
            have e65 := some_inj hF63
            subst e65
            have ho66 := hr47 _ rfl
            have hk67 := hk45
            rw [ho66] at hk67
            dsimp only [jnO] at hk67
            apply hR51
            have he := some_inj hk67
            subst he
            simp only [end_ret1, put_at, put_no, ev_t, ev_c, reduceIte, Nat.reduceEqDiff, List.map_cons, List.map_nil]
            exact rfl
          · rw [iteF hc64] at hF63
            simp only [run_skip, run_nil, put_at, put_no, ev_t, ev_c, reduceIte, Nat.reduceEqDiff, List.map_cons, List.map_nil]
            have e68 := some_inj hF63
            exact hN49 _ _ _ e68.symm ⟨by simp only [f57, put_at, put_no, ev_t, ev_c, reduceIte, Nat.reduceEqDiff, List.map_cons, List.map_nil], hS56⟩ (by simp only [f59, put_at,
                put_no, ev_t, ev_c, reduceIte, Nat.reduceEqDiff, List.map_cons, List.map_nil]) (by simp only [f60, put_at, put_no, ev_t, ev_c, reduceIte, Nat.reduceEqDiff,
                List.map_cons, List.map_nil])
        · rintro _ fr70 h71 rfl ⟨f73, hS72⟩
          dsimp only [jnO] at hk45
          unfold spec_GoodCluster_j1 at hk45
          simp only [run_seq, run_reg, run_mv, run_ops_nil, run_ret, put_at, put_no, ev_t, ev_c, reduceIte, Nat.reduceEqDiff, List.map_cons, List.map_nil]
          have he := some_inj hk45
          subst he
          simp only [end_ret1, put_at, put_no, ev_t, ev_c, reduceIte, Nat.reduceEqDiff, List.map_cons, List.map_nil]
          exact rfl
theorem laws_toIntS_x {W : Nat → Bool} {h : Heap} (hW : ∀ b,
    h.length ≤ b → W b = true) (k : Nat) (a_0 : List Int) (r : List Int) (hF : laws_toIntS k a_0 = some r) : Ret E W 75 [lst cI a_0] h (fun v h' => ∃ rv0 rc0,
    v = rv0 ∧ SlF cI 1 3 rv0 r rc0 ∧ Sep h' h.length (rc0 ++ ([]))) := by
  refine Ret.of (fn := x75) rfl (Run.of ?_)
  unfold laws_toIntS at hF
  have zf0 : argFr [lst cI a_0] 0 = lst cI a_0 := rfl
  generalize argFr [lst cI a_0] = fr0 at zf0 ⊢
  have hS : Sep h h.length [] := Sep.nil h
  obtain ⟨l1, hx2, hF3⟩ := bind_some' hF
  simp only [x75, run_seq, run_reg, run_mv, run_ops_nil, x75_7, zf0, run_len, put1_some, xlen_lst, run_mkS, put_at, put_no, ev_t, ev_c, reduceIte, Nat.reduceEqDiff, List.map_cons,
      List.map_nil]
  refine put2_mkSF (f := cI) (z := (0 : Int)) hS hx2 rfl (fun v4 c5 h6 hv7 hS8 => ?_)
  simp only [run_mv, run_ops_nil, x75_6, run_seq, run_reg, put_at, put_no, ev_t, ev_c, reduceIte, Nat.reduceEqDiff, List.map_cons, List.map_nil]
  obtain ⟨oc20, hX22, hk23⟩ := jn_some hF3
  simp only [x75_5]
  refine loopF_j (σ := Int × (List Int)) (fun s55 => laws_toIntS_b1 a_0 s55.1 s55.2) (fun s fr' h' => ∃ c16,
      fr' 0 = lst cI a_0 ∧ fr' 3 = v4 ∧ fr' 4 = .int .i64 s.1 ∧ SlF cI 1 3 v4 s.2 c16 ∧ Sep h' h.length (c16 ++ ([]))) hX22 ⟨c5, by simp only [zf0, put_at, put_no, ev_t, ev_c,
      reduceIte, Nat.reduceEqDiff, List.map_cons, List.map_nil], by simp only [put_at, put_no, ev_t, ev_c, reduceIte, Nat.reduceEqDiff, List.map_cons, List.map_nil],
      by simp only [put_at, put_no, ev_t, ev_c, reduceIte, Nat.reduceEqDiff, List.map_cons, List.map_nil], hv7, hS8⟩ (fun _ _ _ h => h) ?_ ?_
  · rintro ⟨s14, s15⟩ fr32 h33 ⟨c16, f35, f36, f37, hv17, hS34⟩ oc21 hF24 hr25 Q26 hN27 hK28 hR29 hE30
    dsimp only at *
    unfold laws_toIntS_b1 at hF24
    simp only [x75_3, run_seq, run_reg, f37, run_mv, f35, run_len, put1_some, xlen_lst, run_bin, xlss, run_ops_nil, run_cond, put_at, put_no, ev_t, ev_c, reduceIte,
        Nat.reduceEqDiff, List.map_cons, List.map_nil]
    refine cond_split (t := (decide (s14 < (List.length a_0 : Int)))) (fun hc39 => ?_) (fun hc39 => ?_)
    · rw [iteT hc39] at hF24
      obtain ⟨x40, hx41, hF42⟩ := bind_some' hF24
      simp only [run_skip, x75_2, run_seq, run_block, x75_1, run_reg, f36, run_mv, f37, f35, run_ia, put_at, put_no, ev_t, ev_c, reduceIte, Nat.reduceEqDiff, List.map_cons,
          List.map_nil]
      refine put1_eq (v := .ref (cI x40) 0) (xia_lst hx41 rfl) ?_
      simp only [run_ld, put_at, put_no, ev_t, ev_c, reduceIte, Nat.reduceEqDiff, List.map_cons, List.map_nil]
      refine put1_eq (v := .int .i64 x40) rfl ?_
      obtain ⟨x43, hx44, hF45⟩ := bind_some' hF42
      simp only [run_ia, put_at, put_no, ev_t, ev_c, reduceIte, Nat.reduceEqDiff, List.map_cons, List.map_nil]
      obtain ⟨b46, hb47⟩ := SlF.isrow hv17 (geti_ne hx44)
      refine put1_eq (SlF.ia hv17 hb47 hx44) ?_
      simp only [run_st, put_at, put_no, ev_t, ev_c, reduceIte, Nat.reduceEqDiff, List.map_cons, List.map_nil]
      refine put2_stF (f := cI) (x' := x40) (o := 0) hv17 hS34 hW hb47 hx44 (fun _ => rfl) rfl rfl (Nat.le_of_ble_eq_true rfl) rfl (fun c50 h48 hv51 hS49 => ?_)
      have hx52 := geti_set (x' := x40) hx44
      simp only [put_no, run_ops_nil, run_blk, run_reg, f37, run_mv, run_bin, put1_some, xadd, run_nil, put_at, ev_t, ev_c, reduceIte, Nat.reduceEqDiff, List.map_cons,
          List.map_nil]
      have e53 := some_inj hF45
      exact hN27 _ _ _ e53.symm ⟨c50, by simp only [f35, put_at, put_no, ev_t, ev_c, reduceIte, Nat.reduceEqDiff, List.map_cons, List.map_nil], by simp only [f36, put_at, put_no,
          ev_t, ev_c, reduceIte, Nat.reduceEqDiff, List.map_cons, List.map_nil], by simp only [put_at, put_no, ev_t, ev_c, reduceIte, Nat.reduceEqDiff, List.map_cons,
          List.map_nil], hv51, hS49⟩
    · rw [iteF hc39] at hF24
      simp only [run_exit, out_code, out_nil, put_at, put_no, ev_t, ev_c, reduceIte, Nat.reduceEqDiff, List.map_cons, List.map_nil]
      have e54 := some_inj hF24
      exact hK28 _ _ _ e54.symm ⟨c16, by simp only [f35, put_at, put_no, ev_t, ev_c, reduceIte, Nat.reduceEqDiff, List.map_cons, List.map_nil], by simp only [f36, put_at, put_no,
          ev_t, ev_c, reduceIte, Nat.reduceEqDiff, List.map_cons, List.map_nil], by simp only [f37, put_at, put_no, ev_t, ev_c, reduceIte, Nat.reduceEqDiff, List.map_cons,
          List.map_nil], hv17, hS34⟩
  · rintro ⟨s56, s57⟩ fr60 h61 rfl ⟨c58, f63, f64, f65, hv59, hS62⟩
    dsimp only [jnO] at hk23
    dsimp only at *
    unfold laws_toIntS_j1 at hk23
    simp only [run_seq, run_reg, f64, run_mv, run_ops_nil, run_ret, put_at, put_no, ev_t, ev_c, reduceIte, Nat.reduceEqDiff, List.map_cons, List.map_nil]
    have he := some_inj hk23
    subst he
    simp only [end_ret1, put_at, put_no, ev_t, ev_c, reduceIte, Nat.reduceEqDiff, List.map_cons, List.map_nil]
    exact ⟨v4, c58, by first | trivial | rfl, hv59, hS62⟩
theorem laws_toView_x {W : Nat → Bool} {h : Heap} (hW : ∀ b,
    h.length ≤ b → W b = true) (k : Nat) (a_0 : View) (r : View) (hF : laws_toView k a_0 = some r) : Ret E W 56 [.agg [.int .i64 a_0.Epoch, .int .i64 a_0.Leader,
    lst cI a_0.InStep]] h (fun v h' => ∃ rv0_2 rc0_2, v = .agg [.int .i64 r.Epoch, .int .i64 r.Leader,
    rv0_2] ∧ SlF cI 1 3 rv0_2 r.InStep rc0_2 ∧ Sep h' h.length (rc0_2 ++ ([]))) := by
  refine Ret.of (fn := x56) rfl (Run.of ?_)
  unfold laws_toView at hF
  have zf0 : argFr [.agg [.int .i64 a_0.Epoch, .int .i64 a_0.Leader, lst cI a_0.InStep]] 0 = .agg [.int .i64 a_0.Epoch, .int .i64 a_0.Leader, lst cI a_0.InStep] := rfl
  generalize argFr [.agg [.int .i64 a_0.Epoch, .int .i64 a_0.Leader, lst cI a_0.InStep]] = fr0 at zf0 ⊢
  have hS : Sep h h.length [] := Sep.nil h
  simp only [x56, run_seq, run_reg, run_box, zf0, put_at, put_no, ev_t, ev_c, reduceIte, Nat.reduceEqDiff, List.map_cons, List.map_nil]
  refine put2_boxC (cs := [.int .i64 a_0.Epoch, .int .i64 a_0.Leader, lst cI a_0.InStep]) hS rfl rfl rfl (fun b1 h2 hS3 => ?_)
  simp only [run_new, put_at, put_no, ev_t, ev_c, reduceIte, Nat.reduceEqDiff, List.map_cons, List.map_nil]
  refine put2_newC hS3 (fun b5 h6 hS7 => ?_)
  simp only [run_ops_nil, put_at, put_no, ev_t, ev_c, reduceIte, Nat.reduceEqDiff, List.map_cons, List.map_nil]
  refine frz_stepC (Sep.m1 hS7) hW (by simp only [put_at, put_no, ev_t, ev_c, reduceIte, Nat.reduceEqDiff, List.map_cons, List.map_nil]) (fun h9 hS10 => ?_)
  simp only [run_frz_nil, x56_4, run_seq, run_reg, run_new, put_at, put_no, ev_t, ev_c, reduceIte, Nat.reduceEqDiff, List.map_cons, List.map_nil]
  refine put2_newC hS10 (fun b11 h12 hS13 => ?_)
  simp only [run_ops_nil, x56_3, run_seq, run_reg, run_fa, put1_some, Nat.reduceAdd, Nat.zero_add, Nat.add_zero, xfa_ref, run_ld, put_at, put_no, ev_t, ev_c, reduceIte,
      Nat.reduceEqDiff, List.map_cons, List.map_nil]
  refine put1_eq (v := .int .i64 a_0.Epoch) rfl ?_
  simp only [run_fa, put1_some, Nat.reduceAdd, Nat.zero_add, Nat.add_zero, xfa_ptr, run_st, put_at, put_no, ev_t, ev_c, reduceIte, Nat.reduceEqDiff, List.map_cons, List.map_nil]
  refine put2_stCx (us := [.int .i64 a_0.Epoch]) rfl (cs' := [.int .i64 a_0.Epoch, .int .i64 0, .nil]) hS13 hW rfl rfl (Nat.le_of_ble_eq_true rfl) rfl (fun h15 hS16 => ?_)
  simp only [put_no, run_ops_nil, x56_2, run_seq, run_reg, run_fa, put1_some, Nat.reduceAdd, Nat.zero_add, Nat.add_zero, xfa_ref, run_ld, put_at, ev_t, ev_c, reduceIte,
      Nat.reduceEqDiff, List.map_cons, List.map_nil]
  refine put1_eq (v := .int .i64 a_0.Leader) rfl ?_
  simp only [run_fa, put1_some, Nat.reduceAdd, Nat.zero_add, Nat.add_zero, xfa_ptr, run_st, put_at, put_no, ev_t, ev_c, reduceIte, Nat.reduceEqDiff, List.map_cons, List.map_nil]
  refine put2_stCx (us := [.int .i64 a_0.Leader]) rfl (cs' := [.int .i64 a_0.Epoch, .int .i64 a_0.Leader,
      .nil]) hS16 hW rfl rfl (Nat.le_of_ble_eq_true rfl) rfl (fun h17 hS18 => ?_)
  simp only [put_no, run_ops_nil, x56_1, run_seq, run_reg, run_fa, put1_some, Nat.reduceAdd, Nat.zero_add, Nat.add_zero, xfa_ref, run_ld, put_at, ev_t, ev_c, reduceIte,
      Nat.reduceEqDiff, List.map_cons, List.map_nil]
  refine put1_eq (v := lst cI a_0.InStep) rfl ?_
  obtain ⟨v19, hx20, hF21⟩ := bind_some' hF
  simp only [run_call, put_at, put_no, ev_t, ev_c, reduceIte, Nat.reduceEqDiff, List.map_cons, List.map_nil]
  refine call2 rfl hS18 (mapM1 snap_lst mapM0) (laws_toIntS_x (fun b hb => decide_eq_true hb) k a_0.InStep v19 hx20) ?_
  rintro v22 h26 ⟨_, c23, rfl, hv24, hS27⟩
  refine ⟨_, free_1 (SlF.free1 hv24), hS27, (pf_app (SlF.pf hv24 (fun _ => rfl)) pf_nil), fun h28 hS29 => ?_⟩
  have hS30 : Sep h28 h.length (c23 ++ ([Blk1 b11 [.int .i64 a_0.Epoch, .int .i64 a_0.Leader, .nil] 24] ++ ([Blk1 b5 [.int .i64 0, .int .i64 0,
      .nil] 24] ++ ([])))) := by simpa only [List.append_assoc, List.nil_append] using hS29
  simp only [run_fa, put1_some, Nat.reduceAdd, Nat.zero_add, Nat.add_zero, xfa_ptr, run_st, put_at, put_no, ev_t, ev_c, reduceIte, Nat.reduceEqDiff, List.map_cons, List.map_nil]
  refine put2_stCx (us := [v22]) (cells_one (SlF.one hv24)) (cs' := [.int .i64 a_0.Epoch, .int .i64 a_0.Leader,
      v22]) (Sep.m1 hS30) hW rfl (all_c (SlF.one hv24) all_n) (Nat.le_of_ble_eq_true rfl) rfl (fun h31 hS32 => ?_)
  simp only [put_no, run_ops_nil, run_seq, run_reg, run_ld, put_at, ev_t, ev_c, reduceIte, Nat.reduceEqDiff, List.map_cons, List.map_nil]
  refine put1_eq (v := .agg [.int .i64 a_0.Epoch, .int .i64 a_0.Leader, v22]) ((xld_bs (Sep.bk _ _ _ hS32)).trans rfl) ?_
  simp only [run_st, put_at, put_no, ev_t, ev_c, reduceIte, Nat.reduceEqDiff, List.map_cons, List.map_nil]
  refine put2_stCx (us := [.int .i64 a_0.Epoch, .int .i64 a_0.Leader, v22]) rfl (cs' := [.int .i64 a_0.Epoch, .int .i64 a_0.Leader,
      v22]) (Sep.m2 hS32) hW rfl (all_c rfl (all_c rfl (all_c (SlF.one hv24) all_n))) (Nat.le_of_ble_eq_true rfl) rfl (fun h33 hS34 => ?_)
  simp only [put_no, run_ops_nil, run_ret, put_at, ev_t, ev_c, reduceIte, Nat.reduceEqDiff, List.map_cons, List.map_nil]
  have he := some_inj hF21
  subst he
  refine end_ret_cell (bb := b5) (oo := 0) (v := .agg [.int .i64 a_0.Epoch, .int .i64 a_0.Leader, v22]) (by simp only [put_at, put_no, ev_t, ev_c, reduceIte, Nat.reduceEqDiff,
      List.map_cons, List.map_nil]) ((xld_bs (Sep.bk _ _ _ hS34)).trans rfl) ?_
  exact ⟨v22, c23, by first | trivial | rfl, hv24, (Sep.dc ((Sep.dc (hS34))))⟩
theorem laws_toRow_x {W : Nat → Bool} {h : Heap} (hW : ∀ b,
    h.length ≤ b → W b = true) (a_0 : Row) (r : Row) (hF : some (laws_toRow a_0) = some r) : Ret E W 77 [.agg [.int .i64 a_0.Epoch,
    .int .i64 a_0.Value]] h (fun v h' => cut h.length h' E.sz false 9 v = some (.agg [.int .i64 r.Epoch, .int .i64 r.Value])) := by
  refine Ret.of (fn := x77) rfl (Run.of ?_)
  unfold laws_toRow at hF
  have zf0 : argFr [.agg [.int .i64 a_0.Epoch, .int .i64 a_0.Value]] 0 = .agg [.int .i64 a_0.Epoch, .int .i64 a_0.Value] := rfl
  generalize argFr [.agg [.int .i64 a_0.Epoch, .int .i64 a_0.Value]] = fr0 at zf0 ⊢
  have hS : Sep h h.length [] := Sep.nil h
  simp only [x77, run_seq, run_reg, run_box, zf0, put_at, put_no, ev_t, ev_c, reduceIte, Nat.reduceEqDiff, List.map_cons, List.map_nil]
  refine put2_boxC (cs := [.int .i64 a_0.Epoch, .int .i64 a_0.Value]) hS rfl rfl rfl (fun b1 h2 hS3 => ?_)
  simp only [run_new, put_at, put_no, ev_t, ev_c, reduceIte, Nat.reduceEqDiff, List.map_cons, List.map_nil]
  refine put2_newC hS3 (fun b5 h6 hS7 => ?_)
  simp only [run_ops_nil, put_at, put_no, ev_t, ev_c, reduceIte, Nat.reduceEqDiff, List.map_cons, List.map_nil]
  refine frz_stepC (Sep.m1 hS7) hW (by simp only [put_at, put_no, ev_t, ev_c, reduceIte, Nat.reduceEqDiff, List.map_cons, List.map_nil]) (fun h9 hS10 => ?_)
  simp only [run_frz_nil, x77_3, run_seq, run_reg, run_new, put_at, put_no, ev_t, ev_c, reduceIte, Nat.reduceEqDiff, List.map_cons, List.map_nil]
  refine put2_newC hS10 (fun b11 h12 hS13 => ?_)
  simp only [run_ops_nil, x77_2, run_seq, run_reg, run_fa, put1_some, Nat.reduceAdd, Nat.zero_add, Nat.add_zero, xfa_ref, run_ld, put_at, put_no, ev_t, ev_c, reduceIte,
      Nat.reduceEqDiff, List.map_cons, List.map_nil]
  refine put1_eq (v := .int .i64 a_0.Epoch) rfl ?_
  simp only [run_fa, put1_some, Nat.reduceAdd, Nat.zero_add, Nat.add_zero, xfa_ptr, run_st, put_at, put_no, ev_t, ev_c, reduceIte, Nat.reduceEqDiff, List.map_cons, List.map_nil]
  refine put2_stCx (us := [.int .i64 a_0.Epoch]) rfl (cs' := [.int .i64 a_0.Epoch, .int .i64 0]) hS13 hW rfl rfl (Nat.le_of_ble_eq_true rfl) rfl (fun h15 hS16 => ?_)
  simp only [put_no, run_ops_nil, x77_1, run_seq, run_reg, run_fa, put1_some, Nat.reduceAdd, Nat.zero_add, Nat.add_zero, xfa_ref, run_ld, put_at, ev_t, ev_c, reduceIte,
      Nat.reduceEqDiff, List.map_cons, List.map_nil]
  refine put1_eq (v := .int .i64 a_0.Value) rfl ?_
  simp only [run_fa, put1_some, Nat.reduceAdd, Nat.zero_add, Nat.add_zero, xfa_ptr, run_st, put_at, put_no, ev_t, ev_c, reduceIte, Nat.reduceEqDiff, List.map_cons, List.map_nil]
  refine put2_stCx (us := [.int .i64 a_0.Value]) rfl (cs' := [.int .i64 a_0.Epoch, .int .i64 a_0.Value]) hS16 hW rfl rfl (Nat.le_of_ble_eq_true rfl) rfl (fun h17 hS18 => ?_)
  simp only [put_no, run_ops_nil, run_seq, run_reg, run_ld, put_at, ev_t, ev_c, reduceIte, Nat.reduceEqDiff, List.map_cons, List.map_nil]
  refine put1_eq (v := .agg [.int .i64 a_0.Epoch, .int .i64 a_0.Value]) ((xld_bs (Sep.bk _ _ _ hS18)).trans rfl) ?_
  simp only [run_st, put_at, put_no, ev_t, ev_c, reduceIte, Nat.reduceEqDiff, List.map_cons, List.map_nil]
  refine put2_stCx (us := [.int .i64 a_0.Epoch, .int .i64 a_0.Value]) rfl (cs' := [.int .i64 a_0.Epoch,
      .int .i64 a_0.Value]) (Sep.m1 hS18) hW rfl rfl (Nat.le_of_ble_eq_true rfl) rfl (fun h19 hS20 => ?_)
  simp only [put_no, run_ops_nil, run_ret, put_at, ev_t, ev_c, reduceIte, Nat.reduceEqDiff, List.map_cons, List.map_nil]
  have he := some_inj hF
  subst he
  refine end_ret_cell (bb := b5) (oo := 0) (v := .agg [.int .i64 a_0.Epoch, .int .i64 a_0.Value]) (by simp only [put_at, put_no, ev_t, ev_c, reduceIte, Nat.reduceEqDiff,
      List.map_cons, List.map_nil]) ((xld_bs (Sep.bk _ _ _ hS20)).trans rfl) ?_
  exact (cut_agg (mapM1 rfl (mapM1 rfl mapM0)))
theorem laws_toRowS_x {W : Nat → Bool} {h : Heap} (hW : ∀ b,
    h.length ≤ b → W b = true) (k : Nat) (a_0 : List Row) (r : List Row) (hF : laws_toRowS k a_0 = some r) : Ret E W 58 [lst Row.cells a_0] h (fun v h' => ∃ rv0 rc0,
    v = rv0 ∧ SlF Row.cells 2 92 rv0 r rc0 ∧ Sep h' h.length (rc0 ++ ([]))) := by
  refine Ret.of (fn := x58) rfl (Run.of ?_)
  unfold laws_toRowS at hF
  have zf0 : argFr [lst Row.cells a_0] 0 = lst Row.cells a_0 := rfl
  generalize argFr [lst Row.cells a_0] = fr0 at zf0 ⊢
  have hS : Sep h h.length [] := Sep.nil h
  obtain ⟨l1, hx2, hF3⟩ := bind_some' hF
  simp only [x58, run_seq, run_reg, run_mv, run_ops_nil, x58_7, zf0, run_len, put1_some, xlen_lst, run_mkS, put_at, put_no, ev_t, ev_c, reduceIte, Nat.reduceEqDiff, List.map_cons,
      List.map_nil]
  refine put2_mkSF (f := Row.cells) (z := (Row.mk (0 : Int) (0 : Int))) hS hx2 rfl (fun v4 c5 h6 hv7 hS8 => ?_)
  simp only [run_mv, run_ops_nil, x58_6, run_seq, run_reg, put_at, put_no, ev_t, ev_c, reduceIte, Nat.reduceEqDiff, List.map_cons, List.map_nil]
  obtain ⟨oc20, hX22, hk23⟩ := jn_some hF3
  simp only [x58_5]
  refine loopF_j (σ := Int × (List Row)) (fun s55 => laws_toRowS_b1 a_0 s55.1 s55.2) (fun s fr' h' => ∃ c16,
      fr' 0 = lst Row.cells a_0 ∧ fr' 3 = v4 ∧ fr' 4 = .int .i64 s.1 ∧ SlF Row.cells 2 92 v4 s.2 c16 ∧ Sep h' h.length (c16 ++ ([]))) hX22 ⟨c5, by simp only [zf0, put_at, put_no,
      ev_t, ev_c, reduceIte, Nat.reduceEqDiff, List.map_cons, List.map_nil], by simp only [put_at, put_no, ev_t, ev_c, reduceIte, Nat.reduceEqDiff, List.map_cons, List.map_nil],
      by simp only [put_at, put_no, ev_t, ev_c, reduceIte, Nat.reduceEqDiff, List.map_cons, List.map_nil], hv7, hS8⟩ (fun _ _ _ h => h) ?_ ?_
  · rintro ⟨s14, s15⟩ fr32 h33 ⟨c16, f35, f36, f37, hv17, hS34⟩ oc21 hF24 hr25 Q26 hN27 hK28 hR29 hE30
    dsimp only at *
    unfold laws_toRowS_b1 at hF24
    simp only [x58_3, run_seq, run_reg, f37, run_mv, f35, run_len, put1_some, xlen_lst, run_bin, xlss, run_ops_nil, run_cond, put_at, put_no, ev_t, ev_c, reduceIte,
        Nat.reduceEqDiff, List.map_cons, List.map_nil]
    refine cond_split (t := (decide (s14 < (List.length a_0 : Int)))) (fun hc39 => ?_) (fun hc39 => ?_)
    · rw [iteT hc39] at hF24
      obtain ⟨x40, hx41, hF42⟩ := bind_some' hF24
      simp only [run_skip, x58_2, run_seq, run_block, x58_1, run_reg, f36, run_mv, f37, f35, run_ia, put_at, put_no, ev_t, ev_c, reduceIte, Nat.reduceEqDiff, List.map_cons,
          List.map_nil]
      refine put1_eq (v := .ref (Row.cells x40) 0) (xia_lst hx41 rfl) ?_
      simp only [run_ld, put_at, put_no, ev_t, ev_c, reduceIte, Nat.reduceEqDiff, List.map_cons, List.map_nil]
      refine put1_eq (v := .agg [.int .i64 x40.Epoch, .int .i64 x40.Value]) rfl ?_
      simp only [run_call, put_at, put_no, ev_t, ev_c, reduceIte, Nat.reduceEqDiff, List.map_cons, List.map_nil]
      refine call1 rfl (mapM1 (snap_agg (mapM1 snap_int (mapM1 snap_int mapM0))) mapM0) (laws_toRow_x (fun b hb => decide_eq_true hb) x40 _ rfl) ?_
      obtain ⟨x43, hx44, hF45⟩ := bind_some' hF42
      simp only [run_ia, put_at, put_no, ev_t, ev_c, reduceIte, Nat.reduceEqDiff, List.map_cons, List.map_nil]
      obtain ⟨b46, hb47⟩ := SlF.isrow hv17 (geti_ne hx44)
      refine put1_eq (SlF.ia hv17 hb47 hx44) ?_
      simp only [run_st, put_at, put_no, ev_t, ev_c, reduceIte, Nat.reduceEqDiff, List.map_cons, List.map_nil]
      refine put2_stF (f := Row.cells) (x' := (laws_toRow x40)) (o := 0) hv17 hS34 hW hb47 hx44 (fun _ => rfl) rfl rfl (Nat.le_of_ble_eq_true rfl) rfl (fun c50 h48 hv51 hS49 => ?_)
      have hx52 := geti_set (x' := (laws_toRow x40)) hx44
      simp only [put_no, run_ops_nil, run_blk, run_reg, f37, run_mv, run_bin, put1_some, xadd, run_nil, put_at, ev_t, ev_c, reduceIte, Nat.reduceEqDiff, List.map_cons,
          List.map_nil]
      have e53 := some_inj hF45
      exact hN27 _ _ _ e53.symm ⟨c50, by simp only [f35, put_at, put_no, ev_t, ev_c, reduceIte, Nat.reduceEqDiff, List.map_cons, List.map_nil], by simp only [f36, put_at, put_no,
          ev_t, ev_c, reduceIte, Nat.reduceEqDiff, List.map_cons, List.map_nil], by simp only [put_at, put_no, ev_t, ev_c, reduceIte, Nat.reduceEqDiff, List.map_cons,
          List.map_nil], hv51, hS49⟩
    · rw [iteF hc39] at hF24
      simp only [run_exit, out_code, out_nil, put_at, put_no, ev_t, ev_c, reduceIte, Nat.reduceEqDiff, List.map_cons, List.map_nil]
      have e54 := some_inj hF24
      exact hK28 _ _ _ e54.symm ⟨c16, by simp only [f35, put_at, put_no, ev_t, ev_c, reduceIte, Nat.reduceEqDiff, List.map_cons, List.map_nil], by simp only [f36, put_at, put_no,
          ev_t, ev_c, reduceIte, Nat.reduceEqDiff, List.map_cons, List.map_nil], by simp only [f37, put_at, put_no, ev_t, ev_c, reduceIte, Nat.reduceEqDiff, List.map_cons,
          List.map_nil], hv17, hS34⟩
  · rintro ⟨s56, s57⟩ fr60 h61 rfl ⟨c58, f63, f64, f65, hv59, hS62⟩
    dsimp only [jnO] at hk23
    dsimp only at *
    unfold laws_toRowS_j1 at hk23
    simp only [run_seq, run_reg, f64, run_mv, run_ops_nil, run_ret, put_at, put_no, ev_t, ev_c, reduceIte, Nat.reduceEqDiff, List.map_cons, List.map_nil]
    have he := some_inj hk23
    subst he
    simp only [end_ret1, put_at, put_no, ev_t, ev_c, reduceIte, Nat.reduceEqDiff, List.map_cons, List.map_nil]
    exact ⟨v4, c58, by first | trivial | rfl, hv59, hS62⟩
theorem laws_toNode_x {W : Nat → Bool} {h : Heap} (hW : ∀ b,
    h.length ≤ b → W b = true) (k : Nat) (a_0 : Node) (r : Node) (hF : laws_toNode k a_0 = some r) : Ret E W 76 [.agg [.int .i64 a_0.View.Epoch, .int .i64 a_0.View.Leader,
    lst cI a_0.View.InStep, lst Row.cells a_0.Log, lst cI a_0.Known, .int .i64 a_0.Told]] h (fun v h' => ∃ rv0_2 rc0_2 rv0_3 rc0_3 rv0_4 rc0_4, v = .agg [.int .i64 r.View.Epoch,
    .int .i64 r.View.Leader, rv0_2, rv0_3, rv0_4,
    .int .i64 r.Told] ∧ SlF cI 1 3 rv0_2 r.View.InStep rc0_2 ∧ SlF Row.cells 2 92 rv0_3 r.Log rc0_3 ∧ SlF cI 1 3 rv0_4 r.Known rc0_4 ∧ Sep h' h.length (rc0_2 ++ (rc0_3 ++
    (rc0_4 ++ ([]))))) := by
  refine Ret.of (fn := x76) rfl (Run.of ?_)
  unfold laws_toNode at hF
  have zf0 : argFr [.agg [.int .i64 a_0.View.Epoch, .int .i64 a_0.View.Leader, lst cI a_0.View.InStep, lst Row.cells a_0.Log, lst cI a_0.Known,
      .int .i64 a_0.Told]] 0 = .agg [.int .i64 a_0.View.Epoch, .int .i64 a_0.View.Leader, lst cI a_0.View.InStep, lst Row.cells a_0.Log, lst cI a_0.Known,
      .int .i64 a_0.Told] := rfl
  generalize argFr [.agg [.int .i64 a_0.View.Epoch, .int .i64 a_0.View.Leader, lst cI a_0.View.InStep, lst Row.cells a_0.Log, lst cI a_0.Known, .int .i64 a_0.Told]] = fr0 at zf0 ⊢
  have hS : Sep h h.length [] := Sep.nil h
  simp only [x76, run_seq, run_reg, run_box, zf0, put_at, put_no, ev_t, ev_c, reduceIte, Nat.reduceEqDiff, List.map_cons, List.map_nil]
  refine put2_boxC (cs := [.int .i64 a_0.View.Epoch, .int .i64 a_0.View.Leader, lst cI a_0.View.InStep, lst Row.cells a_0.Log, lst cI a_0.Known,
      .int .i64 a_0.Told]) hS rfl rfl rfl (fun b1 h2 hS3 => ?_)
  simp only [run_new, put_at, put_no, ev_t, ev_c, reduceIte, Nat.reduceEqDiff, List.map_cons, List.map_nil]
  refine put2_newC hS3 (fun b5 h6 hS7 => ?_)
  simp only [run_ops_nil, put_at, put_no, ev_t, ev_c, reduceIte, Nat.reduceEqDiff, List.map_cons, List.map_nil]
  refine frz_stepC (Sep.m1 hS7) hW (by simp only [put_at, put_no, ev_t, ev_c, reduceIte, Nat.reduceEqDiff, List.map_cons, List.map_nil]) (fun h9 hS10 => ?_)
  simp only [run_frz_nil, x76_5, run_seq, run_reg, run_new, put_at, put_no, ev_t, ev_c, reduceIte, Nat.reduceEqDiff, List.map_cons, List.map_nil]
  refine put2_newC hS10 (fun b11 h12 hS13 => ?_)
  simp only [run_ops_nil, x76_4, run_seq, run_reg, run_fa, put1_some, Nat.reduceAdd, Nat.zero_add, Nat.add_zero, xfa_ref, run_ld, put_at, put_no, ev_t, ev_c, reduceIte,
      Nat.reduceEqDiff, List.map_cons, List.map_nil]
  refine put1_eq (v := .agg [.int .i64 a_0.View.Epoch, .int .i64 a_0.View.Leader, lst cI a_0.View.InStep]) rfl ?_
  obtain ⟨v15, hx16, hF17⟩ := bind_some' hF
  simp only [run_call, put_at, put_no, ev_t, ev_c, reduceIte, Nat.reduceEqDiff, List.map_cons, List.map_nil]
  refine call2 rfl hS13 (mapM1 (snap_agg (mapM1 snap_int (mapM1 snap_int (mapM1 snap_lst mapM0)))) mapM0) (laws_toView_x (fun b hb => decide_eq_true hb) k a_0.View v15 hx16) ?_
  rintro _ h22 ⟨v18, c19, rfl, hv20, hS23⟩
  refine ⟨_, free_a (all_c rfl (all_c rfl (all_c (SlF.free1 hv20) all_n))), hS23, (pf_app (SlF.pf hv20 (fun _ => rfl)) pf_nil), fun h24 hS25 => ?_⟩
  have hS26 : Sep h24 h.length (c19 ++ ([Blk1 b11 [.int .i64 0, .int .i64 0, .nil, .nil, .nil, .int .i64 0] 68] ++ ([Blk1 b5 [.int .i64 0, .int .i64 0, .nil, .nil, .nil,
      .int .i64 0] 68] ++ ([])))) := by simpa only [List.append_assoc, List.nil_append] using hS25
  simp only [run_fa, put1_some, Nat.reduceAdd, Nat.zero_add, Nat.add_zero, xfa_ptr, run_st, put_at, put_no, ev_t, ev_c, reduceIte, Nat.reduceEqDiff, List.map_cons, List.map_nil]
  refine put2_stCx (us := [.int .i64 v15.Epoch, .int .i64 v15.Leader, v18]) rfl (cs' := [.int .i64 v15.Epoch, .int .i64 v15.Leader, v18, .nil, .nil,
      .int .i64 0]) (Sep.m1 hS26) hW rfl (all_c rfl (all_c rfl (all_c (SlF.one hv20) all_n))) (Nat.le_of_ble_eq_true rfl) rfl (fun h27 hS28 => ?_)
  simp only [put_no, run_ops_nil, x76_3, run_seq, run_reg, run_fa, put1_some, Nat.reduceAdd, Nat.zero_add, Nat.add_zero, xfa_ref, run_ld, put_at, ev_t, ev_c, reduceIte,
      Nat.reduceEqDiff, List.map_cons, List.map_nil]
  refine put1_eq (v := lst Row.cells a_0.Log) rfl ?_
  obtain ⟨v29, hx30, hF31⟩ := bind_some' hF17
  simp only [run_call, put_at, put_no, ev_t, ev_c, reduceIte, Nat.reduceEqDiff, List.map_cons, List.map_nil]
  refine call2 rfl hS28 (mapM1 snap_lst mapM0) (laws_toRowS_x (fun b hb => decide_eq_true hb) k a_0.Log v29 hx30) ?_
  rintro v32 h36 ⟨_, c33, rfl, hv34, hS37⟩
  refine ⟨_, free_1 (SlF.free1 hv34), hS37, (pf_app (SlF.pf hv34 (fun _ => rfl)) pf_nil), fun h38 hS39 => ?_⟩
  have hS40 : Sep h38 h.length (c33 ++ ([Blk1 b11 [.int .i64 v15.Epoch, .int .i64 v15.Leader, v18, .nil, .nil, .int .i64 0] 68] ++ (c19 ++ ([Blk1 b5 [.int .i64 0, .int .i64 0,
      .nil, .nil, .nil, .int .i64 0] 68] ++ ([]))))) := by simpa only [List.append_assoc, List.nil_append] using hS39
  simp only [run_fa, put1_some, Nat.reduceAdd, Nat.zero_add, Nat.add_zero, xfa_ptr, run_st, put_at, put_no, ev_t, ev_c, reduceIte, Nat.reduceEqDiff, List.map_cons, List.map_nil]
  refine put2_stCx (us := [v32]) (cells_one (SlF.one hv34)) (cs' := [.int .i64 v15.Epoch, .int .i64 v15.Leader, v18, v32, .nil,
      .int .i64 0]) (Sep.m1 hS40) hW rfl (all_c (SlF.one hv34) all_n) (Nat.le_of_ble_eq_true rfl) rfl (fun h41 hS42 => ?_)
  simp only [put_no, run_ops_nil, x76_2, run_seq, run_reg, run_fa, put1_some, Nat.reduceAdd, Nat.zero_add, Nat.add_zero, xfa_ref, run_ld, put_at, ev_t, ev_c, reduceIte,
      Nat.reduceEqDiff, List.map_cons, List.map_nil]
  refine put1_eq (v := lst cI a_0.Known) rfl ?_
  obtain ⟨v43, hx44, hF45⟩ := bind_some' hF31
  simp only [run_call, put_at, put_no, ev_t, ev_c, reduceIte, Nat.reduceEqDiff, List.map_cons, List.map_nil]
  refine call2 rfl hS42 (mapM1 snap_lst mapM0) (laws_toIntS_x (fun b hb => decide_eq_true hb) k a_0.Known v43 hx44) ?_
  rintro v46 h50 ⟨_, c47, rfl, hv48, hS51⟩
  refine ⟨_, free_1 (SlF.free1 hv48), hS51, (pf_app (SlF.pf hv48 (fun _ => rfl)) pf_nil), fun h52 hS53 => ?_⟩
  have hS54 : Sep h52 h.length (c47 ++ ([Blk1 b11 [.int .i64 v15.Epoch, .int .i64 v15.Leader, v18, v32, .nil, .int .i64 0] 68] ++ (c33 ++ (c19 ++ ([Blk1 b5 [.int .i64 0,
      .int .i64 0, .nil, .nil, .nil, .int .i64 0] 68] ++ ([])))))) := by simpa only [List.append_assoc, List.nil_append] using hS53
  simp only [run_fa, put1_some, Nat.reduceAdd, Nat.zero_add, Nat.add_zero, xfa_ptr, run_st, put_at, put_no, ev_t, ev_c, reduceIte, Nat.reduceEqDiff, List.map_cons, List.map_nil]
  refine put2_stCx (us := [v46]) (cells_one (SlF.one hv48)) (cs' := [.int .i64 v15.Epoch, .int .i64 v15.Leader, v18, v32, v46,
      .int .i64 0]) (Sep.m1 hS54) hW rfl (all_c (SlF.one hv48) all_n) (Nat.le_of_ble_eq_true rfl) rfl (fun h55 hS56 => ?_)
  simp only [put_no, run_ops_nil, x76_1, run_seq, run_reg, run_fa, put1_some, Nat.reduceAdd, Nat.zero_add, Nat.add_zero, xfa_ref, run_ld, put_at, ev_t, ev_c, reduceIte,
      Nat.reduceEqDiff, List.map_cons, List.map_nil]
  refine put1_eq (v := .int .i64 a_0.Told) rfl ?_
  simp only [run_fa, put1_some, Nat.reduceAdd, Nat.zero_add, Nat.add_zero, xfa_ptr, run_st, put_at, put_no, ev_t, ev_c, reduceIte, Nat.reduceEqDiff, List.map_cons, List.map_nil]
  refine put2_stCx (us := [.int .i64 a_0.Told]) rfl (cs' := [.int .i64 v15.Epoch, .int .i64 v15.Leader, v18, v32, v46,
      .int .i64 a_0.Told]) hS56 hW rfl rfl (Nat.le_of_ble_eq_true rfl) rfl (fun h57 hS58 => ?_)
  simp only [put_no, run_ops_nil, run_seq, run_reg, run_ld, put_at, ev_t, ev_c, reduceIte, Nat.reduceEqDiff, List.map_cons, List.map_nil]
  refine put1_eq (v := .agg [.int .i64 v15.Epoch, .int .i64 v15.Leader, v18, v32, v46, .int .i64 a_0.Told]) ((xld_bs (Sep.bk _ _ _ hS58)).trans rfl) ?_
  simp only [run_st, put_at, put_no, ev_t, ev_c, reduceIte, Nat.reduceEqDiff, List.map_cons, List.map_nil]
  refine put2_stCx (us := [.int .i64 v15.Epoch, .int .i64 v15.Leader, v18, v32, v46, .int .i64 a_0.Told]) rfl (cs' := [.int .i64 v15.Epoch, .int .i64 v15.Leader, v18, v32, v46,
      .int .i64 a_0.Told]) (Sep.m4 hS58) hW rfl (all_c rfl (all_c rfl (all_c (SlF.one hv20) (all_c (SlF.one hv34) (all_c (SlF.one hv48) (all_c rfl all_n))))))
      (Nat.le_of_ble_eq_true rfl) rfl (fun h59 hS60 => ?_)
  simp only [put_no, run_ops_nil, run_ret, put_at, ev_t, ev_c, reduceIte, Nat.reduceEqDiff, List.map_cons, List.map_nil]
  have he := some_inj hF45
  subst he
  refine end_ret_cell (bb := b5) (oo := 0) (v := .agg [.int .i64 v15.Epoch, .int .i64 v15.Leader, v18, v32, v46, .int .i64 a_0.Told]) (by simp only [put_at, put_no, ev_t, ev_c,
      reduceIte, Nat.reduceEqDiff, List.map_cons, List.map_nil]) ((xld_bs (Sep.bk _ _ _ hS60)).trans rfl) ?_
  exact ⟨v18, c19, v32, c33, v46, c47, by first | trivial | rfl, hv20, hv34, hv48, (Sep.m2 (Sep.m1 (Sep.dc ((Sep.dc (hS60))))))⟩
theorem laws_toNodeS_x {W : Nat → Bool} {h : Heap} (hW : ∀ b,
    h.length ≤ b → W b = true) (k : Nat) (a_0 : List Node) (r : List Node) (hF : laws_toNodeS k a_0 = some r) : Ret E W 57 [lst Node.cells a_0] h (fun v h' => ∃ rv0 rc0,
    v = rv0 ∧ SlN Node.R 6 68 rv0 r rc0 ∧ Sep h' h.length (rc0 ++ ([]))) := by
  refine Ret.of (fn := x57) rfl (Run.of ?_)
  unfold laws_toNodeS at hF
  have zf0 : argFr [lst Node.cells a_0] 0 = lst Node.cells a_0 := rfl
  generalize argFr [lst Node.cells a_0] = fr0 at zf0 ⊢
  have hS : Sep h h.length [] := Sep.nil h
  obtain ⟨l1, hx2, hF3⟩ := bind_some' hF
  simp only [x57, run_seq, run_reg, run_mv, run_ops_nil, x57_7, zf0, run_len, put1_some, xlen_lst, run_mkS, put_at, put_no, ev_t, ev_c, reduceIte, Nat.reduceEqDiff, List.map_cons,
      List.map_nil]
  refine put2_mkSN (R := Node.R) (e := (Node.mk (View.mk (0 : Int) (0 : Int) []) [] [] (0 : Int))) (z := [.int .i64 0, .int .i64 0, .nil, .nil, .nil,
      .int .i64 0]) hS hx2 (Node.RI (x := (Node.mk (View.mk 0 0 []) [] [] 0)) SlF.nil SlF.nil SlF.nil) rfl (fun v4 c5 h6 hv7 hS8 => ?_)
  simp only [run_mv, run_ops_nil, x57_6, run_seq, run_reg, put_at, put_no, ev_t, ev_c, reduceIte, Nat.reduceEqDiff, List.map_cons, List.map_nil]
  obtain ⟨oc20, hX22, hk23⟩ := jn_some hF3
  simp only [x57_5]
  refine loopF_j (σ := Int × (List Node)) (fun s98 => laws_toNodeS_b1 k a_0 s98.1 s98.2) (fun s fr' h' => ∃ c16,
      fr' 0 = lst Node.cells a_0 ∧ fr' 3 = v4 ∧ fr' 4 = .int .i64 s.1 ∧ SlN Node.R 6 68 v4 s.2 c16 ∧ Sep h' h.length (c16 ++ ([]))) hX22 ⟨c5, by simp only [zf0, put_at, put_no,
      ev_t, ev_c, reduceIte, Nat.reduceEqDiff, List.map_cons, List.map_nil], by simp only [put_at, put_no, ev_t, ev_c, reduceIte, Nat.reduceEqDiff, List.map_cons, List.map_nil],
      by simp only [put_at, put_no, ev_t, ev_c, reduceIte, Nat.reduceEqDiff, List.map_cons, List.map_nil], hv7, hS8⟩ (fun _ _ _ h => h) ?_ ?_
  · rintro ⟨s14, s15⟩ fr32 h33 ⟨c16, f35, f36, f37, hv17, hS34⟩ oc21 hF24 hr25 Q26 hN27 hK28 hR29 hE30
    dsimp only at *
    unfold laws_toNodeS_b1 at hF24
    simp only [x57_3, run_seq, run_reg, f37, run_mv, f35, run_len, put1_some, xlen_lst, run_bin, xlss, run_ops_nil, run_cond, put_at, put_no, ev_t, ev_c, reduceIte,
        Nat.reduceEqDiff, List.map_cons, List.map_nil]
    refine cond_split (t := (decide (s14 < (List.length a_0 : Int)))) (fun hc39 => ?_) (fun hc39 => ?_)
    · rw [iteT hc39] at hF24
      obtain ⟨x40, hx41, hF42⟩ := bind_some' hF24
      simp only [run_skip, x57_2, run_seq, run_block, x57_1, run_reg, f36, run_mv, f37, f35, run_ia, put_at, put_no, ev_t, ev_c, reduceIte, Nat.reduceEqDiff, List.map_cons,
          List.map_nil]
      refine put1_eq (v := .ref (Node.cells x40) 0) (xia_lst hx41 rfl) ?_
      simp only [run_ld, put_at, put_no, ev_t, ev_c, reduceIte, Nat.reduceEqDiff, List.map_cons, List.map_nil]
      refine put1_eq (v := .agg [.int .i64 x40.View.Epoch, .int .i64 x40.View.Leader, lst cI x40.View.InStep, lst Row.cells x40.Log, lst cI x40.Known, .int .i64 x40.Told]) rfl ?_
      obtain ⟨v43, hx44, hF45⟩ := bind_some' hF42
      simp only [run_call, put_at, put_no, ev_t, ev_c, reduceIte, Nat.reduceEqDiff, List.map_cons, List.map_nil]
      refine call2 rfl hS34 (mapM1 (snap_agg (mapM1 snap_int (mapM1 snap_int (mapM1 snap_lst (mapM1 snap_lst (mapM1 snap_lst (mapM1 snap_int mapM0))))))) mapM0) (laws_toNode_x
          (fun b hb => decide_eq_true hb) k x40 v43 hx44) ?_
      rintro _ h58 ⟨v46, c47, v50, c51, v54, c55, rfl, hv48, hv52, hv56, hS59⟩
      refine ⟨_, free_a (all_c rfl (all_c rfl (all_c (SlF.free1 hv48) (all_c (SlF.free1 hv52) (all_c (SlF.free1 hv56) (all_c rfl all_n)))))), hS59,
          (pf_app (SlF.pf hv48 (fun _ => rfl)) (pf_app (SlF.pf hv52 (fun _ => rfl)) (pf_app (SlF.pf hv56 (fun _ => rfl)) pf_nil))), fun h60 hS61 => ?_⟩
      have hS62 : Sep h60 h.length (c47 ++ (c51 ++ (c55 ++ (c16 ++ ([]))))) := by simpa only [List.append_assoc, List.nil_append] using hS61
      obtain ⟨x63, hx64, hF65⟩ := bind_some' hF45
      simp only [run_ia, put_at, put_no, ev_t, ev_c, reduceIte, Nat.reduceEqDiff, List.map_cons, List.map_nil]
      obtain ⟨b66, hb67⟩ := SlN.isrow hv17 (geti_ne hx64)
      refine put1_eq (SlN.ia hv17 hb67 hx64) ?_
      obtain ⟨c70, cs71, os72, hv73, hR74, hS75⟩ := SlG.opn (SlN.toG hv17 hb67 Node.RO.len) hx64 hk_nil Node.RO.len (Sep.m3 hS62)
      obtain ⟨v77, c78, v81, c82, v85, c86, hv79, hv83, hv87, rfl, rfl⟩ := hR74
      have hS76 := Sep.no3 hS75
      simp only [run_st, put_at, put_no, ev_t, ev_c, reduceIte, Nat.reduceEqDiff, List.map_cons, List.map_nil]
      refine put2_stGx (us := [.int .i64 v43.View.Epoch, .int .i64 v43.View.Leader, v46, v50, v54, .int .i64 v43.Told]) (o := 0) (cs' := [.int .i64 v43.View.Epoch,
          .int .i64 v43.View.Leader, v46, v50, v54,
          .int .i64 v43.Told]) rfl hv73 rfl hx64 hS76 hW rfl (all_c rfl (all_c rfl (all_c (SlF.one hv48) (all_c (SlF.one hv52) (all_c (SlF.one hv56) (all_c rfl all_n))))))
          (Nat.le_of_ble_eq_true rfl) rfl (fun c89 h68 hv90 hS69 => ?_)
      simp only [put_no, run_ops_nil, run_blk, run_reg, f37, run_mv, run_bin, put1_some, xadd, run_nil, put_at, ev_t, ev_c, reduceIte, Nat.reduceEqDiff, List.map_cons,
          List.map_nil]
      obtain ⟨c91, hv92, hS93⟩ := SlG.cls (e' := v43) (c := c89) (os := c47 ++ (c51 ++ (c55))) hv90 rfl hx64 hk_nil (Node.RI (x := v43) hv48 hv52 hv56) (Sep.ni3 (c1 := c47)
          (c2 := c51) (c3 := c55) (Sep.m3 (Sep.m6 (Sep.m6 (Sep.m6 hS69)))))
      have hx94 := geti_set (x' := v43) hx64
      have hv95 := SlG.toN hv92
      have e96 := some_inj hF65
      exact hN27 _ _ _ e96.symm ⟨c91, by simp only [f35, put_at, put_no, ev_t, ev_c, reduceIte, Nat.reduceEqDiff, List.map_cons, List.map_nil], by simp only [f36, put_at, put_no,
          ev_t, ev_c, reduceIte, Nat.reduceEqDiff, List.map_cons, List.map_nil], by simp only [put_at, put_no, ev_t, ev_c, reduceIte, Nat.reduceEqDiff, List.map_cons,
          List.map_nil], hv95, (Sep.dc (Sep.m1 (Sep.dc (Sep.m1 (Sep.dc (Sep.m1 hS93))))))⟩
    · rw [iteF hc39] at hF24
      simp only [run_exit, out_code, out_nil, put_at, put_no, ev_t, ev_c, reduceIte, Nat.reduceEqDiff, List.map_cons, List.map_nil]
      have e97 := some_inj hF24
      exact hK28 _ _ _ e97.symm ⟨c16, by simp only [f35, put_at, put_no, ev_t, ev_c, reduceIte, Nat.reduceEqDiff, List.map_cons, List.map_nil], by simp only [f36, put_at, put_no,
          ev_t, ev_c, reduceIte, Nat.reduceEqDiff, List.map_cons, List.map_nil], by simp only [f37, put_at, put_no, ev_t, ev_c, reduceIte, Nat.reduceEqDiff, List.map_cons,
          List.map_nil], hv17, hS34⟩
  · rintro ⟨s99, s100⟩ fr103 h104 rfl ⟨c101, f106, f107, f108, hv102, hS105⟩
    dsimp only [jnO] at hk23
    dsimp only at *
    unfold laws_toNodeS_j1 at hk23
    simp only [run_seq, run_reg, f107, run_mv, run_ops_nil, run_ret, put_at, put_no, ev_t, ev_c, reduceIte, Nat.reduceEqDiff, List.map_cons, List.map_nil]
    have he := some_inj hk23
    subst he
    simp only [end_ret1, put_at, put_no, ev_t, ev_c, reduceIte, Nat.reduceEqDiff, List.map_cons, List.map_nil]
    exact ⟨v4, c101, by first | trivial | rfl, hv102, hS105⟩
theorem laws_toCluster_x {W : Nat → Bool} {h : Heap} (hW : ∀ b,
    h.length ≤ b → W b = true) (k : Nat) (a_0 : Cluster) (r : Cluster) (hF : laws_toCluster k a_0 = some r) : Ret E W 16 [.agg [.int .i64 a_0.Truth.Epoch,
    .int .i64 a_0.Truth.Leader, lst cI a_0.Truth.InStep, lst Node.cells a_0.Nodes, lst Row.cells a_0.Acked]] h (fun v h' => ∃ rv0_2 rc0_2 rv0_3 rc0_3 rv0_4 rc0_4,
    v = .agg [.int .i64 r.Truth.Epoch, .int .i64 r.Truth.Leader, rv0_2, rv0_3,
    rv0_4] ∧ SlF cI 1 3 rv0_2 r.Truth.InStep rc0_2 ∧ SlN Node.R 6 68 rv0_3 r.Nodes rc0_3 ∧ SlF Row.cells 2 92 rv0_4 r.Acked rc0_4 ∧ Sep h' h.length (rc0_2 ++ (rc0_3 ++ (rc0_4 ++
    ([]))))) := by
  refine Ret.of (fn := x16) rfl (Run.of ?_)
  unfold laws_toCluster at hF
  have zf0 : argFr [.agg [.int .i64 a_0.Truth.Epoch, .int .i64 a_0.Truth.Leader, lst cI a_0.Truth.InStep, lst Node.cells a_0.Nodes,
      lst Row.cells a_0.Acked]] 0 = .agg [.int .i64 a_0.Truth.Epoch, .int .i64 a_0.Truth.Leader, lst cI a_0.Truth.InStep, lst Node.cells a_0.Nodes, lst Row.cells a_0.Acked] := rfl
  generalize argFr [.agg [.int .i64 a_0.Truth.Epoch, .int .i64 a_0.Truth.Leader, lst cI a_0.Truth.InStep, lst Node.cells a_0.Nodes, lst Row.cells a_0.Acked]] = fr0 at zf0 ⊢
  have hS : Sep h h.length [] := Sep.nil h
  simp only [x16, run_seq, run_reg, run_box, zf0, put_at, put_no, ev_t, ev_c, reduceIte, Nat.reduceEqDiff, List.map_cons, List.map_nil]
  refine put2_boxC (cs := [.int .i64 a_0.Truth.Epoch, .int .i64 a_0.Truth.Leader, lst cI a_0.Truth.InStep, lst Node.cells a_0.Nodes,
      lst Row.cells a_0.Acked]) hS rfl rfl rfl (fun b1 h2 hS3 => ?_)
  simp only [run_new, put_at, put_no, ev_t, ev_c, reduceIte, Nat.reduceEqDiff, List.map_cons, List.map_nil]
  refine put2_newC hS3 (fun b5 h6 hS7 => ?_)
  simp only [run_ops_nil, put_at, put_no, ev_t, ev_c, reduceIte, Nat.reduceEqDiff, List.map_cons, List.map_nil]
  refine frz_stepC (Sep.m1 hS7) hW (by simp only [put_at, put_no, ev_t, ev_c, reduceIte, Nat.reduceEqDiff, List.map_cons, List.map_nil]) (fun h9 hS10 => ?_)
  simp only [run_frz_nil, x16_4, run_seq, run_reg, run_new, put_at, put_no, ev_t, ev_c, reduceIte, Nat.reduceEqDiff, List.map_cons, List.map_nil]
  refine put2_newC hS10 (fun b11 h12 hS13 => ?_)
  simp only [run_ops_nil, x16_3, run_seq, run_reg, run_fa, put1_some, Nat.reduceAdd, Nat.zero_add, Nat.add_zero, xfa_ref, run_ld, put_at, put_no, ev_t, ev_c, reduceIte,
      Nat.reduceEqDiff, List.map_cons, List.map_nil]
  refine put1_eq (v := .agg [.int .i64 a_0.Truth.Epoch, .int .i64 a_0.Truth.Leader, lst cI a_0.Truth.InStep]) rfl ?_
  obtain ⟨v15, hx16, hF17⟩ := bind_some' hF
  simp only [run_call, put_at, put_no, ev_t, ev_c, reduceIte, Nat.reduceEqDiff, List.map_cons, List.map_nil]
  refine call2 rfl hS13 (mapM1 (snap_agg (mapM1 snap_int (mapM1 snap_int (mapM1 snap_lst mapM0)))) mapM0) (laws_toView_x (fun b hb => decide_eq_true hb) k a_0.Truth v15 hx16) ?_
  rintro _ h22 ⟨v18, c19, rfl, hv20, hS23⟩
  refine ⟨_, free_a (all_c rfl (all_c rfl (all_c (SlF.free1 hv20) all_n))), hS23, (pf_app (SlF.pf hv20 (fun _ => rfl)) pf_nil), fun h24 hS25 => ?_⟩
  have hS26 : Sep h24 h.length (c19 ++ ([Blk1 b11 [.int .i64 0, .int .i64 0, .nil, .nil, .nil] 28] ++ ([Blk1 b5 [.int .i64 0, .int .i64 0, .nil, .nil,
      .nil] 28] ++ ([])))) := by simpa only [List.append_assoc, List.nil_append] using hS25
  simp only [run_fa, put1_some, Nat.reduceAdd, Nat.zero_add, Nat.add_zero, xfa_ptr, run_st, put_at, put_no, ev_t, ev_c, reduceIte, Nat.reduceEqDiff, List.map_cons, List.map_nil]
  refine put2_stCx (us := [.int .i64 v15.Epoch, .int .i64 v15.Leader, v18]) rfl (cs' := [.int .i64 v15.Epoch, .int .i64 v15.Leader, v18, .nil,
      .nil]) (Sep.m1 hS26) hW rfl (all_c rfl (all_c rfl (all_c (SlF.one hv20) all_n))) (Nat.le_of_ble_eq_true rfl) rfl (fun h27 hS28 => ?_)
  simp only [put_no, run_ops_nil, x16_2, run_seq, run_reg, run_fa, put1_some, Nat.reduceAdd, Nat.zero_add, Nat.add_zero, xfa_ref, run_ld, put_at, ev_t, ev_c, reduceIte,
      Nat.reduceEqDiff, List.map_cons, List.map_nil]
  refine put1_eq (v := lst Node.cells a_0.Nodes) rfl ?_
  obtain ⟨v29, hx30, hF31⟩ := bind_some' hF17
  simp only [run_call, put_at, put_no, ev_t, ev_c, reduceIte, Nat.reduceEqDiff, List.map_cons, List.map_nil]
  refine call2 rfl hS28 (mapM1 snap_lst mapM0) (laws_toNodeS_x (fun b hb => decide_eq_true hb) k a_0.Nodes v29 hx30) ?_
  rintro v32 h36 ⟨_, c33, rfl, hv34, hS37⟩
  refine ⟨_, free_1 (SlN.free1 hv34), hS37, (pf_app (SlN.pf hv34 Node.RO) pf_nil), fun h38 hS39 => ?_⟩
  have hS40 : Sep h38 h.length (c33 ++ ([Blk1 b11 [.int .i64 v15.Epoch, .int .i64 v15.Leader, v18, .nil, .nil] 28] ++ (c19 ++ ([Blk1 b5 [.int .i64 0, .int .i64 0, .nil, .nil,
      .nil] 28] ++ ([]))))) := by simpa only [List.append_assoc, List.nil_append] using hS39
  simp only [run_fa, put1_some, Nat.reduceAdd, Nat.zero_add, Nat.add_zero, xfa_ptr, run_st, put_at, put_no, ev_t, ev_c, reduceIte, Nat.reduceEqDiff, List.map_cons, List.map_nil]
  refine put2_stCx (us := [v32]) (cells_one (SlN.one hv34)) (cs' := [.int .i64 v15.Epoch, .int .i64 v15.Leader, v18, v32,
      .nil]) (Sep.m1 hS40) hW rfl (all_c (SlN.one hv34) all_n) (Nat.le_of_ble_eq_true rfl) rfl (fun h41 hS42 => ?_)
  simp only [put_no, run_ops_nil, x16_1, run_seq, run_reg, run_fa, put1_some, Nat.reduceAdd, Nat.zero_add, Nat.add_zero, xfa_ref, run_ld, put_at, ev_t, ev_c, reduceIte,
      Nat.reduceEqDiff, List.map_cons, List.map_nil]
  refine put1_eq (v := lst Row.cells a_0.Acked) rfl ?_
  obtain ⟨v43, hx44, hF45⟩ := bind_some' hF31
  simp only [run_call, put_at, put_no, ev_t, ev_c, reduceIte, Nat.reduceEqDiff, List.map_cons, List.map_nil]
  refine call2 rfl hS42 (mapM1 snap_lst mapM0) (laws_toRowS_x (fun b hb => decide_eq_true hb) k a_0.Acked v43 hx44) ?_
  rintro v46 h50 ⟨_, c47, rfl, hv48, hS51⟩
  refine ⟨_, free_1 (SlF.free1 hv48), hS51, (pf_app (SlF.pf hv48 (fun _ => rfl)) pf_nil), fun h52 hS53 => ?_⟩
  have hS54 : Sep h52 h.length (c47 ++ ([Blk1 b11 [.int .i64 v15.Epoch, .int .i64 v15.Leader, v18, v32, .nil] 28] ++ (c33 ++ (c19 ++ ([Blk1 b5 [.int .i64 0, .int .i64 0, .nil,
      .nil, .nil] 28] ++ ([])))))) := by simpa only [List.append_assoc, List.nil_append] using hS53
  simp only [run_fa, put1_some, Nat.reduceAdd, Nat.zero_add, Nat.add_zero, xfa_ptr, run_st, put_at, put_no, ev_t, ev_c, reduceIte, Nat.reduceEqDiff, List.map_cons, List.map_nil]
  refine put2_stCx (us := [v46]) (cells_one (SlF.one hv48)) (cs' := [.int .i64 v15.Epoch, .int .i64 v15.Leader, v18, v32,
      v46]) (Sep.m1 hS54) hW rfl (all_c (SlF.one hv48) all_n) (Nat.le_of_ble_eq_true rfl) rfl (fun h55 hS56 => ?_)
  simp only [put_no, run_ops_nil, run_seq, run_reg, run_ld, put_at, ev_t, ev_c, reduceIte, Nat.reduceEqDiff, List.map_cons, List.map_nil]
  refine put1_eq (v := .agg [.int .i64 v15.Epoch, .int .i64 v15.Leader, v18, v32, v46]) ((xld_bs (Sep.bk _ _ _ hS56)).trans rfl) ?_
  simp only [run_st, put_at, put_no, ev_t, ev_c, reduceIte, Nat.reduceEqDiff, List.map_cons, List.map_nil]
  refine put2_stCx (us := [.int .i64 v15.Epoch, .int .i64 v15.Leader, v18, v32, v46]) rfl (cs' := [.int .i64 v15.Epoch, .int .i64 v15.Leader, v18, v32,
      v46]) (Sep.m4 hS56) hW rfl (all_c rfl (all_c rfl (all_c (SlF.one hv20) (all_c (SlN.one hv34) (all_c (SlF.one hv48) all_n))))) (Nat.le_of_ble_eq_true rfl) rfl
      (fun h57 hS58 => ?_)
  simp only [put_no, run_ops_nil, run_ret, put_at, ev_t, ev_c, reduceIte, Nat.reduceEqDiff, List.map_cons, List.map_nil]
  have he := some_inj hF45
  subst he
  refine end_ret_cell (bb := b5) (oo := 0) (v := .agg [.int .i64 v15.Epoch, .int .i64 v15.Leader, v18, v32, v46]) (by simp only [put_at, put_no, ev_t, ev_c, reduceIte,
      Nat.reduceEqDiff, List.map_cons, List.map_nil]) ((xld_bs (Sep.bk _ _ _ hS58)).trans rfl) ?_
  exact ⟨v18, c19, v32, c33, v46, c47, by first | trivial | rfl, hv20, hv34, hv48, (Sep.m2 (Sep.m1 (Sep.dc ((Sep.dc (hS58))))))⟩
theorem impl_in_x {W : Nat → Bool} {h : Heap} (hW : ∀ b,
    h.length ≤ b → W b = true) (n_0 : Int) (low_1 : Int) (high_2 : Int) (r : Bool) (hF : some (impl_in n_0 low_1 high_2) = some r) : Ret E W 39 [.int .i64 n_0, .int .i64 low_1,
    .int .i64 high_2] h (fun v h' => cut h.length h' E.sz false 9 v = some (.bool r)) := by
  refine Ret.of (fn := x39) rfl (Run.of ?_)
  unfold impl_in at hF
  have zf0 : argFr [.int .i64 n_0, .int .i64 low_1, .int .i64 high_2] 0 = .int .i64 n_0 := rfl
  have zf1 : argFr [.int .i64 n_0, .int .i64 low_1, .int .i64 high_2] 1 = .int .i64 low_1 := rfl
  have zf2 : argFr [.int .i64 n_0, .int .i64 low_1, .int .i64 high_2] 2 = .int .i64 high_2 := rfl
  generalize argFr [.int .i64 n_0, .int .i64 low_1, .int .i64 high_2] = fr0 at zf0 zf1 zf2 ⊢
  have hS : Sep h h.length [] := Sep.nil h
  simp only [x39, run_seq, run_reg, run_mv, run_ops_nil, x39_1, zf0, zf1, run_bin, put1_some, xgeq, put_at, put_no, ev_t, ev_c, reduceIte, Nat.reduceEqDiff, List.map_cons,
      List.map_nil]
  refine ops_j 4 (fun fr' h' => Sep h' h.length ([]) ∧ fr' 14 = .bool ((decide (low_1 ≤ n_0)) && (decide (n_0 ≤ high_2)))) (fun Q1 hN2 => ?_) ?_
  · simp only [List.take_succ_cons, List.take_zero]
    simp only [run_guard (g := 10), put_at, put_no, ev_t, ev_c, reduceIte, Nat.reduceEqDiff, List.map_cons, List.map_nil]
    refine guard_split (t := (decide (low_1 ≤ n_0))) (fun hg3 => ?_) (fun hg3 => ?_)
    · simp only [hg3, run_guard (g := 10), guard_true, zf0, run_mv, zf2, run_bin, put1_some, xleq, run_pick, xpick_t, run_ops_nil, run_nil, put_at, put_no, ev_t, ev_c, reduceIte,
        Nat.reduceEqDiff, List.map_cons, List.map_nil]
      exact hN2 _ _ ⟨hS, by rw [andT hg3]; simp only [put_at, put_no, ev_t, ev_c, reduceIte, Nat.reduceEqDiff, List.map_cons, List.map_nil]⟩
    · simp only [hg3, run_guard (g := 10), guard_off, run_pick, put1_some, xpick_f, run_ops_nil, run_nil, put_at, put_no, ev_t, ev_c, reduceIte, Nat.reduceEqDiff, List.map_cons,
        List.map_nil]
      exact hN2 _ _ ⟨hS, by rw [andF hg3]; simp only [put_at, put_no, ev_t, ev_c, reduceIte, Nat.reduceEqDiff, List.map_cons, List.map_nil]⟩
  · rintro fr4 h6 ⟨hS7, f5⟩
    simp only [List.drop_succ_cons, List.drop_zero]
    simp only [f5, run_mv, run_ops_nil, run_ret, put_at, put_no, ev_t, ev_c, reduceIte, Nat.reduceEqDiff, List.map_cons, List.map_nil]
    have he := some_inj hF
    subst he
    simp only [end_ret1, put_at, put_no, ev_t, ev_c, reduceIte, Nat.reduceEqDiff, List.map_cons, List.map_nil]
    exact rfl
end Go.Proofs.Ytohofoampalhoaa.X
namespace Go.Proofs.Ytohofoampalhoaa.X
open Go
theorem slices_Index_int_x {W : Nat → Bool} {h : Heap} (hW : ∀ b,
    h.length ≤ b → W b = true) (s_0 : List Int) (v_1 : Int) (r : Int) (hF : slices_Index_int s_0 v_1 = some r) : Ret E W 96 [lst cI s_0,
    .int .i64 v_1] h (fun v h' => cut h.length h' E.sz false 9 v = some (.int .i64 r)) := by
  refine Ret.of (fn := x96) rfl (Run.of ?_)
  unfold slices_Index_int at hF
  have zf0 : argFr [lst cI s_0, .int .i64 v_1] 0 = lst cI s_0 := rfl
  have zf1 : argFr [lst cI s_0, .int .i64 v_1] 1 = .int .i64 v_1 := rfl
  generalize argFr [lst cI s_0, .int .i64 v_1] = fr0 at zf0 zf1 ⊢
  have hS : Sep h h.length [] := Sep.nil h
  simp only [x96, run_seq, run_reg, run_mv, run_ops_nil, x96_6, zf0, run_len, put1_some, xlen_lst, put_at, put_no, ev_t, ev_c, reduceIte, Nat.reduceEqDiff, List.map_cons,
      List.map_nil]
  obtain ⟨oc3, hX5, hk6⟩ := jn_some hF
  simp only [x96_5]
  refine rangeL_j (σ := Unit) s_0 (fun i1 x2 _ => slices_Index_int_b1 v_1 i1 x2 ) (fun s fr' h' => fr' 0 = lst cI s_0 ∧ fr' 1 = .int .i64 v_1 ∧ Sep h' h.length
      ([])) hX5 ⟨by simp only [zf0, put_at, put_no, ev_t, ev_c, reduceIte, Nat.reduceEqDiff, List.map_cons, List.map_nil], by simp only [zf1, put_at, put_no, ev_t, ev_c,
      reduceIte, Nat.reduceEqDiff, List.map_cons, List.map_nil], hS⟩ (by simp only [put_at, put_no, ev_t, ev_c, reduceIte, Nat.reduceEqDiff, List.map_cons,
      List.map_nil]) (by simp only [put_at, put_no, ev_t, ev_c, reduceIte, Nat.reduceEqDiff, List.map_cons,
      List.map_nil]) (fun _ _ _ h => h) rfl rfl (fun _ _ _ _ h => h) (fun _ _ _ _ h => h) (fun _ _ _ _ h => h) (by decide) ?_ ?_
  · rintro i1 x2 _ fr15 h16 hx20 ⟨f18, f19, hS17⟩ f21 f22 oc4 hF7 hr8 Q9 hN10 hB14 hK11 hR12 hE13
    unfold slices_Index_int_b1 at hF7
    simp only [x96_3, run_seq, run_reg, f21, run_mv, run_ops_nil, x96_2, f19, f18, run_ia, put_at, put_no, ev_t, ev_c, reduceIte, Nat.reduceEqDiff, List.map_cons, List.map_nil]
    refine put1_eq (v := .ref (cI x2) 0) (xia_lstN hx20 rfl) ?_
    simp only [run_ld, put_at, put_no, ev_t, ev_c, reduceIte, Nat.reduceEqDiff, List.map_cons, List.map_nil]
    refine put1_eq (v := .int .i64 x2) rfl ?_
    simp only [run_bin, put1_some, xeql, run_ops_nil, x96_1, run_cond, put_at, put_no, ev_t, ev_c, reduceIte, Nat.reduceEqDiff, List.map_cons, List.map_nil]
    refine cond_split (t := (decide (v_1 = x2))) (fun hc23 => ?_) (fun hc23 => ?_)
    · rw [iteT hc23] at hF7
      simp only [run_seq, run_reg, run_mv, run_ops_nil, run_ret, put_at, put_no, ev_t, ev_c, reduceIte, Nat.reduceEqDiff, List.map_cons, List.map_nil]
      have e24 := some_inj hF7
      subst e24
      have ho25 := hr8 _ rfl
      have hk26 := hk6
      rw [ho25] at hk26
      dsimp only [jnO] at hk26
      apply hR12
      have he := some_inj hk26
      subst he
      simp only [end_ret1, put_at, put_no, ev_t, ev_c, reduceIte, Nat.reduceEqDiff, List.map_cons, List.map_nil]
      exact rfl
    · rw [iteF hc23] at hF7
      simp only [run_skip, run_nil, put_at, put_no, ev_t, ev_c, reduceIte, Nat.reduceEqDiff, List.map_cons, List.map_nil]
      have e27 := some_inj hF7
      exact hN10 _ _ _ e27.symm ⟨by simp only [f18, put_at, put_no, ev_t, ev_c, reduceIte, Nat.reduceEqDiff, List.map_cons, List.map_nil], by simp only [f19, put_at, put_no, ev_t,
          ev_c, reduceIte, Nat.reduceEqDiff, List.map_cons, List.map_nil], hS17⟩ (by simp only [f21, put_at, put_no, ev_t, ev_c, reduceIte, Nat.reduceEqDiff, List.map_cons,
          List.map_nil]) (by simp only [f22, put_at, put_no, ev_t, ev_c, reduceIte, Nat.reduceEqDiff, List.map_cons, List.map_nil])
  · rintro _ fr29 h30 rfl ⟨f32, f33, hS31⟩
    dsimp only [jnO] at hk6
    unfold slices_Index_int_j1 at hk6
    simp only [run_seq, run_reg, run_mv, run_ops_nil, run_ret, put_at, put_no, ev_t, ev_c, reduceIte, Nat.reduceEqDiff, List.map_cons, List.map_nil]
    have he := some_inj hk6
    subst he
    simp only [end_ret1, put_at, put_no, ev_t, ev_c, reduceIte, Nat.reduceEqDiff, List.map_cons, List.map_nil]
    exact rfl
theorem slices_Contains_int_x {W : Nat → Bool} {h : Heap} (hW : ∀ b,
    h.length ≤ b → W b = true) (s_0 : List Int) (v_1 : Int) (r : Bool) (hF : slices_Contains_int s_0 v_1 = some r) : Ret E W 80 [lst cI s_0,
    .int .i64 v_1] h (fun v h' => cut h.length h' E.sz false 9 v = some (.bool r)) := by
  refine Ret.of (fn := x80) rfl (Run.of ?_)
  unfold slices_Contains_int at hF
  have zf0 : argFr [lst cI s_0, .int .i64 v_1] 0 = lst cI s_0 := rfl
  have zf1 : argFr [lst cI s_0, .int .i64 v_1] 1 = .int .i64 v_1 := rfl
  generalize argFr [lst cI s_0, .int .i64 v_1] = fr0 at zf0 zf1 ⊢
  have hS : Sep h h.length [] := Sep.nil h
  obtain ⟨v1, hx2, hF3⟩ := bind_some' hF
  simp only [x80, run_seq, run_reg, run_mv, run_ops_nil, x80_1, zf0, zf1, run_call, put_at, put_no, ev_t, ev_c, reduceIte, Nat.reduceEqDiff, List.map_cons, List.map_nil]
  refine call1 rfl (mapM1 snap_lst (mapM1 snap_int mapM0)) (slices_Index_int_x (fun b hb => decide_eq_true hb) s_0 v_1 v1 hx2) ?_
  simp only [run_bin, put1_some, xgeq, run_mv, run_ops_nil, run_ret, put_at, put_no, ev_t, ev_c, reduceIte, Nat.reduceEqDiff, List.map_cons, List.map_nil]
  have he := some_inj hF3
  subst he
  simp only [end_ret1, put_at, put_no, ev_t, ev_c, reduceIte, Nat.reduceEqDiff, List.map_cons, List.map_nil]
  exact rfl
theorem impl_areMembers_x {W : Nat → Bool} {h : Heap} (hW : ∀ b,
    h.length ≤ b → W b = true) (list_0 : List Int) (many_1 : Int) (r : Bool) (hF : impl_areMembers list_0 many_1 = some r) : Ret E W 92 [lst cI list_0,
    .int .i64 many_1] h (fun v h' => cut h.length h' E.sz false 9 v = some (.bool r)) := by
  refine Ret.of (fn := x92) rfl (Run.of ?_)
  unfold impl_areMembers at hF
  have zf0 : argFr [lst cI list_0, .int .i64 many_1] 0 = lst cI list_0 := rfl
  have zf1 : argFr [lst cI list_0, .int .i64 many_1] 1 = .int .i64 many_1 := rfl
  generalize argFr [lst cI list_0, .int .i64 many_1] = fr0 at zf0 zf1 ⊢
  have hS : Sep h h.length [] := Sep.nil h
  simp only [x92, run_seq, run_reg, run_mv, run_ops_nil, x92_5, zf0, run_len, put1_some, xlen_lst, put_at, put_no, ev_t, ev_c, reduceIte, Nat.reduceEqDiff, List.map_cons,
      List.map_nil]
  obtain ⟨oc3, hX5, hk6⟩ := jn_some hF
  simp only [x92_4]
  refine rangeL_j (σ := Unit) list_0 (fun i1 x2 _ => impl_areMembers_b1 list_0 many_1 i1 x2 )
      (fun s fr' h' => fr' 0 = lst cI list_0 ∧ fr' 1 = .int .i64 many_1 ∧ fr' 7 = lst cI list_0 ∧ Sep h' h.length ([])) hX5 ⟨by simp only [zf0, put_at, put_no, ev_t, ev_c,
      reduceIte, Nat.reduceEqDiff, List.map_cons, List.map_nil], by simp only [zf1, put_at, put_no, ev_t, ev_c, reduceIte, Nat.reduceEqDiff, List.map_cons, List.map_nil],
      by simp only [put_at, put_no, ev_t, ev_c, reduceIte, Nat.reduceEqDiff, List.map_cons, List.map_nil], hS⟩ (by simp only [put_at, put_no, ev_t, ev_c, reduceIte,
      Nat.reduceEqDiff, List.map_cons, List.map_nil]) (by simp only [put_at, put_no, ev_t, ev_c, reduceIte, Nat.reduceEqDiff, List.map_cons,
      List.map_nil]) (fun _ _ _ h => h) rfl rfl (fun _ _ _ _ h => h) (fun _ _ _ _ h => h) (fun _ _ _ _ h => h) (by decide) ?_ ?_
  · rintro i1 x2 _ fr15 h16 hx21 ⟨f18, f19, f20, hS17⟩ f22 f23 oc4 hF7 hr8 Q9 hN10 hB14 hK11 hR12 hE13
    unfold impl_areMembers_b1 at hF7
    simp only [x92_2, run_seq, run_reg, f22, run_mv, f20, run_ia, put_at, put_no, ev_t, ev_c, reduceIte, Nat.reduceEqDiff, List.map_cons, List.map_nil]
    refine put1_eq (v := .ref (cI x2) 0) (xia_lstN hx21 rfl) ?_
    simp only [run_ld, put_at, put_no, ev_t, ev_c, reduceIte, Nat.reduceEqDiff, List.map_cons, List.map_nil]
    refine put1_eq (v := .int .i64 x2) rfl ?_
    simp only [run_mv, run_ops_nil, x92_1, run_seq, run_reg, f19, run_bin, put1_some, xsub, run_call, put_at, put_no, ev_t, ev_c, reduceIte, Nat.reduceEqDiff, List.map_cons,
        List.map_nil]
    refine call1 rfl (mapM1 snap_int (mapM1 snap_int (mapM1 snap_int mapM0))) (impl_in_x (fun b hb => decide_eq_true hb) x2 0 (IntKind.wrap .i64 (many_1 - 1)) _ rfl) ?_
    simp only [run_un, put1_some, xnot, run_mv, put_at, put_no, ev_t, ev_c, reduceIte, Nat.reduceEqDiff, List.map_cons, List.map_nil]
    obtain ⟨v27, hx28, hF29⟩ := bind_some' hF7
    refine ops_j 12 (fun fr' h' => Sep h' h.length ([]) ∧ fr' 31 = .bool v27 ∧ fr' 0 = lst cI list_0 ∧ fr' 1 = .int .i64 many_1 ∧ fr' 7 = lst cI list_0 ∧ fr' 8 = .int .i64
        (List.length list_0 : Int) ∧ fr' 9 = .int .i64 (i1 : Int)) (fun Q24 hN25 => ?_) ?_
    · simp only [List.take_succ_cons, List.take_zero]
      simp only [run_guard (g := 19), put_at, put_no, ev_t, ev_c, reduceIte, Nat.reduceEqDiff, List.map_cons, List.map_nil]
      refine guard_split (t := (!(impl_in x2 0 (IntKind.wrap .i64 (many_1 - 1))))) (fun hg26 => ?_) (fun hg26 => ?_)
      · rw [iteT hg26] at hx28
        simp only [hg26, run_guard (g := 19), guard_off', run_guard (g := 22), guard_tup, run_pick, put1_some, xpick_t, run_ops_nil, run_nil, put_at, put_no, ev_t, ev_c,
            reduceIte, Nat.reduceEqDiff, List.map_cons, List.map_nil]
        have e30 := some_inj hx28
        exact hN25 _ _ ⟨hS17, by rw [← e30]; simp only [put_at, put_no, ev_t, ev_c, reduceIte, Nat.reduceEqDiff, List.map_cons, List.map_nil], by simp only [f18, put_at, put_no,
            ev_t, ev_c, reduceIte, Nat.reduceEqDiff, List.map_cons, List.map_nil], by simp only [f19, put_at, put_no, ev_t, ev_c, reduceIte, Nat.reduceEqDiff, List.map_cons,
            List.map_nil], by simp only [f20, put_at, put_no, ev_t, ev_c, reduceIte, Nat.reduceEqDiff, List.map_cons, List.map_nil], by simp only [f23, put_at, put_no, ev_t, ev_c,
            reduceIte, Nat.reduceEqDiff, List.map_cons, List.map_nil], by simp only [f22, put_at, put_no, ev_t, ev_c, reduceIte, Nat.reduceEqDiff, List.map_cons, List.map_nil]⟩
      · rw [iteF hg26] at hx28
        simp only [hg26, run_guard (g := 19), guard_false, run_mv, run_bin, put1_some, xgtr, put_at, put_no, ev_t, ev_c, reduceIte, Nat.reduceEqDiff, List.map_cons, List.map_nil]
        obtain ⟨v34, hx35, hF36⟩ := bind_some' hx28
        refine ops_j 8 (fun fr' h' => Sep h' h.length ([]) ∧ fr' 30 = .bool v34 ∧ fr' 0 = lst cI list_0 ∧ fr' 1 = .int .i64 many_1 ∧ fr' 7 = lst cI list_0 ∧ fr' 8 = .int .i64
            (List.length list_0 : Int) ∧ fr' 9 = .int .i64 (i1 : Int) ∧ fr' 19 = .bool (!(impl_in x2 0 (IntKind.wrap .i64 (many_1 - 1))))) (fun Q31 hN32 => ?_) ?_
        · simp only [List.take_succ_cons, List.take_zero]
          simp only [run_guard (g := 22), put_at, put_no, ev_t, ev_c, reduceIte, Nat.reduceEqDiff, List.map_cons, List.map_nil]
          refine guard_split (t := (decide ((0 : Int) < (i1 : Int)))) (fun hg33 => ?_) (fun hg33 => ?_)
          · rw [iteT hg33] at hx35
            obtain ⟨x37, hx38, hF39⟩ := bind_some' hx35
            simp only [hg33, run_guard (g := 22), guard_true, f18, run_mv, run_bin, put1_some, xsub, run_ia, put_at, put_no, ev_t, ev_c, reduceIte, Nat.reduceEqDiff,
                List.map_cons, List.map_nil]
            refine put1_eq (v := .ref (cI x37) 0) (xia_lst hx38 rfl) ?_
            simp only [hg33, run_guard (g := 22), guard_true, run_ld, put_at, put_no, ev_t, ev_c, reduceIte, Nat.reduceEqDiff, List.map_cons, List.map_nil]
            refine put1_eq (v := .int .i64 x37) rfl ?_
            simp only [hg33, run_guard (g := 22), guard_true, run_mv, run_bin, put1_some, xgeq, hg26, run_guard (g := 19), guard_false, run_pick, xpick_t, run_ops_nil, run_nil,
                put_at, put_no, ev_t, ev_c, reduceIte, Nat.reduceEqDiff, List.map_cons, List.map_nil]
            have e40 := some_inj hF39
            exact hN32 _ _ ⟨hS17, by rw [← e40]; simp only [put_at, put_no, ev_t, ev_c, reduceIte, Nat.reduceEqDiff, List.map_cons, List.map_nil], by simp only [f18, put_at,
                put_no, ev_t, ev_c, reduceIte, Nat.reduceEqDiff, List.map_cons, List.map_nil], by simp only [f19, put_at, put_no, ev_t, ev_c, reduceIte, Nat.reduceEqDiff,
                List.map_cons, List.map_nil], by simp only [f20, put_at, put_no, ev_t, ev_c, reduceIte, Nat.reduceEqDiff, List.map_cons, List.map_nil], by simp only [f23, put_at,
                put_no, ev_t, ev_c, reduceIte, Nat.reduceEqDiff, List.map_cons, List.map_nil], by simp only [f22, put_at, put_no, ev_t, ev_c, reduceIte, Nat.reduceEqDiff,
                List.map_cons, List.map_nil], by simp only [hg26, put_at, put_no, ev_t, ev_c, reduceIte, Nat.reduceEqDiff, List.map_cons, List.map_nil]⟩
          · rw [iteF hg33] at hx35
            simp only [hg33, run_guard (g := 22), guard_off, hg26, run_guard (g := 19), guard_false, run_pick, put1_some, xpick_f, run_ops_nil, run_nil, put_at, put_no, ev_t,
                ev_c, reduceIte, Nat.reduceEqDiff, List.map_cons, List.map_nil]
            have e41 := some_inj hx35
            exact hN32 _ _ ⟨hS17, by rw [← e41]; simp only [put_at, put_no, ev_t, ev_c, reduceIte, Nat.reduceEqDiff, List.map_cons, List.map_nil], by simp only [f18, put_at,
                put_no, ev_t, ev_c, reduceIte, Nat.reduceEqDiff, List.map_cons, List.map_nil], by simp only [f19, put_at, put_no, ev_t, ev_c, reduceIte, Nat.reduceEqDiff,
                List.map_cons, List.map_nil], by simp only [f20, put_at, put_no, ev_t, ev_c, reduceIte, Nat.reduceEqDiff, List.map_cons, List.map_nil], by simp only [f23, put_at,
                put_no, ev_t, ev_c, reduceIte, Nat.reduceEqDiff, List.map_cons, List.map_nil], by simp only [f22, put_at, put_no, ev_t, ev_c, reduceIte, Nat.reduceEqDiff,
                List.map_cons, List.map_nil], by simp only [hg26, put_at, put_no, ev_t, ev_c, reduceIte, Nat.reduceEqDiff, List.map_cons, List.map_nil]⟩
        · rintro fr42 h50 ⟨hS51, f43, f44, f45, f46, f47, f48, f49⟩
          simp only [List.drop_succ_cons, List.drop_zero]
          simp only [f49, hg26, run_pick, put1_some, xpick_f, f43, run_ops_nil, run_nil, put_at, put_no, ev_t, ev_c, reduceIte, Nat.reduceEqDiff, List.map_cons, List.map_nil]
          have e52 := some_inj hF36
          exact hN25 _ _ ⟨hS51, by rw [← e52]; simp only [put_at, put_no, ev_t, ev_c, reduceIte, Nat.reduceEqDiff, List.map_cons, List.map_nil], by simp only [f44, put_at, put_no,
              ev_t, ev_c, reduceIte, Nat.reduceEqDiff, List.map_cons, List.map_nil], by simp only [f45, put_at, put_no, ev_t, ev_c, reduceIte, Nat.reduceEqDiff, List.map_cons,
              List.map_nil], by simp only [f46, put_at, put_no, ev_t, ev_c, reduceIte, Nat.reduceEqDiff, List.map_cons, List.map_nil], by simp only [f47, put_at, put_no, ev_t,
              ev_c, reduceIte, Nat.reduceEqDiff, List.map_cons, List.map_nil], by simp only [f48, put_at, put_no, ev_t, ev_c, reduceIte, Nat.reduceEqDiff, List.map_cons,
              List.map_nil]⟩
    · rintro fr53 h60 ⟨hS61, f54, f55, f56, f57, f58, f59⟩
      simp only [List.drop_succ_cons, List.drop_zero]
      simp only [run_ops_nil, f54, run_cond, put_at, put_no, ev_t, ev_c, reduceIte, Nat.reduceEqDiff, List.map_cons, List.map_nil]
      refine cond_split (t := v27) (fun hc62 => ?_) (fun hc62 => ?_)
      · rw [iteT hc62] at hF29
        simp only [run_seq, run_reg, run_mv, run_ops_nil, run_ret, put_at, put_no, ev_t, ev_c, reduceIte, Nat.reduceEqDiff, List.map_cons, List.map_nil]
        have e63 := some_inj hF29
        subst e63
        have ho64 := hr8 _ rfl
        have hk65 := hk6
        rw [ho64] at hk65
        dsimp only [jnO] at hk65
        apply hR12
        have he := some_inj hk65
        subst he
        simp only [end_ret1, put_at, put_no, ev_t, ev_c, reduceIte, Nat.reduceEqDiff, List.map_cons, List.map_nil]
        exact rfl
      · rw [iteF hc62] at hF29
        simp only [run_skip, run_nil, put_at, put_no, ev_t, ev_c, reduceIte, Nat.reduceEqDiff, List.map_cons, List.map_nil]
        have e66 := some_inj hF29
        exact hN10 _ _ _ e66.symm ⟨by simp only [f55, put_at, put_no, ev_t, ev_c, reduceIte, Nat.reduceEqDiff, List.map_cons, List.map_nil], by simp only [f56, put_at, put_no,
            ev_t, ev_c, reduceIte, Nat.reduceEqDiff, List.map_cons, List.map_nil], by simp only [f57, put_at, put_no, ev_t, ev_c, reduceIte, Nat.reduceEqDiff, List.map_cons,
            List.map_nil], hS61⟩ (by simp only [f59, put_at, put_no, ev_t, ev_c, reduceIte, Nat.reduceEqDiff, List.map_cons, List.map_nil]) (by simp only [f58, put_at, put_no,
            ev_t, ev_c, reduceIte, Nat.reduceEqDiff, List.map_cons, List.map_nil])
  · rintro _ fr68 h69 rfl ⟨f71, f72, f73, hS70⟩
    dsimp only [jnO] at hk6
    unfold impl_areMembers_j1 at hk6
    simp only [run_seq, run_reg, run_mv, run_ops_nil, run_ret, put_at, put_no, ev_t, ev_c, reduceIte, Nat.reduceEqDiff, List.map_cons, List.map_nil]
    have he := some_inj hk6
    subst he
    simp only [end_ret1, put_at, put_no, ev_t, ev_c, reduceIte, Nat.reduceEqDiff, List.map_cons, List.map_nil]
    exact rfl
theorem impl_isView_x {W : Nat → Bool} {h : Heap} (hW : ∀ b,
    h.length ≤ b → W b = true) (v_0 : View) (nodes_1 : Int) (r : Bool) (hF : impl_isView v_0 nodes_1 = some r) : Ret E W 78 [.agg [.int .i64 v_0.Epoch, .int .i64 v_0.Leader,
    lst cI v_0.InStep], .int .i64 nodes_1] h (fun v h' => cut h.length h' E.sz false 9 v = some (.bool r)) := by
  refine Ret.of (fn := x78) rfl (Run.of ?_)
  unfold impl_isView at hF
  have zf0 : argFr [.agg [.int .i64 v_0.Epoch, .int .i64 v_0.Leader, lst cI v_0.InStep], .int .i64 nodes_1] 0 = .agg [.int .i64 v_0.Epoch, .int .i64 v_0.Leader,
      lst cI v_0.InStep] := rfl
  have zf1 : argFr [.agg [.int .i64 v_0.Epoch, .int .i64 v_0.Leader, lst cI v_0.InStep], .int .i64 nodes_1] 1 = .int .i64 nodes_1 := rfl
  generalize argFr [.agg [.int .i64 v_0.Epoch, .int .i64 v_0.Leader, lst cI v_0.InStep], .int .i64 nodes_1] = fr0 at zf0 zf1 ⊢
  have hS : Sep h h.length [] := Sep.nil h
  simp only [x78, run_seq, run_reg, run_box, zf0, put_at, put_no, ev_t, ev_c, reduceIte, Nat.reduceEqDiff, List.map_cons, List.map_nil]
  refine put2_boxC (cs := [.int .i64 v_0.Epoch, .int .i64 v_0.Leader, lst cI v_0.InStep]) hS rfl rfl rfl (fun b1 h2 hS3 => ?_)
  simp only [run_mv, run_ops_nil, put_at, put_no, ev_t, ev_c, reduceIte, Nat.reduceEqDiff, List.map_cons, List.map_nil]
  refine frz_stepC hS3 hW (by simp only [put_at, put_no, ev_t, ev_c, reduceIte, Nat.reduceEqDiff, List.map_cons, List.map_nil]) (fun h5 hS6 => ?_)
  simp only [run_frz_nil, x78_1, run_seq, run_reg, run_fa, put1_some, Nat.reduceAdd, Nat.zero_add, Nat.add_zero, xfa_ref, run_ld, put_at, put_no, ev_t, ev_c, reduceIte,
      Nat.reduceEqDiff, List.map_cons, List.map_nil]
  refine put1_eq (v := .int .i64 v_0.Epoch) rfl ?_
  simp only [run_call, put_at, put_no, ev_t, ev_c, reduceIte, Nat.reduceEqDiff, List.map_cons, List.map_nil]
  refine call1 rfl (mapM1 snap_int (mapM1 snap_int (mapM1 snap_int mapM0))) (impl_in_x (fun b hb => decide_eq_true hb) v_0.Epoch 0 100 _ rfl) ?_
  simp only [run_mv, put_at, put_no, ev_t, ev_c, reduceIte, Nat.reduceEqDiff, List.map_cons, List.map_nil]
  obtain ⟨v10, hx11, hF12⟩ := bind_some' hF
  refine ops_j 5 (fun fr' h' => Sep h' h.length ([]) ∧ fr' 13 = .bool v10 ∧ fr' 2 = .ref [.int .i64 v_0.Epoch, .int .i64 v_0.Leader, lst cI v_0.InStep] 0) (fun Q7 hN8 => ?_) ?_
  · simp only [List.take_succ_cons, List.take_zero]
    simp only [run_guard (g := 8), put_at, put_no, ev_t, ev_c, reduceIte, Nat.reduceEqDiff, List.map_cons, List.map_nil]
    refine guard_split (t := (impl_in v_0.Epoch 0 100)) (fun hg9 => ?_) (fun hg9 => ?_)
    · rw [iteT hg9] at hx11
      simp only [hg9, run_guard (g := 8), guard_true, run_fa, put1_some, Nat.reduceAdd, Nat.zero_add, Nat.add_zero, xfa_ref, run_ld, put_at, put_no, ev_t, ev_c, reduceIte,
          Nat.reduceEqDiff, List.map_cons, List.map_nil]
      refine put1_eq (v := lst cI v_0.InStep) rfl ?_
      obtain ⟨v13, hx14, hF15⟩ := bind_some' hx11
      simp only [hg9, run_guard (g := 8), guard_true, zf1, run_mv, run_call, put_at, put_no, ev_t, ev_c, reduceIte, Nat.reduceEqDiff, List.map_cons, List.map_nil]
      refine call1 rfl (mapM1 snap_lst (mapM1 snap_int mapM0)) (impl_areMembers_x (fun b hb => decide_eq_true hb) v_0.InStep nodes_1 v13 hx14) ?_
      simp only [hg9, run_pick, put1_some, xpick_t, run_ops_nil, run_nil, put_at, put_no, ev_t, ev_c, reduceIte, Nat.reduceEqDiff, List.map_cons, List.map_nil]
      have e16 := some_inj hF15
      exact hN8 _ _ ⟨hS6, by rw [← e16]; simp only [put_at, put_no, ev_t, ev_c, reduceIte, Nat.reduceEqDiff, List.map_cons, List.map_nil], by simp only [put_at, put_no, ev_t,
          ev_c, reduceIte, Nat.reduceEqDiff, List.map_cons, List.map_nil]⟩
    · rw [iteF hg9] at hx11
      simp only [hg9, run_guard (g := 8), guard_off, run_pick, put1_some, xpick_f, run_ops_nil, run_nil, put_at, put_no, ev_t, ev_c, reduceIte, Nat.reduceEqDiff, List.map_cons,
          List.map_nil]
      have e17 := some_inj hx11
      exact hN8 _ _ ⟨hS6, by rw [← e17]; simp only [put_at, put_no, ev_t, ev_c, reduceIte, Nat.reduceEqDiff, List.map_cons, List.map_nil], by simp only [put_at, put_no, ev_t,
          ev_c, reduceIte, Nat.reduceEqDiff, List.map_cons, List.map_nil]⟩
  · rintro fr18 h21 ⟨hS22, f19, f20⟩
    simp only [List.drop_succ_cons, List.drop_zero]
    simp only [f19, run_mv, put_at, put_no, ev_t, ev_c, reduceIte, Nat.reduceEqDiff, List.map_cons, List.map_nil]
    obtain ⟨v26, hx27, hF28⟩ := bind_some' hF12
    refine ops_j 6 (fun fr' h' => Sep h' h.length ([]) ∧ fr' 20 = .bool v26) (fun Q23 hN24 => ?_) ?_
    · simp only [List.take_succ_cons, List.take_zero]
      simp only [run_guard (g := 14), put_at, put_no, ev_t, ev_c, reduceIte, Nat.reduceEqDiff, List.map_cons, List.map_nil]
      refine guard_split (t := v10) (fun hg25 => ?_) (fun hg25 => ?_)
      · rw [iteT hg25] at hx27
        simp only [hg25, run_guard (g := 14), guard_true, f20, run_fa, put1_some, Nat.reduceAdd, Nat.zero_add, Nat.add_zero, xfa_ref, run_ld, put_at, put_no, ev_t, ev_c,
            reduceIte, Nat.reduceEqDiff, List.map_cons, List.map_nil]
        refine put1_eq (v := lst cI v_0.InStep) rfl ?_
        simp only [hg25, run_guard (g := 14), guard_true, f20, run_fa, put1_some, Nat.reduceAdd, Nat.zero_add, Nat.add_zero, xfa_ref, run_ld, put_at, put_no, ev_t, ev_c,
            reduceIte, Nat.reduceEqDiff, List.map_cons, List.map_nil]
        refine put1_eq (v := .int .i64 v_0.Leader) rfl ?_
        obtain ⟨v29, hx30, hF31⟩ := bind_some' hx27
        simp only [hg25, run_guard (g := 14), guard_true, run_call, put_at, put_no, ev_t, ev_c, reduceIte, Nat.reduceEqDiff, List.map_cons, List.map_nil]
        refine call1 rfl (mapM1 snap_lst (mapM1 snap_int mapM0)) (slices_Contains_int_x (fun b hb => decide_eq_true hb) v_0.InStep v_0.Leader v29 hx30) ?_
        simp only [hg25, run_pick, put1_some, xpick_t, run_ops_nil, run_nil, put_at, put_no, ev_t, ev_c, reduceIte, Nat.reduceEqDiff, List.map_cons, List.map_nil]
        have e32 := some_inj hF31
        exact hN24 _ _ ⟨hS22, by rw [← e32]; simp only [put_at, put_no, ev_t, ev_c, reduceIte, Nat.reduceEqDiff, List.map_cons, List.map_nil]⟩
      · rw [iteF hg25] at hx27
        simp only [hg25, run_guard (g := 14), guard_off, run_pick, put1_some, xpick_f, run_ops_nil, run_nil, put_at, put_no, ev_t, ev_c, reduceIte, Nat.reduceEqDiff,
            List.map_cons, List.map_nil]
        have e33 := some_inj hx27
        exact hN24 _ _ ⟨hS22, by rw [← e33]; simp only [put_at, put_no, ev_t, ev_c, reduceIte, Nat.reduceEqDiff, List.map_cons, List.map_nil]⟩
    · rintro fr34 h36 ⟨hS37, f35⟩
      simp only [List.drop_succ_cons, List.drop_zero]
      simp only [f35, run_mv, run_ops_nil, run_ret, put_at, put_no, ev_t, ev_c, reduceIte, Nat.reduceEqDiff, List.map_cons, List.map_nil]
      have he := some_inj hF28
      subst he
      simp only [end_ret1, put_at, put_no, ev_t, ev_c, reduceIte, Nat.reduceEqDiff, List.map_cons, List.map_nil]
      exact rfl
theorem impl_isRows_x {W : Nat → Bool} {h : Heap} (hW : ∀ b,
    h.length ≤ b → W b = true) (l_0 : List Row) (most_1 : Int) (r : Bool) (hF : impl_isRows l_0 most_1 = some r) : Ret E W 93 [lst Row.cells l_0,
    .int .i64 most_1] h (fun v h' => cut h.length h' E.sz false 9 v = some (.bool r)) := by
  refine Ret.of (fn := x93) rfl (Run.of ?_)
  unfold impl_isRows at hF
  have zf0 : argFr [lst Row.cells l_0, .int .i64 most_1] 0 = lst Row.cells l_0 := rfl
  have zf1 : argFr [lst Row.cells l_0, .int .i64 most_1] 1 = .int .i64 most_1 := rfl
  generalize argFr [lst Row.cells l_0, .int .i64 most_1] = fr0 at zf0 zf1 ⊢
  have hS : Sep h h.length [] := Sep.nil h
  simp only [x93, run_seq, run_reg, run_mv, run_ops_nil, x93_7, x93_6, zf0, run_len, put1_some, xlen_lst, put_at, put_no, ev_t, ev_c, reduceIte, Nat.reduceEqDiff, List.map_cons,
      List.map_nil]
  obtain ⟨oc5, hX7, hk8⟩ := jn_some hF
  simp only [x93_4]
  refine rangeL_j (σ := Int) l_0 (fun i3 x4 s53 => impl_isRows_b1 most_1 i3 x4 s53)
      (fun s fr' h' => fr' 0 = lst Row.cells l_0 ∧ fr' 1 = .int .i64 most_1 ∧ fr' 5 = .int .i64 s ∧ fr' 8 = lst Row.cells l_0 ∧ Sep h' h.length ([])) hX7 ⟨by simp only [zf0,
      put_at, put_no, ev_t, ev_c, reduceIte, Nat.reduceEqDiff, List.map_cons, List.map_nil], by simp only [zf1, put_at, put_no, ev_t, ev_c, reduceIte, Nat.reduceEqDiff,
      List.map_cons, List.map_nil], by simp only [put_at, put_no, ev_t, ev_c, reduceIte, Nat.reduceEqDiff, List.map_cons, List.map_nil], by simp only [put_at, put_no, ev_t, ev_c,
      reduceIte, Nat.reduceEqDiff, List.map_cons, List.map_nil], hS⟩ (by simp only [put_at, put_no, ev_t, ev_c, reduceIte, Nat.reduceEqDiff, List.map_cons,
      List.map_nil]) (by simp only [put_at, put_no, ev_t, ev_c, reduceIte, Nat.reduceEqDiff, List.map_cons,
      List.map_nil]) (fun _ _ _ h => h) rfl rfl (fun _ _ _ _ h => h) (fun _ _ _ _ h => h) (fun _ _ _ _ h => h) (by decide) ?_ ?_
  · rintro i3 x4 s2 fr17 h18 hx24 ⟨f20, f21, f22, f23, hS19⟩ f25 f26 oc6 hF9 hr10 Q11 hN12 hB16 hK13 hR14 hE15
    unfold impl_isRows_b1 at hF9
    simp only [x93_2, run_seq, run_reg, f23, f25, run_ia, put_at, put_no, ev_t, ev_c, reduceIte, Nat.reduceEqDiff, List.map_cons, List.map_nil]
    refine put1_eq (v := .ref (Row.cells x4) 0) (xia_lstN hx24 rfl) ?_
    simp only [run_ld, put_at, put_no, ev_t, ev_c, reduceIte, Nat.reduceEqDiff, List.map_cons, List.map_nil]
    refine put1_eq (v := .agg [.int .i64 x4.Epoch, .int .i64 x4.Value]) rfl ?_
    simp only [run_new, put_at, put_no, ev_t, ev_c, reduceIte, Nat.reduceEqDiff, List.map_cons, List.map_nil]
    refine put2_newC hS19 (fun b27 h28 hS29 => ?_)
    simp only [run_st, put_at, put_no, ev_t, ev_c, reduceIte, Nat.reduceEqDiff, List.map_cons, List.map_nil]
    refine put2_stCx (us := [.int .i64 x4.Epoch, .int .i64 x4.Value]) rfl (cs' := [.int .i64 x4.Epoch,
        .int .i64 x4.Value]) hS29 hW rfl rfl (Nat.le_of_ble_eq_true rfl) rfl (fun h31 hS32 => ?_)
    simp only [put_no, run_ops_nil, put_at, ev_t, ev_c, reduceIte, Nat.reduceEqDiff, List.map_cons, List.map_nil]
    refine frz_stepC hS32 hW (by simp only [put_at, put_no, ev_t, ev_c, reduceIte, Nat.reduceEqDiff, List.map_cons, List.map_nil]) (fun h33 hS34 => ?_)
    simp only [run_frz_nil, x93_1, run_seq, run_reg, run_fa, put1_some, Nat.reduceAdd, Nat.zero_add, Nat.add_zero, xfa_ref, run_ld, put_at, put_no, ev_t, ev_c, reduceIte,
        Nat.reduceEqDiff, List.map_cons, List.map_nil]
    refine put1_eq (v := .int .i64 x4.Epoch) rfl ?_
    simp only [f22, run_mv, f21, run_call, put_at, put_no, ev_t, ev_c, reduceIte, Nat.reduceEqDiff, List.map_cons, List.map_nil]
    refine call1 rfl (mapM1 snap_int (mapM1 snap_int (mapM1 snap_int mapM0))) (impl_in_x (fun b hb => decide_eq_true hb) x4.Epoch s2 most_1 _ rfl) ?_
    simp only [run_un, put1_some, xnot, run_mv, put_at, put_no, ev_t, ev_c, reduceIte, Nat.reduceEqDiff, List.map_cons, List.map_nil]
    refine ops_j 5 (fun fr' h' => Sep h' h.length ([]) ∧ fr' 25 = .bool ((!(impl_in x4.Epoch s2 most_1)) ||
        (!(impl_in x4.Value 0 99))) ∧ fr' 0 = lst Row.cells l_0 ∧ fr' 1 = .int .i64 most_1 ∧ fr' 7 = .ref [.int .i64 x4.Epoch,
        .int .i64 x4.Value] 0 ∧ fr' 8 = lst Row.cells l_0 ∧ fr' 9 = .int .i64 (List.length l_0 : Int) ∧ fr' 10 = .int .i64 (i3 : Int)) (fun Q35 hN36 => ?_) ?_
    · simp only [List.take_succ_cons, List.take_zero]
      simp only [run_guard (g := 20), put_at, put_no, ev_t, ev_c, reduceIte, Nat.reduceEqDiff, List.map_cons, List.map_nil]
      refine guard_split (t := (!(impl_in x4.Epoch s2 most_1))) (fun hg37 => ?_) (fun hg37 => ?_)
      · simp only [hg37, run_guard (g := 20), guard_off', run_pick, put1_some, xpick_t, run_ops_nil, run_nil, put_at, put_no, ev_t, ev_c, reduceIte, Nat.reduceEqDiff,
          List.map_cons, List.map_nil]
        exact hN36 _ _ ⟨hS34, by rw [orT hg37]; simp only [put_at, put_no, ev_t, ev_c, reduceIte, Nat.reduceEqDiff, List.map_cons, List.map_nil], by simp only [f20, put_at,
            put_no, ev_t, ev_c, reduceIte, Nat.reduceEqDiff, List.map_cons, List.map_nil], by simp only [f21, put_at, put_no, ev_t, ev_c, reduceIte, Nat.reduceEqDiff,
            List.map_cons, List.map_nil], by simp only [put_at, put_no, ev_t, ev_c, reduceIte, Nat.reduceEqDiff, List.map_cons, List.map_nil], by simp only [f23, put_at, put_no,
            ev_t, ev_c, reduceIte, Nat.reduceEqDiff, List.map_cons, List.map_nil], by simp only [f26, put_at, put_no, ev_t, ev_c, reduceIte, Nat.reduceEqDiff, List.map_cons,
            List.map_nil], by simp only [f25, put_at, put_no, ev_t, ev_c, reduceIte, Nat.reduceEqDiff, List.map_cons, List.map_nil]⟩
      · simp only [hg37, run_guard (g := 20), guard_false, run_fa, put1_some, Nat.reduceAdd, Nat.zero_add, Nat.add_zero, xfa_ref, run_ld, put_at, put_no, ev_t, ev_c, reduceIte,
          Nat.reduceEqDiff, List.map_cons, List.map_nil]
        refine put1_eq (v := .int .i64 x4.Value) rfl ?_
        simp only [hg37, run_guard (g := 20), guard_false, run_call, put_at, put_no, ev_t, ev_c, reduceIte, Nat.reduceEqDiff, List.map_cons, List.map_nil]
        refine call1 rfl (mapM1 snap_int (mapM1 snap_int (mapM1 snap_int mapM0))) (impl_in_x (fun b hb => decide_eq_true hb) x4.Value 0 99 _ rfl) ?_
        simp only [hg37, run_guard (g := 20), guard_false, run_un, put1_some, xnot, run_pick, xpick_f, run_ops_nil, run_nil, put_at, put_no, ev_t, ev_c, reduceIte,
            Nat.reduceEqDiff, List.map_cons, List.map_nil]
        exact hN36 _ _ ⟨hS34, by rw [orF hg37]; simp only [put_at, put_no, ev_t, ev_c, reduceIte, Nat.reduceEqDiff, List.map_cons, List.map_nil], by simp only [f20, put_at,
            put_no, ev_t, ev_c, reduceIte, Nat.reduceEqDiff, List.map_cons, List.map_nil], by simp only [f21, put_at, put_no, ev_t, ev_c, reduceIte, Nat.reduceEqDiff,
            List.map_cons, List.map_nil], by simp only [put_at, put_no, ev_t, ev_c, reduceIte, Nat.reduceEqDiff, List.map_cons, List.map_nil], by simp only [f23, put_at, put_no,
            ev_t, ev_c, reduceIte, Nat.reduceEqDiff, List.map_cons, List.map_nil], by simp only [f26, put_at, put_no, ev_t, ev_c, reduceIte, Nat.reduceEqDiff, List.map_cons,
            List.map_nil], by simp only [f25, put_at, put_no, ev_t, ev_c, reduceIte, Nat.reduceEqDiff, List.map_cons, List.map_nil]⟩
    · rintro fr38 h46 ⟨hS47, f39, f40, f41, f42, f43, f44, f45⟩
      simp only [List.drop_succ_cons, List.drop_zero]
      simp only [run_ops_nil, f39, run_cond, put_at, put_no, ev_t, ev_c, reduceIte, Nat.reduceEqDiff, List.map_cons, List.map_nil]
      refine cond_split (t := ((!(impl_in x4.Epoch s2 most_1)) || (!(impl_in x4.Value 0 99)))) (fun hc48 => ?_) (fun hc48 => ?_)
      · rw [iteT hc48] at hF9
        simp only [run_seq, run_reg, run_mv, run_ops_nil, run_ret, put_at, put_no, ev_t, ev_c, reduceIte, Nat.reduceEqDiff, List.map_cons, List.map_nil]
        have e49 := some_inj hF9
        subst e49
        have ho50 := hr10 _ rfl
        have hk51 := hk8
        rw [ho50] at hk51
        dsimp only [jnO] at hk51
        apply hR14
        have he := some_inj hk51
        subst he
        simp only [end_ret1, put_at, put_no, ev_t, ev_c, reduceIte, Nat.reduceEqDiff, List.map_cons, List.map_nil]
        exact rfl
      · rw [iteF hc48] at hF9
        simp only [run_skip, run_reg, f42, run_fa, put1_some, Nat.reduceAdd, Nat.zero_add, Nat.add_zero, xfa_ref, run_ld, put_at, put_no, ev_t, ev_c, reduceIte, Nat.reduceEqDiff,
            List.map_cons, List.map_nil]
        refine put1_eq (v := .int .i64 x4.Epoch) rfl ?_
        simp only [run_mv, run_ops_nil, run_nil, put_at, put_no, ev_t, ev_c, reduceIte, Nat.reduceEqDiff, List.map_cons, List.map_nil]
        have e52 := some_inj hF9
        exact hN12 _ _ _ e52.symm ⟨by simp only [f40, put_at, put_no, ev_t, ev_c, reduceIte, Nat.reduceEqDiff, List.map_cons, List.map_nil], by simp only [f41, put_at, put_no,
            ev_t, ev_c, reduceIte, Nat.reduceEqDiff, List.map_cons, List.map_nil], by simp only [put_at, put_no, ev_t, ev_c, reduceIte, Nat.reduceEqDiff, List.map_cons,
            List.map_nil], by simp only [f43, put_at, put_no, ev_t, ev_c, reduceIte, Nat.reduceEqDiff, List.map_cons, List.map_nil], hS47⟩ (by simp only [f45, put_at, put_no,
            ev_t, ev_c, reduceIte, Nat.reduceEqDiff, List.map_cons, List.map_nil]) (by simp only [f44, put_at, put_no, ev_t, ev_c, reduceIte, Nat.reduceEqDiff, List.map_cons,
            List.map_nil])
  · rintro s54 fr55 h56 rfl ⟨f58, f59, f60, f61, hS57⟩
    dsimp only [jnO] at hk8
    unfold impl_isRows_j1 at hk8
    simp only [x93_5, run_seq, run_reg, f58, run_mv, run_len, put1_some, xlen_lst, run_bin, xleq, run_ops_nil, run_ret, put_at, put_no, ev_t, ev_c, reduceIte, Nat.reduceEqDiff,
        List.map_cons, List.map_nil]
    have he := some_inj hk8
    subst he
    simp only [end_ret1, put_at, put_no, ev_t, ev_c, reduceIte, Nat.reduceEqDiff, List.map_cons, List.map_nil]
    exact rfl
theorem slices_IndexFunc_int_x {W : Nat → Bool} {h : Heap} (hW : ∀ b,
    h.length ≤ b → W b = true) (s_0 : List Int) {g1 : Nat} {caps1 : List XV} (hm1 : E.mode g1 = 1) (f_1 : Int → Option Bool) (hf1 : ∀ (W : Nat → Bool) (h : Heap), (∀ b,
    h.length ≤ b → W b = true) → ∀ a0 r, f_1 a0 = some r → Ret E W g1 ([.int .i64 a0] ++ caps1) h (fun v h' => cut h.length h' E.sz false 9 v = some (.bool r))) (r : Int)
    (hF : slices_IndexFunc_int s_0 f_1 = some r) : Ret E W 101 [lst cI s_0, .fn g1 caps1] h (fun v h' => cut h.length h' E.sz false 9 v = some (.int .i64 r)) := by
  refine Ret.of (fn := x101) rfl (Run.of ?_)
  unfold slices_IndexFunc_int at hF
  have zf0 : argFr [lst cI s_0, .fn g1 caps1] 0 = lst cI s_0 := rfl
  have zf1 : argFr [lst cI s_0, .fn g1 caps1] 1 = .fn g1 caps1 := rfl
  generalize argFr [lst cI s_0, .fn g1 caps1] = fr0 at zf0 zf1 ⊢
  have hS : Sep h h.length [] := Sep.nil h
  simp only [x101, run_seq, run_reg, run_mv, run_ops_nil, x101_6, zf0, run_len, put1_some, xlen_lst, put_at, put_no, ev_t, ev_c, reduceIte, Nat.reduceEqDiff, List.map_cons,
      List.map_nil]
  obtain ⟨oc3, hX5, hk6⟩ := jn_some hF
  simp only [x101_5]
  refine rangeL_j (σ := Unit) s_0 (fun i1 x2 _ => slices_IndexFunc_int_b1 f_1 i1 x2 ) (fun s fr' h' => fr' 0 = lst cI s_0 ∧ fr' 1 = .fn g1 caps1 ∧ Sep h' h.length
      ([])) hX5 ⟨by simp only [zf0, put_at, put_no, ev_t, ev_c, reduceIte, Nat.reduceEqDiff, List.map_cons, List.map_nil], by simp only [zf1, put_at, put_no, ev_t, ev_c,
      reduceIte, Nat.reduceEqDiff, List.map_cons, List.map_nil], hS⟩ (by simp only [put_at, put_no, ev_t, ev_c, reduceIte, Nat.reduceEqDiff, List.map_cons,
      List.map_nil]) (by simp only [put_at, put_no, ev_t, ev_c, reduceIte, Nat.reduceEqDiff, List.map_cons,
      List.map_nil]) (fun _ _ _ h => h) rfl rfl (fun _ _ _ _ h => h) (fun _ _ _ _ h => h) (fun _ _ _ _ h => h) (by decide) ?_ ?_
  · rintro i1 x2 _ fr15 h16 hx20 ⟨f18, f19, hS17⟩ f21 f22 oc4 hF7 hr8 Q9 hN10 hB14 hK11 hR12 hE13
    unfold slices_IndexFunc_int_b1 at hF7
    simp only [x101_3, run_seq, run_reg, f21, run_mv, run_ops_nil, x101_2, f19, f18, run_ia, put_at, put_no, ev_t, ev_c, reduceIte, Nat.reduceEqDiff, List.map_cons, List.map_nil]
    refine put1_eq (v := .ref (cI x2) 0) (xia_lstN hx20 rfl) ?_
    simp only [run_ld, put_at, put_no, ev_t, ev_c, reduceIte, Nat.reduceEqDiff, List.map_cons, List.map_nil]
    refine put1_eq (v := .int .i64 x2) rfl ?_
    obtain ⟨v23, hx24, hF25⟩ := bind_some' hF7
    simp only [run_call, put_at, put_no, ev_t, ev_c, reduceIte, Nat.reduceEqDiff, List.map_cons, List.map_nil]
    refine call1 hm1 (mapM1 snap_int mapM0) (hf1 _ _ (fun b hb => decide_eq_true hb) x2 v23 hx24) ?_
    simp only [run_ops_nil, x101_1, run_cond, put_at, put_no, ev_t, ev_c, reduceIte, Nat.reduceEqDiff, List.map_cons, List.map_nil]
    refine cond_split (t := v23) (fun hc26 => ?_) (fun hc26 => ?_)
    · rw [iteT hc26] at hF25
      simp only [run_seq, run_reg, run_mv, run_ops_nil, run_ret, put_at, put_no, ev_t, ev_c, reduceIte, Nat.reduceEqDiff, List.map_cons, List.map_nil]
      have e27 := some_inj hF25
      subst e27
      have ho28 := hr8 _ rfl
      have hk29 := hk6
      rw [ho28] at hk29
      dsimp only [jnO] at hk29
      apply hR12
      have he := some_inj hk29
      subst he
      simp only [end_ret1, put_at, put_no, ev_t, ev_c, reduceIte, Nat.reduceEqDiff, List.map_cons, List.map_nil]
      exact rfl
    · rw [iteF hc26] at hF25
      simp only [run_skip, run_nil, put_at, put_no, ev_t, ev_c, reduceIte, Nat.reduceEqDiff, List.map_cons, List.map_nil]
      have e30 := some_inj hF25
      exact hN10 _ _ _ e30.symm ⟨by simp only [f18, put_at, put_no, ev_t, ev_c, reduceIte, Nat.reduceEqDiff, List.map_cons, List.map_nil], by simp only [f19, put_at, put_no, ev_t,
          ev_c, reduceIte, Nat.reduceEqDiff, List.map_cons, List.map_nil], hS17⟩ (by simp only [f21, put_at, put_no, ev_t, ev_c, reduceIte, Nat.reduceEqDiff, List.map_cons,
          List.map_nil]) (by simp only [f22, put_at, put_no, ev_t, ev_c, reduceIte, Nat.reduceEqDiff, List.map_cons, List.map_nil])
  · rintro _ fr32 h33 rfl ⟨f35, f36, hS34⟩
    dsimp only [jnO] at hk6
    unfold slices_IndexFunc_int_j1 at hk6
    simp only [run_seq, run_reg, run_mv, run_ops_nil, run_ret, put_at, put_no, ev_t, ev_c, reduceIte, Nat.reduceEqDiff, List.map_cons, List.map_nil]
    have he := some_inj hk6
    subst he
    simp only [end_ret1, put_at, put_no, ev_t, ev_c, reduceIte, Nat.reduceEqDiff, List.map_cons, List.map_nil]
    exact rfl
theorem slices_ContainsFunc_int_x {W : Nat → Bool} {h : Heap} (hW : ∀ b,
    h.length ≤ b → W b = true) (s_0 : List Int) {g1 : Nat} {caps1 : List XV} (hm1 : E.mode g1 = 1) (f_1 : Int → Option Bool) (hf1 : ∀ (W : Nat → Bool) (h : Heap), (∀ b,
    h.length ≤ b → W b = true) → ∀ a0 r, f_1 a0 = some r → Ret E W g1 ([.int .i64 a0] ++ caps1) h (fun v h' => cut h.length h' E.sz false 9 v = some (.bool r))) (r : Bool)
    (hF : slices_ContainsFunc_int s_0 f_1 = some r) : Ret E W 94 [lst cI s_0, .fn g1 caps1] h (fun v h' => cut h.length h' E.sz false 9 v = some (.bool r)) := by
  refine Ret.of (fn := x94) rfl (Run.of ?_)
  unfold slices_ContainsFunc_int at hF
  have zf0 : argFr [lst cI s_0, .fn g1 caps1] 0 = lst cI s_0 := rfl
  have zf1 : argFr [lst cI s_0, .fn g1 caps1] 1 = .fn g1 caps1 := rfl
  generalize argFr [lst cI s_0, .fn g1 caps1] = fr0 at zf0 zf1 ⊢
  have hS : Sep h h.length [] := Sep.nil h
  obtain ⟨v1, hx2, hF3⟩ := bind_some' hF
  simp only [x94, run_seq, run_reg, run_mv, run_ops_nil, x94_1, zf0, zf1, run_call, put_at, put_no, ev_t, ev_c, reduceIte, Nat.reduceEqDiff, List.map_cons, List.map_nil]
  refine call1 rfl (mapM1 snap_lst (mapM1 snap_fn mapM0)) (slices_IndexFunc_int_x (fun b hb => decide_eq_true hb) s_0 (g1 := g1) (caps1 := caps1) hm1 f_1 hf1 v1 hx2) ?_
  simp only [run_bin, put1_some, xgeq, run_mv, run_ops_nil, run_ret, put_at, put_no, ev_t, ev_c, reduceIte, Nat.reduceEqDiff, List.map_cons, List.map_nil]
  have he := some_inj hF3
  subst he
  simp only [end_ret1, put_at, put_no, ev_t, ev_c, reduceIte, Nat.reduceEqDiff, List.map_cons, List.map_nil]
  exact rfl
theorem impl_isClusterNode_1_x {W : Nat → Bool} {h : Heap} (hW : ∀ b,
    h.length ≤ b → W b = true) (k_0 : Int) (cap_0 : Node) (cap_1 : Int) (r : Bool) (hF : some (impl_isClusterNode_1 k_0 cap_0 cap_1) = some r) : Ret E W 95 [.int .i64 k_0,
    .ref (Node.cells cap_0) 0, .ref (cI cap_1) 0] h (fun v h' => cut h.length h' E.sz false 9 v = some (.bool r)) := by
  refine Ret.of (fn := x95) rfl (Run.of ?_)
  unfold impl_isClusterNode_1 at hF
  have zf0 : argFr [.int .i64 k_0, .ref (Node.cells cap_0) 0, .ref (cI cap_1) 0] 0 = .int .i64 k_0 := rfl
  have zf1 : argFr [.int .i64 k_0, .ref (Node.cells cap_0) 0, .ref (cI cap_1) 0] 1 = .ref (Node.cells cap_0) 0 := rfl
  have zf2 : argFr [.int .i64 k_0, .ref (Node.cells cap_0) 0, .ref (cI cap_1) 0] 2 = .ref (cI cap_1) 0 := rfl
  generalize argFr [.int .i64 k_0, .ref (Node.cells cap_0) 0, .ref (cI cap_1) 0] = fr0 at zf0 zf1 zf2 ⊢
  have hS : Sep h h.length [] := Sep.nil h
  simp only [x95, run_seq, run_reg, run_mv, run_ops_nil, x95_1, zf0, zf1, run_fa, put1_some, Nat.reduceAdd, Nat.zero_add, Nat.add_zero, xfa_ref, run_ld, put_at, put_no, ev_t,
      ev_c, reduceIte, Nat.reduceEqDiff, List.map_cons, List.map_nil]
  refine put1_eq (v := lst Row.cells cap_0.Log) rfl ?_
  simp only [run_len, put1_some, xlen_lst, run_call, put_at, put_no, ev_t, ev_c, reduceIte, Nat.reduceEqDiff, List.map_cons, List.map_nil]
  refine call1 rfl (mapM1 snap_int (mapM1 snap_int (mapM1 snap_int mapM0))) (impl_in_x (fun b hb => decide_eq_true hb) k_0 0 (List.length cap_0.Log : Int) _ rfl) ?_
  simp only [run_un, put1_some, xnot, run_mv, put_at, put_no, ev_t, ev_c, reduceIte, Nat.reduceEqDiff, List.map_cons, List.map_nil]
  refine ops_j 10 (fun fr' h' => Sep h' h.length ([]) ∧ fr' 21 = .bool ((!(impl_in k_0 0 (List.length cap_0.Log : Int))) || ((decide (cap_0.View.Leader ≠ cap_1)) && (decide
      (k_0 ≠ 0))))) (fun Q1 hN2 => ?_) ?_
  · simp only [List.take_succ_cons, List.take_zero]
    simp only [run_guard (g := 11), put_at, put_no, ev_t, ev_c, reduceIte, Nat.reduceEqDiff, List.map_cons, List.map_nil]
    refine guard_split (t := (!(impl_in k_0 0 (List.length cap_0.Log : Int)))) (fun hg3 => ?_) (fun hg3 => ?_)
    · simp only [hg3, run_guard (g := 11), guard_off', run_guard (g := 17), guard_tup, run_pick, put1_some, xpick_t, run_ops_nil, run_nil, put_at, put_no, ev_t, ev_c, reduceIte,
        Nat.reduceEqDiff, List.map_cons, List.map_nil]
      exact hN2 _ _ ⟨hS, by rw [orT hg3]; simp only [put_at, put_no, ev_t, ev_c, reduceIte, Nat.reduceEqDiff, List.map_cons, List.map_nil]⟩
    · simp only [hg3, run_guard (g := 11), guard_false, zf1, run_fa, put1_some, Nat.reduceAdd, Nat.zero_add, Nat.add_zero, xfa_ref, run_ld, put_at, put_no, ev_t, ev_c, reduceIte,
        Nat.reduceEqDiff, List.map_cons, List.map_nil]
      refine put1_eq (v := .int .i64 cap_0.View.Leader) rfl ?_
      simp only [hg3, run_guard (g := 11), guard_false, zf2, run_ld, put_at, put_no, ev_t, ev_c, reduceIte, Nat.reduceEqDiff, List.map_cons, List.map_nil]
      refine put1_eq (v := .int .i64 cap_1) rfl ?_
      simp only [hg3, run_guard (g := 11), guard_false, run_bin, put1_some, xneq, run_mv, put_at, put_no, ev_t, ev_c, reduceIte, Nat.reduceEqDiff, List.map_cons, List.map_nil]
      refine ops_j 3 (fun fr' h' => Sep h' h.length ([]) ∧ fr' 20 = .bool ((decide (cap_0.View.Leader ≠ cap_1)) && (decide (k_0 ≠ 0))) ∧ fr' 11 = .bool (!(impl_in k_0 0
          (List.length cap_0.Log : Int)))) (fun Q4 hN5 => ?_) ?_
      · simp only [List.take_succ_cons, List.take_zero]
        simp only [run_guard (g := 17), put_at, put_no, ev_t, ev_c, reduceIte, Nat.reduceEqDiff, List.map_cons, List.map_nil]
        refine guard_split (t := (decide (cap_0.View.Leader ≠ cap_1))) (fun hg6 => ?_) (fun hg6 => ?_)
        · simp only [hg6, run_guard (g := 17), guard_true, zf0, run_mv, run_bin, put1_some, xneq, hg3, run_guard (g := 11), guard_false, run_pick, xpick_t, run_ops_nil, run_nil,
            put_at, put_no, ev_t, ev_c, reduceIte, Nat.reduceEqDiff, List.map_cons, List.map_nil]
          exact hN5 _ _ ⟨hS, by rw [andT hg6]; simp only [put_at, put_no, ev_t, ev_c, reduceIte, Nat.reduceEqDiff, List.map_cons, List.map_nil], by simp only [hg3, put_at, put_no,
              ev_t, ev_c, reduceIte, Nat.reduceEqDiff, List.map_cons, List.map_nil]⟩
        · simp only [hg6, run_guard (g := 17), guard_off, hg3, run_guard (g := 11), guard_false, run_pick, put1_some, xpick_f, run_ops_nil, run_nil, put_at, put_no, ev_t, ev_c,
            reduceIte, Nat.reduceEqDiff, List.map_cons, List.map_nil]
          exact hN5 _ _ ⟨hS, by rw [andF hg6]; simp only [put_at, put_no, ev_t, ev_c, reduceIte, Nat.reduceEqDiff, List.map_cons, List.map_nil], by simp only [hg3, put_at, put_no,
              ev_t, ev_c, reduceIte, Nat.reduceEqDiff, List.map_cons, List.map_nil]⟩
      · rintro fr7 h10 ⟨hS11, f8, f9⟩
        simp only [List.drop_succ_cons, List.drop_zero]
        simp only [f9, hg3, run_pick, put1_some, xpick_f, f8, run_ops_nil, run_nil, put_at, put_no, ev_t, ev_c, reduceIte, Nat.reduceEqDiff, List.map_cons, List.map_nil]
        exact hN2 _ _ ⟨hS11, by rw [orF hg3]; simp only [put_at, put_no, ev_t, ev_c, reduceIte, Nat.reduceEqDiff, List.map_cons, List.map_nil]⟩
  · rintro fr12 h14 ⟨hS15, f13⟩
    simp only [List.drop_succ_cons, List.drop_zero]
    simp only [f13, run_mv, run_ops_nil, run_ret, put_at, put_no, ev_t, ev_c, reduceIte, Nat.reduceEqDiff, List.map_cons, List.map_nil]
    have he := some_inj hF
    subst he
    simp only [end_ret1, put_at, put_no, ev_t, ev_c, reduceIte, Nat.reduceEqDiff, List.map_cons, List.map_nil]
    exact rfl
theorem impl_isClusterNode_x {W : Nat → Bool} {h : Heap} (hW : ∀ b,
    h.length ≤ b → W b = true) (n_0 : Node) (own_1 : Int) (nodes_2 : Int) (r : Bool)
    (hF : impl_isClusterNode n_0 own_1 nodes_2 = some r) : Ret E W 79 [.agg [.int .i64 n_0.View.Epoch, .int .i64 n_0.View.Leader, lst cI n_0.View.InStep, lst Row.cells n_0.Log,
    lst cI n_0.Known, .int .i64 n_0.Told], .int .i64 own_1, .int .i64 nodes_2] h (fun v h' => cut h.length h' E.sz false 9 v = some (.bool r)) := by
  refine Ret.of (fn := x79) rfl (Run.of ?_)
  unfold impl_isClusterNode at hF
  have zf0 : argFr [.agg [.int .i64 n_0.View.Epoch, .int .i64 n_0.View.Leader, lst cI n_0.View.InStep, lst Row.cells n_0.Log, lst cI n_0.Known, .int .i64 n_0.Told],
      .int .i64 own_1, .int .i64 nodes_2] 0 = .agg [.int .i64 n_0.View.Epoch, .int .i64 n_0.View.Leader, lst cI n_0.View.InStep, lst Row.cells n_0.Log, lst cI n_0.Known,
      .int .i64 n_0.Told] := rfl
  have zf1 : argFr [.agg [.int .i64 n_0.View.Epoch, .int .i64 n_0.View.Leader, lst cI n_0.View.InStep, lst Row.cells n_0.Log, lst cI n_0.Known, .int .i64 n_0.Told],
      .int .i64 own_1, .int .i64 nodes_2] 1 = .int .i64 own_1 := rfl
  have zf2 : argFr [.agg [.int .i64 n_0.View.Epoch, .int .i64 n_0.View.Leader, lst cI n_0.View.InStep, lst Row.cells n_0.Log, lst cI n_0.Known, .int .i64 n_0.Told],
      .int .i64 own_1, .int .i64 nodes_2] 2 = .int .i64 nodes_2 := rfl
  generalize argFr [.agg [.int .i64 n_0.View.Epoch, .int .i64 n_0.View.Leader, lst cI n_0.View.InStep, lst Row.cells n_0.Log, lst cI n_0.Known, .int .i64 n_0.Told],
      .int .i64 own_1, .int .i64 nodes_2] = fr0 at zf0 zf1 zf2 ⊢
  have hS : Sep h h.length [] := Sep.nil h
  simp only [x79, run_seq, run_reg, run_box, zf0, put_at, put_no, ev_t, ev_c, reduceIte, Nat.reduceEqDiff, List.map_cons, List.map_nil]
  refine put2_boxC (cs := [.int .i64 n_0.View.Epoch, .int .i64 n_0.View.Leader, lst cI n_0.View.InStep, lst Row.cells n_0.Log, lst cI n_0.Known,
      .int .i64 n_0.Told]) hS rfl rfl rfl (fun b1 h2 hS3 => ?_)
  simp only [run_box, zf1, put_at, put_no, ev_t, ev_c, reduceIte, Nat.reduceEqDiff, List.map_cons, List.map_nil]
  refine put2_boxC (cs := [.int .i64 own_1]) hS3 rfl rfl rfl (fun b5 h6 hS7 => ?_)
  simp only [run_mv, run_ops_nil, put_at, put_no, ev_t, ev_c, reduceIte, Nat.reduceEqDiff, List.map_cons, List.map_nil]
  refine frz_stepC (Sep.m1 hS7) hW (by simp only [put_at, put_no, ev_t, ev_c, reduceIte, Nat.reduceEqDiff, List.map_cons, List.map_nil]) (fun h9 hS10 => ?_)
  refine frz_stepC hS10 hW (by simp only [put_at, put_no, ev_t, ev_c, reduceIte, Nat.reduceEqDiff, List.map_cons, List.map_nil]) (fun h11 hS12 => ?_)
  simp only [run_frz_nil, x79_2, run_seq, run_reg, run_fa, put1_some, Nat.reduceAdd, Nat.zero_add, Nat.add_zero, xfa_ref, run_ld, put_at, put_no, ev_t, ev_c, reduceIte,
      Nat.reduceEqDiff, List.map_cons, List.map_nil]
  refine put1_eq (v := .agg [.int .i64 n_0.View.Epoch, .int .i64 n_0.View.Leader, lst cI n_0.View.InStep]) rfl ?_
  obtain ⟨v13, hx14, hF15⟩ := bind_some' hF
  simp only [zf2, run_mv, run_call, put_at, put_no, ev_t, ev_c, reduceIte, Nat.reduceEqDiff, List.map_cons, List.map_nil]
  refine call1 rfl (mapM1 (snap_agg (mapM1 snap_int (mapM1 snap_int (mapM1 snap_lst mapM0)))) (mapM1 snap_int mapM0)) (impl_isView_x
      (fun b hb => decide_eq_true hb) n_0.View nodes_2 v13 hx14) ?_
  simp only [run_un, put1_some, xnot, run_mv, put_at, put_no, ev_t, ev_c, reduceIte, Nat.reduceEqDiff, List.map_cons, List.map_nil]
  obtain ⟨v19, hx20, hF21⟩ := bind_some' hF15
  refine ops_j 8 (fun fr' h' => Sep h' h.length ([]) ∧ fr' 20 = .bool v19 ∧ fr' 2 = .int .i64 nodes_2 ∧ fr' 3 = .ref [.int .i64 n_0.View.Epoch, .int .i64 n_0.View.Leader,
      lst cI n_0.View.InStep, lst Row.cells n_0.Log, lst cI n_0.Known, .int .i64 n_0.Told] 0 ∧ fr' 4 = .ref [.int .i64 own_1] 0) (fun Q16 hN17 => ?_) ?_
  · simp only [List.take_succ_cons, List.take_zero]
    simp only [run_guard (g := 12), put_at, put_no, ev_t, ev_c, reduceIte, Nat.reduceEqDiff, List.map_cons, List.map_nil]
    refine guard_split (t := (!v13)) (fun hg18 => ?_) (fun hg18 => ?_)
    · rw [iteT hg18] at hx20
      simp only [hg18, run_guard (g := 12), guard_off', run_pick, put1_some, xpick_t, run_ops_nil, run_nil, put_at, put_no, ev_t, ev_c, reduceIte, Nat.reduceEqDiff, List.map_cons,
          List.map_nil]
      have e22 := some_inj hx20
      exact hN17 _ _ ⟨hS12, by rw [← e22]; simp only [put_at, put_no, ev_t, ev_c, reduceIte, Nat.reduceEqDiff, List.map_cons, List.map_nil], by simp only [zf2, put_at, put_no,
          ev_t, ev_c, reduceIte, Nat.reduceEqDiff, List.map_cons, List.map_nil], by simp only [put_at, put_no, ev_t, ev_c, reduceIte, Nat.reduceEqDiff, List.map_cons,
          List.map_nil], by simp only [put_at, put_no, ev_t, ev_c, reduceIte, Nat.reduceEqDiff, List.map_cons, List.map_nil]⟩
    · rw [iteF hg18] at hx20
      simp only [hg18, run_guard (g := 12), guard_false, run_fa, put1_some, Nat.reduceAdd, Nat.zero_add, Nat.add_zero, xfa_ref, run_ld, put_at, put_no, ev_t, ev_c, reduceIte,
          Nat.reduceEqDiff, List.map_cons, List.map_nil]
      refine put1_eq (v := lst Row.cells n_0.Log) rfl ?_
      simp only [hg18, run_guard (g := 12), guard_false, run_fa, put1_some, Nat.reduceAdd, Nat.zero_add, Nat.add_zero, xfa_ref, run_ld, put_at, put_no, ev_t, ev_c, reduceIte,
          Nat.reduceEqDiff, List.map_cons, List.map_nil]
      refine put1_eq (v := .int .i64 n_0.View.Epoch) rfl ?_
      obtain ⟨v23, hx24, hF25⟩ := bind_some' hx20
      simp only [hg18, run_guard (g := 12), guard_false, run_call, put_at, put_no, ev_t, ev_c, reduceIte, Nat.reduceEqDiff, List.map_cons, List.map_nil]
      refine call1 rfl (mapM1 snap_lst (mapM1 snap_int mapM0)) (impl_isRows_x (fun b hb => decide_eq_true hb) n_0.Log n_0.View.Epoch v23 hx24) ?_
      simp only [hg18, run_guard (g := 12), guard_false, run_un, put1_some, xnot, run_pick, xpick_f, run_ops_nil, run_nil, put_at, put_no, ev_t, ev_c, reduceIte, Nat.reduceEqDiff,
          List.map_cons, List.map_nil]
      have e26 := some_inj hF25
      exact hN17 _ _ ⟨hS12, by rw [← e26]; simp only [put_at, put_no, ev_t, ev_c, reduceIte, Nat.reduceEqDiff, List.map_cons, List.map_nil], by simp only [zf2, put_at, put_no,
          ev_t, ev_c, reduceIte, Nat.reduceEqDiff, List.map_cons, List.map_nil], by simp only [put_at, put_no, ev_t, ev_c, reduceIte, Nat.reduceEqDiff, List.map_cons,
          List.map_nil], by simp only [put_at, put_no, ev_t, ev_c, reduceIte, Nat.reduceEqDiff, List.map_cons, List.map_nil]⟩
  · rintro fr27 h32 ⟨hS33, f28, f29, f30, f31⟩
    simp only [List.drop_succ_cons, List.drop_zero]
    simp only [f28, run_mv, put_at, put_no, ev_t, ev_c, reduceIte, Nat.reduceEqDiff, List.map_cons, List.map_nil]
    refine ops_j 6 (fun fr' h' => Sep h' h.length ([]) ∧ fr' 27 = .bool (v19 || (decide ((List.length n_0.Known : Int) ≠ nodes_2))) ∧ fr' 3 = .ref [.int .i64 n_0.View.Epoch,
        .int .i64 n_0.View.Leader, lst cI n_0.View.InStep, lst Row.cells n_0.Log, lst cI n_0.Known,
        .int .i64 n_0.Told] 0 ∧ fr' 4 = .ref [.int .i64 own_1] 0) (fun Q34 hN35 => ?_) ?_
    · simp only [List.take_succ_cons, List.take_zero]
      simp only [run_guard (g := 21), put_at, put_no, ev_t, ev_c, reduceIte, Nat.reduceEqDiff, List.map_cons, List.map_nil]
      refine guard_split (t := v19) (fun hg36 => ?_) (fun hg36 => ?_)
      · simp only [hg36, run_guard (g := 21), guard_off', run_pick, put1_some, xpick_t, run_ops_nil, run_nil, put_at, put_no, ev_t, ev_c, reduceIte, Nat.reduceEqDiff,
          List.map_cons, List.map_nil]
        exact hN35 _ _ ⟨hS33, by rw [orT hg36]; simp only [put_at, put_no, ev_t, ev_c, reduceIte, Nat.reduceEqDiff, List.map_cons, List.map_nil], by simp only [f30, put_at,
            put_no, ev_t, ev_c, reduceIte, Nat.reduceEqDiff, List.map_cons, List.map_nil], by simp only [f31, put_at, put_no, ev_t, ev_c, reduceIte, Nat.reduceEqDiff,
            List.map_cons, List.map_nil]⟩
      · simp only [hg36, run_guard (g := 21), guard_false, f30, run_fa, put1_some, Nat.reduceAdd, Nat.zero_add, Nat.add_zero, xfa_ref, run_ld, put_at, put_no, ev_t, ev_c,
          reduceIte, Nat.reduceEqDiff, List.map_cons, List.map_nil]
        refine put1_eq (v := lst cI n_0.Known) rfl ?_
        simp only [hg36, run_guard (g := 21), guard_false, run_len, put1_some, xlen_lst, f29, run_mv, run_bin, xneq, run_pick, xpick_f, run_ops_nil, run_nil, put_at, put_no, ev_t,
            ev_c, reduceIte, Nat.reduceEqDiff, List.map_cons, List.map_nil]
        exact hN35 _ _ ⟨hS33, by rw [orF hg36]; simp only [put_at, put_no, ev_t, ev_c, reduceIte, Nat.reduceEqDiff, List.map_cons, List.map_nil], by simp only [f30, put_at,
            put_no, ev_t, ev_c, reduceIte, Nat.reduceEqDiff, List.map_cons, List.map_nil], by simp only [f31, put_at, put_no, ev_t, ev_c, reduceIte, Nat.reduceEqDiff,
            List.map_cons, List.map_nil]⟩
    · rintro fr37 h41 ⟨hS42, f38, f39, f40⟩
      simp only [List.drop_succ_cons, List.drop_zero]
      simp only [f38, run_mv, put_at, put_no, ev_t, ev_c, reduceIte, Nat.reduceEqDiff, List.map_cons, List.map_nil]
      refine ops_j 8 (fun fr' h' => Sep h' h.length ([]) ∧ fr' 36 = .bool ((v19 || (decide ((List.length n_0.Known : Int) ≠ nodes_2))) || (!(impl_in n_0.Told 0
          (List.length n_0.Log : Int)))) ∧ fr' 3 = .ref [.int .i64 n_0.View.Epoch, .int .i64 n_0.View.Leader, lst cI n_0.View.InStep, lst Row.cells n_0.Log, lst cI n_0.Known,
          .int .i64 n_0.Told] 0 ∧ fr' 4 = .ref [.int .i64 own_1] 0) (fun Q43 hN44 => ?_) ?_
      · simp only [List.take_succ_cons, List.take_zero]
        simp only [run_guard (g := 28), put_at, put_no, ev_t, ev_c, reduceIte, Nat.reduceEqDiff, List.map_cons, List.map_nil]
        refine guard_split (t := (v19 || (decide ((List.length n_0.Known : Int) ≠ nodes_2)))) (fun hg45 => ?_) (fun hg45 => ?_)
        · simp only [hg45, run_guard (g := 28), guard_off', run_pick, put1_some, xpick_t, run_ops_nil, run_nil, put_at, put_no, ev_t, ev_c, reduceIte, Nat.reduceEqDiff,
            List.map_cons, List.map_nil]
          exact hN44 _ _ ⟨hS42, by rw [orT hg45]; simp only [put_at, put_no, ev_t, ev_c, reduceIte, Nat.reduceEqDiff, List.map_cons, List.map_nil], by simp only [f39, put_at,
              put_no, ev_t, ev_c, reduceIte, Nat.reduceEqDiff, List.map_cons, List.map_nil], by simp only [f40, put_at, put_no, ev_t, ev_c, reduceIte, Nat.reduceEqDiff,
              List.map_cons, List.map_nil]⟩
        · simp only [hg45, run_guard (g := 28), guard_false, f39, run_fa, put1_some, Nat.reduceAdd, Nat.zero_add, Nat.add_zero, xfa_ref, run_ld, put_at, put_no, ev_t, ev_c,
            reduceIte, Nat.reduceEqDiff, List.map_cons, List.map_nil]
          refine put1_eq (v := .int .i64 n_0.Told) rfl ?_
          simp only [hg45, run_guard (g := 28), guard_false, f39, run_fa, put1_some, Nat.reduceAdd, Nat.zero_add, Nat.add_zero, xfa_ref, run_ld, put_at, put_no, ev_t, ev_c,
              reduceIte, Nat.reduceEqDiff, List.map_cons, List.map_nil]
          refine put1_eq (v := lst Row.cells n_0.Log) rfl ?_
          simp only [hg45, run_guard (g := 28), guard_false, run_len, put1_some, xlen_lst, run_call, put_at, put_no, ev_t, ev_c, reduceIte, Nat.reduceEqDiff, List.map_cons,
              List.map_nil]
          refine call1 rfl (mapM1 snap_int (mapM1 snap_int (mapM1 snap_int mapM0))) (impl_in_x (fun b hb => decide_eq_true hb) n_0.Told 0 (List.length n_0.Log : Int) _ rfl) ?_
          simp only [hg45, run_guard (g := 28), guard_false, run_un, put1_some, xnot, run_pick, xpick_f, run_ops_nil, run_nil, put_at, put_no, ev_t, ev_c, reduceIte,
              Nat.reduceEqDiff, List.map_cons, List.map_nil]
          exact hN44 _ _ ⟨hS42, by rw [orF hg45]; simp only [put_at, put_no, ev_t, ev_c, reduceIte, Nat.reduceEqDiff, List.map_cons, List.map_nil], by simp only [f39, put_at,
              put_no, ev_t, ev_c, reduceIte, Nat.reduceEqDiff, List.map_cons, List.map_nil], by simp only [f40, put_at, put_no, ev_t, ev_c, reduceIte, Nat.reduceEqDiff,
              List.map_cons, List.map_nil]⟩
      · rintro fr46 h50 ⟨hS51, f47, f48, f49⟩
        simp only [List.drop_succ_cons, List.drop_zero]
        simp only [run_ops_nil, f47, run_cond, put_at, put_no, ev_t, ev_c, reduceIte, Nat.reduceEqDiff, List.map_cons, List.map_nil]
        refine cond_split (t := ((v19 || (decide ((List.length n_0.Known : Int) ≠ nodes_2))) || (!(impl_in n_0.Told 0 (List.length n_0.Log : Int))))) (fun hc52 => ?_)
            (fun hc52 => ?_)
        · rw [iteT hc52] at hF21
          simp only [run_seq, run_reg, run_mv, run_ops_nil, run_ret, put_at, put_no, ev_t, ev_c, reduceIte, Nat.reduceEqDiff, List.map_cons, List.map_nil]
          have he := some_inj hF21
          subst he
          simp only [end_ret1, put_at, put_no, ev_t, ev_c, reduceIte, Nat.reduceEqDiff, List.map_cons, List.map_nil]
          exact rfl
        · rw [iteF hc52] at hF21
          simp only [run_skip, x79_1, run_seq, run_reg, f48, run_fa, put1_some, Nat.reduceAdd, Nat.zero_add, Nat.add_zero, xfa_ref, run_ld, put_at, put_no, ev_t, ev_c, reduceIte,
              Nat.reduceEqDiff, List.map_cons, List.map_nil]
          refine put1_eq (v := lst cI n_0.Known) rfl ?_
          obtain ⟨v53, hx54, hF55⟩ := bind_some' hF21
          simp only [run_mkF, f48, f49, run_call, put_at, put_no, ev_t, ev_c, reduceIte, Nat.reduceEqDiff, List.map_cons, List.map_nil]
          refine call1 rfl (mapM1 snap_lst (mapM1 snap_fn mapM0)) (slices_ContainsFunc_int_x (fun b hb => decide_eq_true hb) n_0.Known (g1 := 95)
              (caps1 := [.ref [.int .i64 n_0.View.Epoch, .int .i64 n_0.View.Leader, lst cI n_0.View.InStep, lst Row.cells n_0.Log, lst cI n_0.Known, .int .i64 n_0.Told] 0,
              .ref [.int .i64 own_1] 0]) rfl (fun a0 => some (impl_isClusterNode_1 a0 n_0 own_1)) (fun W h hW a0 r hr => impl_isClusterNode_1_x hW a0 n_0 own_1 r hr) v53 hx54) ?_
          simp only [run_un, put1_some, xnot, run_mv, run_ops_nil, run_ret, put_at, put_no, ev_t, ev_c, reduceIte, Nat.reduceEqDiff, List.map_cons, List.map_nil]
          have he := some_inj hF55
          subst he
          simp only [end_ret1, put_at, put_no, ev_t, ev_c, reduceIte, Nat.reduceEqDiff, List.map_cons, List.map_nil]
          exact rfl
end Go.Proofs.Ytohofoampalhoaa.X
