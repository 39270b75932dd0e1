/- The functions' code comes to what the plain functions say (4). -/
import Derived.Test.YtdhibknhejhfaaaXBH3
set_option linter.unusedVariables false
set_option linter.unusedSimpArgs false
set_option maxRecDepth 100000
namespace Go.Proofs.Ytdhibknhejhfaaa.X
open Go
open Nat (reduceEqDiff)
theorem slices_IndexFunc_int_x {W : Nat → Bool} {h : Heap} (hW : ∀ b,
    h.length ≤ b → W b = true) (s_0 : List Int) {g1 : Nat} {caps1 : List XV} (hm1 : E.mode g1 = 1) (f_1 : Int → Option Bool) (hf1 : ∀ (W : Nat → Bool) (h : Heap), (∀ b,
    h.length ≤ b → W b = true) → ∀ a0 r, f_1 a0 = some r → Ret E W g1 ([.int .i64 a0] ++ caps1) h (fun v h' => cut h.length h' E.sz false 9 v = some (.bool r))) (r : Int)
    (hF : slices_IndexFunc_int s_0 f_1 = some r) : Ret E W 89 [lst cI s_0, .fn g1 caps1] h (fun v h' => cut h.length h' E.sz false 9 v = some (.int .i64 r)) := by
  refine Ret.of (fn := x89) rfl (Run.of ?_)
  unfold slices_IndexFunc_int at hF
  have zf0 : argFr [lst cI s_0, .fn g1 caps1] 0 = lst cI s_0 := rfl
  have zf1 : argFr [lst cI s_0, .fn g1 caps1] 1 = .fn g1 caps1 := rfl
  generalize argFr [lst cI s_0, .fn g1 caps1] = fr0 at zf0 zf1 ⊢
  have hS : Sep h h.length [] := Sep.nil h
  simp only [x89, run_seq, run_reg, run_mv, run_ops_nil, x89_6, zf0, run_len, put1_some, xlen_lst, B0, reduceIte, reduceEqDiff]
  obtain ⟨oc3, hX5, hk6⟩ := jn_some hF
  simp only [x89_5]
  refine rangeL_j (σ := Unit) s_0 (fun i1 x2 _ => slices_IndexFunc_int_b1 f_1 i1 x2 ) (fun s fr' h' => fr' 0 = lst cI s_0 ∧ fr' 1 = .fn g1 caps1 ∧ Sep h' h.length
      ([])) hX5 ⟨by simp only [zf0, B0, reduceIte, reduceEqDiff], by simp only [zf1, B0, reduceIte, reduceEqDiff], hS⟩ (by simp only [B0, reduceIte,
      reduceEqDiff]) (by simp only [B0, reduceIte, reduceEqDiff]) (fun _ _ _ h => h) rfl rfl (fun _ _ _ _ h => h) (fun _ _ _ _ h => h) (fun _ _ _ _ h => h) (by decide) ?_ ?_
  · rintro i1 x2 _ fr15 h16 hx20 ⟨f18, f19, hS17⟩ f21 f22 oc4 hF7 hr8 Q9 hN10 hB14 hK11 hR12 hE13
    unfold slices_IndexFunc_int_b1 at hF7
    simp only [x89_3, run_seq, run_reg, f21, run_mv, run_ops_nil, x89_2, f19, f18, run_ia, B0, reduceIte, reduceEqDiff]
    refine put1_eq (v := .ref (cI x2) 0) (xia_lstN hx20 rfl) ?_
    simp only [run_ld, B0, reduceIte, reduceEqDiff]
    refine put1_eq (v := .int .i64 x2) rfl ?_
    obtain ⟨v23, hx24, hF25⟩ := bind_some' hF7
    simp only [run_call, B0, reduceIte, reduceEqDiff]
    refine call1 hm1 (mapM1 snap_int mapM0) (hf1 _ _ (fun b hb => decide_eq_true hb) x2 v23 hx24) ?_
    simp only [run_ops_nil, x89_1, run_cond, B0, reduceIte, reduceEqDiff]
    refine cond_split (t := v23) (fun hc26 => ?_) (fun hc26 => ?_)
    · rw [iteT hc26] at hF25
      simp only [run_seq, run_reg, run_mv, run_ops_nil, run_ret, B0, reduceIte, reduceEqDiff]
      have e27 := some_inj hF25
      subst e27
      have ho28 := hr8 _ rfl
      have hk29 := hk6
      rw [ho28] at hk29
      dsimp only [jnO] at hk29
      apply hR12
      have he := some_inj hk29
      subst he
      simp only [end_ret1, B0, reduceIte, reduceEqDiff]
      exact rfl
    rw [iteF hc26] at hF25
    simp only [run_skip, run_nil, B0, reduceIte, reduceEqDiff]
    have e30 := some_inj hF25
    exact hN10 _ _ _ e30.symm ⟨by simp only [f18, B0, reduceIte, reduceEqDiff], by simp only [f19, B0, reduceIte, reduceEqDiff], hS17⟩ (by simp only [f21, B0, reduceIte,
        reduceEqDiff]) (by simp only [f22, B0, reduceIte, reduceEqDiff])
  rintro _ fr32 h33 rfl ⟨f35, f36, hS34⟩
  dsimp only [jnO] at hk6
  unfold slices_IndexFunc_int_j1 at hk6
  simp only [run_seq, run_reg, run_mv, run_ops_nil, run_ret, B0, reduceIte, reduceEqDiff]
  have he := some_inj hk6
  subst he
  simp only [end_ret1, B0, reduceIte, reduceEqDiff]
  exact rfl
theorem slices_ContainsFunc_int_x {W : Nat → Bool} {h : Heap} (hW : ∀ b,
    h.length ≤ b → W b = true) (s_0 : List Int) {g1 : Nat} {caps1 : List XV} (hm1 : E.mode g1 = 1) (f_1 : Int → Option Bool) (hf1 : ∀ (W : Nat → Bool) (h : Heap), (∀ b,
    h.length ≤ b → W b = true) → ∀ a0 r, f_1 a0 = some r → Ret E W g1 ([.int .i64 a0] ++ caps1) h (fun v h' => cut h.length h' E.sz false 9 v = some (.bool r))) (r : Bool)
    (hF : slices_ContainsFunc_int s_0 f_1 = some r) : Ret E W 79 [lst cI s_0, .fn g1 caps1] h (fun v h' => cut h.length h' E.sz false 9 v = some (.bool r)) := by
  refine Ret.of (fn := x79) rfl (Run.of ?_)
  unfold slices_ContainsFunc_int at hF
  have zf0 : argFr [lst cI s_0, .fn g1 caps1] 0 = lst cI s_0 := rfl
  have zf1 : argFr [lst cI s_0, .fn g1 caps1] 1 = .fn g1 caps1 := rfl
  generalize argFr [lst cI s_0, .fn g1 caps1] = fr0 at zf0 zf1 ⊢
  have hS : Sep h h.length [] := Sep.nil h
  obtain ⟨v1, hx2, hF3⟩ := bind_some' hF
  simp only [x79, run_seq, run_reg, run_mv, run_ops_nil, x79_1, zf0, zf1, run_call, B0, reduceIte, reduceEqDiff]
  refine call1 rfl (mapM1 snap_lst (mapM1 snap_fn mapM0)) (slices_IndexFunc_int_x (fun b hb => decide_eq_true hb) s_0 (g1 := g1) (caps1 := caps1) hm1 f_1 hf1 v1 hx2) ?_
  simp only [run_bin, put1_some, xgeq, run_mv, run_ops_nil, run_ret, B0, reduceIte, reduceEqDiff]
  have he := some_inj hF3
  subst he
  simp only [end_ret1, B0, reduceIte, reduceEqDiff]
  exact rfl
theorem impl_newReaders_1_x {W : Nat → Bool} {h : Heap} (hW : ∀ b,
    h.length ≤ b → W b = true) (e_0 : Int) (r : Bool) (hF : some (impl_newReaders_1 e_0) = some r) : Ret E W 80 [.int .i64 e_0] h
    (fun v h' => cut h.length h' E.sz false 9 v = some (.bool r)) := by
  refine Ret.of (fn := x80) rfl (Run.of ?_)
  unfold impl_newReaders_1 at hF
  have zf0 : argFr [.int .i64 e_0] 0 = .int .i64 e_0 := rfl
  generalize argFr [.int .i64 e_0] = fr0 at zf0 ⊢
  have hS : Sep h h.length [] := Sep.nil h
  simp only [x80, run_seq, run_reg, run_mv, run_ops_nil, x80_1, zf0, run_call, B0, reduceIte, reduceEqDiff]
  refine call1 rfl (mapM1 snap_int (mapM1 snap_int (mapM1 snap_int mapM0))) (impl_in_x (fun b hb => decide_eq_true hb) e_0 0 100 _ rfl) ?_
  simp only [run_un, put1_some, xnot, run_mv, run_ops_nil, run_ret, B0, reduceIte, reduceEqDiff]
  have he := some_inj hF
  subst he
  simp only [end_ret1, B0, reduceIte, reduceEqDiff]
  exact rfl
theorem impl_newReaders_x {W : Nat → Bool} {h : Heap} (hW : ∀ b,
    h.length ≤ b → W b = true) (readers_0 : Int) (ends_1 : List Int) (r : Readers_ × Bool) (hF : impl_newReaders readers_0 ends_1 = some r) : Ret E W 51 [.int .i64 readers_0,
    lst cI ends_1] h (fun v h' => ∃ rv0_1 rc0_1 rv0_2 rc0_2 rv0_3 rc0_3, v = .tup [.agg [.int .i64 r.1.Generation, rv0_1, rv0_2, rv0_3],
    .bool r.2] ∧ SlN Reader.R 4 37 rv0_1 r.1.Readers rc0_1 ∧ SlF cI 1 3 rv0_2 r.1.Committed rc0_2 ∧ SlF cI 1 3 rv0_3 r.1.Ends rc0_3 ∧ Sep h' h.length (rc0_1 ++ (rc0_2 ++
    (rc0_3 ++ ([]))))) := by
  refine Ret.of (fn := x51) rfl (Run.of ?_)
  unfold impl_newReaders at hF
  have zf0 : argFr [.int .i64 readers_0, lst cI ends_1] 0 = .int .i64 readers_0 := rfl
  have zf1 : argFr [.int .i64 readers_0, lst cI ends_1] 1 = lst cI ends_1 := rfl
  generalize argFr [.int .i64 readers_0, lst cI ends_1] = fr0 at zf0 zf1 ⊢
  have hS : Sep h h.length [] := Sep.nil h
  simp only [x51, run_seq, run_reg, run_new, B0, reduceIte, reduceEqDiff]
  refine put2_newC hS (fun b1 h2 hS3 => ?_)
  simp only [run_mv, run_ops_nil, x51_7, run_seq, run_reg, zf0, run_call, B0, reduceIte, reduceEqDiff]
  refine call1 rfl (mapM1 snap_int (mapM1 snap_int (mapM1 snap_int mapM0))) (impl_in_x (fun b hb => decide_eq_true hb) readers_0 1 5 _ rfl) ?_
  simp only [run_un, put1_some, xnot, run_mv, B0, reduceIte, reduceEqDiff]
  refine ops_j 5 (fun fr' h' => Sep h' h.length ([Blk1 b1 [.int .i64 0, .nil, .nil,
      .nil] 29] ++ ([])) ∧ fr' 15 = .bool ((!(impl_in readers_0 1 5)) || (!(impl_in
      (List.length ends_1 : Int) 1 6))) ∧ fr' 0 = .int .i64 readers_0 ∧ fr' 1 = lst cI ends_1 ∧ fr' 4 = .ptr b1 0) (fun Q5 hN6 => ?_) ?_
  · simp only [List.take_succ_cons, List.take_zero]
    simp only [run_guard (g := 10), B0, reduceIte, reduceEqDiff]
    refine guard_split (t := (!(impl_in readers_0 1 5))) (fun hg7 => ?_) (fun hg7 => ?_)
    · simp only [hg7, run_guard (g := 10), guard_off', run_pick, put1_some, xpick_t, run_ops_nil, run_nil, B0, reduceIte, reduceEqDiff]
      exact hN6 _ _ ⟨hS3, by rw [orT hg7]; simp only [B0, reduceIte, reduceEqDiff], by simp only [zf0, B0, reduceIte, reduceEqDiff], by simp only [zf1, B0, reduceIte,
          reduceEqDiff], by simp only [B0, reduceIte, reduceEqDiff]⟩
    · simp only [hg7, run_guard (g := 10), guard_false, zf1, run_mv, run_len, put1_some, xlen_lst, run_call, B0, reduceIte, reduceEqDiff]
      refine call1 rfl (mapM1 snap_int (mapM1 snap_int (mapM1 snap_int mapM0))) (impl_in_x (fun b hb => decide_eq_true hb) (List.length ends_1 : Int) 1 6 _ rfl) ?_
      simp only [hg7, run_guard (g := 10), guard_false, run_un, put1_some, xnot, run_pick, xpick_f, run_ops_nil, run_nil, B0, reduceIte, reduceEqDiff]
      exact hN6 _ _ ⟨hS3, by rw [orF hg7]; simp only [B0, reduceIte, reduceEqDiff], by simp only [zf0, B0, reduceIte, reduceEqDiff], by simp only [zf1, B0, reduceIte,
          reduceEqDiff], by simp only [B0, reduceIte, reduceEqDiff]⟩
  rintro fr8 h13 ⟨hS14, f9, f10, f11, f12⟩
  simp only [List.drop_succ_cons, List.drop_zero]
  simp only [f9, run_mv, B0, reduceIte, reduceEqDiff]
  obtain ⟨v18, hx19, hF20⟩ := bind_some' hF
  refine ops_j 3 (fun fr' h' => Sep h' h.length ([Blk1 b1 [.int .i64 0, .nil, .nil,
      .nil] 29] ++ ([])) ∧ fr' 19 = .bool v18 ∧ fr' 0 = .int .i64 readers_0 ∧ fr' 1 = lst cI ends_1 ∧ fr' 4 = .ptr b1 0) (fun Q15 hN16 => ?_) ?_
  · simp only [List.take_succ_cons, List.take_zero]
    simp only [run_guard (g := 16), B0, reduceIte, reduceEqDiff]
    refine guard_split (t := ((!(impl_in readers_0 1 5)) || (!(impl_in (List.length ends_1 : Int) 1 6)))) (fun hg17 => ?_) (fun hg17 => ?_)
    · rw [iteT hg17] at hx19
      simp only [hg17, run_guard (g := 16), guard_off', run_pick, put1_some, xpick_t, run_ops_nil, run_nil, B0, reduceIte, reduceEqDiff]
      have e21 := some_inj hx19
      exact hN16 _ _ ⟨hS14, by rw [← e21]; simp only [B0, reduceIte, reduceEqDiff], by simp only [f10, B0, reduceIte, reduceEqDiff], by simp only [f11, B0, reduceIte,
          reduceEqDiff], by simp only [f12, B0, reduceIte, reduceEqDiff]⟩
    · rw [iteF hg17] at hx19
      obtain ⟨v22, hx23, hF24⟩ := bind_some' hx19
      simp only [hg17, run_guard (g := 16), guard_false, f11, run_mv, run_call, B0, reduceIte, reduceEqDiff]
      refine call1 rfl (mapM1 snap_lst (mapM1 snap_fn mapM0)) (slices_ContainsFunc_int_x (fun b hb => decide_eq_true hb) ends_1 (g1 := 80) (caps1 := []) rfl (fun a0 => some
          (impl_newReaders_1 a0)) (fun W h hW a0 r hr => impl_newReaders_1_x hW a0 r hr) v22 hx23) ?_
      simp only [hg17, run_pick, put1_some, xpick_f, run_ops_nil, run_nil, B0, reduceIte, reduceEqDiff]
      have e25 := some_inj hF24
      exact hN16 _ _ ⟨hS14, by rw [← e25]; simp only [B0, reduceIte, reduceEqDiff], by simp only [f10, B0, reduceIte, reduceEqDiff], by simp only [f11, B0, reduceIte,
          reduceEqDiff], by simp only [f12, B0, reduceIte, reduceEqDiff]⟩
  rintro fr26 h31 ⟨hS32, f27, f28, f29, f30⟩
  simp only [List.drop_succ_cons, List.drop_zero]
  simp only [run_ops_nil, x51_1, f27, run_cond, B0, reduceIte, reduceEqDiff]
  refine cond_split (t := v18) (fun hc33 => ?_) (fun hc33 => ?_)
  · rw [iteT hc33] at hF20
    simp only [run_seq, run_reg, run_build, evp, B0, reduceIte, reduceEqDiff]
    refine put1_eq (v := .agg [.int .i64 0, .nil, .nil, .nil]) rfl ?_
    simp only [f30, run_st, B0, reduceIte, reduceEqDiff]
    refine put2_stCx (us := [.int .i64 0, .nil, .nil, .nil]) rfl (cs' := [.int .i64 0, .nil, .nil, .nil]) hS32 hW rfl rfl (Nat.le_of_ble_eq_true rfl) rfl (fun h34 hS35 => ?_)
    simp only [run_mv, run_ops_nil, run_ret, B0, reduceIte, reduceEqDiff]
    have he := some_inj hF20
    subst he
    refine end_ret_m (mapM1 (res_cell (bb := b1) (oo := 0) (v := .agg [.int .i64 0, .nil, .nil, .nil]) (by simp only [f30, B0, reduceIte,
        reduceEqDiff]) ((xld_bs (Sep.bk _ _ _ hS35)).trans rfl)) (mapM1 (res_t (v := .bool false) (by simp only [B0, reduceIte, reduceEqDiff])) mapM0)) ?_
    exact ⟨.nil, [], .nil, [], .nil, [], by first | trivial | rfl, SlN.nil, SlF.nil, SlF.nil, ((Sep.dc (hS35)) : Sep _ h.length ([]))⟩
  rw [iteF hc33] at hF20
  obtain ⟨l36, hx37, hF38⟩ := bind_some' hF20
  simp only [run_skip, x51_6, run_seq, run_draw, f29, d1_mv, put1d_some, d1_len, xlen_lst, d1_mkS, B0, reduceIte, reduceEqDiff]
  refine put2d_mkSF (f := cI) (z := (0 : Int)) hS32 hx37 rfl (fun v39 c40 h41 hv42 hS43 => ?_)
  simp only [d4_buildS, evp, B0, reduceIte, reduceEqDiff]
  refine put2d_buildSF (n := 1) (f := cI) ([] : List Int) hS43 rfl rfl (fun v45 c46 h47 hv48 hS49 => ?_)
  simp only [d1_new, B0, reduceIte, reduceEqDiff]
  refine put2d_newC hS49 (fun b51 h52 hS53 => ?_)
  simp only [f29, d4_mv, put1d_some, d3_app, B0, reduceIte, reduceEqDiff]
  obtain ⟨l55, hx56, hF57⟩ := bind_some' hF38
  refine put2d_appF (f := cI) hv48 (Sep.m1 hS53) hW (fun _ => rfl) (fun _ => rfl) (firstOf_lst (fun _ => rfl)) hx56 (fun v58 c59 h60 hv61 hS62 => ?_)
  simp only [d4_build, evp, B0, reduceIte, reduceEqDiff]
  refine put1d_eq (v := .agg [.int .i64 0, .nil, v39, v58]) (pbuild_some (fill1 (us := [v39]) (vs := [.int .i64 0, .nil, v39,
      .nil]) (cells_one (SlF.one hv42)) rfl (Nat.le_of_ble_eq_true rfl) (all_c (SlF.one hv42) all_n) rfl (fill1 (us := [v58]) (vs := [.int .i64 0, .nil, v39,
      v58]) (cells_one (SlF.one hv61)) rfl (Nat.le_of_ble_eq_true rfl) (all_c (SlF.one hv61) all_n) rfl fill0))) ?_
  simp only [d3_st, B0, reduceIte, reduceEqDiff]
  refine put2d_stCx (us := [.int .i64 0, .nil, v39, v58]) rfl (cs' := [.int .i64 0, .nil, v39,
      v58]) (Sep.m1 hS62) hW rfl (all_c rfl (all_c rfl (all_c (SlF.one hv42) (all_c (SlF.one hv61) all_n)))) (Nat.le_of_ble_eq_true rfl) rfl (fun h64 hS65 => ?_)
  simp only [run_draw_nil, x51_5, run_seq, run_reg, f28, run_mv, run_ops_nil, B0, reduceIte, reduceEqDiff]
  obtain ⟨oc78, hX80, hk81⟩ := jn_some hF57
  simp only [x51_4]
  refine rangeN_j (σ := Readers_) (fun i76 s126 => impl_newReaders_b1 ends_1 l36 l55 i76 s126) (fun s fr' h' => ∃ v73 c74,
      fr' 1 = lst cI ends_1 ∧ fr' 4 = .ptr b1 0 ∧ fr' 6 = .ptr b51 0 ∧ SlN Reader.R 4 37 v73 s.Readers c74 ∧ Sep h' h.length ([Blk1 b1 [.int .i64 0, .nil, .nil,
      .nil] 29] ++ ([Blk1 b51 [.int .i64 s.Generation, v73, v39, v58] 29] ++ (c74 ++ (c40 ++ (c59 ++ ([]))))))) hX80 ⟨.nil, [], by simp only [f29, B0, reduceIte, reduceEqDiff],
      by simp only [f30, B0, reduceIte, reduceEqDiff], by simp only [B0, reduceIte, reduceEqDiff], SlN.nil,
      ((Sep.m3 (Sep.m2 (Sep.m2 (Sep.m1 hS65)))) : Sep _ h.length ([Blk1 b1 [.int .i64 0, .nil, .nil, .nil] 29] ++ ([Blk1 b51 [.int .i64 0, .nil, v39,
      v58] 29] ++ (c40 ++ (c59 ++ ([]))))))⟩ (by simp only [B0, reduceIte, reduceEqDiff]) (by simp only [B0, reduceIte,
      reduceEqDiff]) (fun _ _ _ h => h) rfl rfl (fun _ _ _ _ h => h) (fun _ _ _ _ h => h) (fun _ _ _ _ h => h) (by decide) ?_ ?_
  · rintro i76 s71 fr90 h91 hx96 ⟨v73, c74, f93, f94, f95, hv75, hS92⟩ f97 f98 oc79 hF82 hr83 Q84 hN85 hB89 hK86 hR87 hE88
    unfold impl_newReaders_b1 at hF82
    simp only [x51_2, run_draw, f95, d4_fa, put1d_some, Nat.reduceAdd, Nat.zero_add, Nat.add_zero, xfa_ptr, d4_ld, B0, reduceIte, reduceEqDiff]
    refine put1d_eq (v := v73) ((xld_b (Sep.bk _ _ _ (Sep.m1 hS92))).trans rfl) ?_
    obtain ⟨l99, hx100, hF101⟩ := bind_some' hF82
    simp only [f93, d4_mv, put1d_some, d4_len, xlen_lst, d4_mkS, B0, reduceIte, reduceEqDiff]
    refine put2d_mkSF (f := cI) (z := (0 : Int)) hS92 hx100 rfl (fun v102 c103 h104 hv105 hS106 => ?_)
    simp only [d4_build, evp, B0, reduceIte, reduceEqDiff]
    refine put1d_eq (v := .agg [.bool false, .int .i64 0, .nil, v102]) (pbuild_some (fill1 (us := [v102]) (vs := [.bool false, .int .i64 0, .nil,
        v102]) (cells_one (SlF.one hv105)) rfl (Nat.le_of_ble_eq_true rfl) (all_c (SlF.one hv105) all_n) rfl fill0)) ?_
    simp only [d4_buildS, evp, B0, reduceIte, reduceEqDiff]
    refine put2d_buildSN (R := Reader.R) (n := 4) (cs := [.bool false, .int .i64 0, .nil,
        v102]) (os := [] ++ (c103)) (Sep.bi2 (c1 := []) (c2 := c103) (hS106 : Sep _ h.length (c103 ++ ([Blk1 b1 [.int .i64 0, .nil, .nil,
        .nil] 29] ++ ([Blk1 b51 [.int .i64 s71.Generation, v73, v39, v58] 29] ++ (c74 ++ (c40 ++ (c59 ++ ([]))))))))) (fill1 (us := [.bool false, .int .i64 0, .nil,
        v102]) (vs := [.bool false, .int .i64 0, .nil,
        v102]) rfl rfl (Nat.le_of_ble_eq_true rfl) (all_c rfl (all_c rfl (all_c rfl (all_c (SlF.one hv105) all_n)))) rfl fill0) (Reader.RI (x :=
        (Reader.mk false 0 [] l99)) SlF.nil hv105) rfl (fun v108 c109 h110 hv111 hS112 => ?_)
    simp only [d3_app, B0, reduceIte, reduceEqDiff]
    obtain ⟨l114, hx115, hF116⟩ := bind_some' hF101
    refine put2d_appN (R := Reader.R) (c := c74) hv75 hv111 (Sep.m3 hS112) hW Reader.RO.len Reader.RO.one hx115 (fun v117 c118 h119 hv120 hS121 => ?_)
    simp only [f95, d4_fa, put1d_some, Nat.reduceAdd, Nat.zero_add, Nat.add_zero, xfa_ptr, d3_st, B0, reduceIte, reduceEqDiff]
    refine put2d_stCx (us := [v117]) (cells_one (SlN.one hv120)) (cs' := [.int .i64 s71.Generation, v117, v39,
        v58]) (Sep.m2 hS121) hW rfl (all_c (SlN.one hv120) all_n) (Nat.le_of_ble_eq_true rfl) rfl (fun h123 hS124 => ?_)
    simp only [run_draw_nil, run_nil, B0, reduceIte, reduceEqDiff]
    have e125 := some_inj hF116
    exact hN85 _ _ _ e125.symm ⟨v117, c118, by simp only [f93, B0, reduceIte, reduceEqDiff], by simp only [f94, B0, reduceIte, reduceEqDiff], by simp only [f95, B0, reduceIte,
        reduceEqDiff], hv120, (Sep.m4 (Sep.m3 (Sep.m3 (Sep.m4 (Sep.m4 hS124)))))⟩ (by simp only [f97, B0, reduceIte, reduceEqDiff]) (by simp only [f98, B0, reduceIte,
        reduceEqDiff])
  rintro s127 fr132 h133 rfl ⟨v129, c130, f135, f136, f137, hv131, hS134⟩
  dsimp only [jnO] at hk81
  unfold impl_newReaders_j1 at hk81
  simp only [run_seq, run_reg, f137, run_ld, B0, reduceIte, reduceEqDiff]
  refine put1_eq (v := .agg [.int .i64 s127.Generation, v129, v39, v58]) ((xld_bs (Sep.bk _ _ _ (Sep.m1 hS134))).trans rfl) ?_
  simp only [f136, run_st, B0, reduceIte, reduceEqDiff]
  refine put2_stCx (us := [.int .i64 s127.Generation, v129, v39, v58]) rfl (cs' := [.int .i64 s127.Generation, v129, v39,
      v58]) hS134 hW rfl (all_c rfl (all_c (SlN.one hv131) (all_c (SlF.one hv42) (all_c (SlF.one hv61) all_n)))) (Nat.le_of_ble_eq_true rfl) rfl (fun h138 hS139 => ?_)
  simp only [run_mv, run_ops_nil, run_ret, B0, reduceIte, reduceEqDiff]
  have he := some_inj hk81
  subst he
  refine end_ret_m (mapM1 (res_cell (bb := b1) (oo := 0) (v := .agg [.int .i64 s127.Generation, v129, v39, v58]) (by simp only [f136, B0, reduceIte,
      reduceEqDiff]) ((xld_bs (Sep.bk _ _ _ hS139)).trans rfl)) (mapM1 (res_t (v := .bool true) (by simp only [B0, reduceIte, reduceEqDiff])) mapM0)) ?_
  exact ⟨v129, c130, v39, c40, v58, c59, by first | trivial | rfl, hv131, hv42, hv61, (Sep.m2 (Sep.m2 (Sep.m2 (Sep.dc ((Sep.dc (hS139)))))))⟩
theorem impl_areMembers_x {W : Nat → Bool} {h : Heap} (hW : ∀ b,
    h.length ≤ b → W b = true) (list_0 : List Int) (many_1 : Int) (r : Bool) (hF : impl_areMembers list_0 many_1 = some r) : Ret E W 81 [lst cI list_0,
    .int .i64 many_1] h (fun v h' => cut h.length h' E.sz false 9 v = some (.bool r)) := by
  refine Ret.of (fn := x81) rfl (Run.of ?_)
  unfold impl_areMembers at hF
  have zf0 : argFr [lst cI list_0, .int .i64 many_1] 0 = lst cI list_0 := rfl
  have zf1 : argFr [lst cI list_0, .int .i64 many_1] 1 = .int .i64 many_1 := rfl
  generalize argFr [lst cI list_0, .int .i64 many_1] = fr0 at zf0 zf1 ⊢
  have hS : Sep h h.length [] := Sep.nil h
  simp only [x81, run_seq, run_reg, run_mv, run_ops_nil, x81_5, zf0, run_len, put1_some, xlen_lst, B0, reduceIte, reduceEqDiff]
  obtain ⟨oc3, hX5, hk6⟩ := jn_some hF
  simp only [x81_4]
  refine rangeL_j (σ := Unit) list_0 (fun i1 x2 _ => impl_areMembers_b1 list_0 many_1 i1 x2 )
      (fun s fr' h' => fr' 0 = lst cI list_0 ∧ fr' 1 = .int .i64 many_1 ∧ fr' 7 = lst cI list_0 ∧ Sep h' h.length ([])) hX5 ⟨by simp only [zf0, B0, reduceIte, reduceEqDiff],
      by simp only [zf1, B0, reduceIte, reduceEqDiff], by simp only [B0, reduceIte, reduceEqDiff], hS⟩ (by simp only [B0, reduceIte, reduceEqDiff]) (by simp only [B0, reduceIte,
      reduceEqDiff]) (fun _ _ _ h => h) rfl rfl (fun _ _ _ _ h => h) (fun _ _ _ _ h => h) (fun _ _ _ _ h => h) (by decide) ?_ ?_
  · rintro i1 x2 _ fr15 h16 hx21 ⟨f18, f19, f20, hS17⟩ f22 f23 oc4 hF7 hr8 Q9 hN10 hB14 hK11 hR12 hE13
    unfold impl_areMembers_b1 at hF7
    simp only [x81_2, run_seq, run_reg, f22, run_mv, f20, run_ia, B0, reduceIte, reduceEqDiff]
    refine put1_eq (v := .ref (cI x2) 0) (xia_lstN hx21 rfl) ?_
    simp only [run_ld, B0, reduceIte, reduceEqDiff]
    refine put1_eq (v := .int .i64 x2) rfl ?_
    simp only [run_mv, run_ops_nil, x81_1, run_seq, run_reg, f19, run_bin, put1_some, xsub, run_call, B0, reduceIte, reduceEqDiff]
    refine call1 rfl (mapM1 snap_int (mapM1 snap_int (mapM1 snap_int mapM0))) (impl_in_x (fun b hb => decide_eq_true hb) x2 0 (IntKind.wrap .i64 (many_1 - 1)) _ rfl) ?_
    simp only [run_un, put1_some, xnot, run_mv, B0, reduceIte, reduceEqDiff]
    obtain ⟨v27, hx28, hF29⟩ := bind_some' hF7
    refine ops_j 12 (fun fr' h' => Sep h' h.length ([]) ∧ fr' 31 = .bool v27 ∧ fr' 0 = lst cI list_0 ∧ fr' 1 = .int .i64 many_1 ∧ fr' 7 = lst cI list_0 ∧ fr' 8 = .int .i64
        (List.length list_0 : Int) ∧ fr' 9 = .int .i64 (i1 : Int)) (fun Q24 hN25 => ?_) ?_
    · simp only [List.take_succ_cons, List.take_zero]
      simp only [run_guard (g := 19), B0, reduceIte, reduceEqDiff]
      refine guard_split (t := (!(impl_in x2 0 (IntKind.wrap .i64 (many_1 - 1))))) (fun hg26 => ?_) (fun hg26 => ?_)
      · rw [iteT hg26] at hx28
        simp only [hg26, run_guard (g := 19), guard_off', run_guard (g := 22), guard_tup, run_pick, put1_some, xpick_t, run_ops_nil, run_nil, B0, reduceIte, reduceEqDiff]
        have e30 := some_inj hx28
        exact hN25 _ _ ⟨hS17, by rw [← e30]; simp only [B0, reduceIte, reduceEqDiff], by simp only [f18, B0, reduceIte, reduceEqDiff], by simp only [f19, B0, reduceIte,
            reduceEqDiff], by simp only [f20, B0, reduceIte, reduceEqDiff], by simp only [f23, B0, reduceIte, reduceEqDiff], by simp only [f22, B0, reduceIte, reduceEqDiff]⟩
      · rw [iteF hg26] at hx28
        simp only [hg26, run_guard (g := 19), guard_false, run_mv, run_bin, put1_some, xgtr, B0, reduceIte, reduceEqDiff]
        obtain ⟨v34, hx35, hF36⟩ := bind_some' hx28
        refine ops_j 8 (fun fr' h' => Sep h' h.length ([]) ∧ fr' 30 = .bool v34 ∧ fr' 0 = lst cI list_0 ∧ fr' 1 = .int .i64 many_1 ∧ fr' 7 = lst cI list_0 ∧ fr' 8 = .int .i64
            (List.length list_0 : Int) ∧ fr' 9 = .int .i64 (i1 : Int) ∧ fr' 19 = .bool (!(impl_in x2 0 (IntKind.wrap .i64 (many_1 - 1))))) (fun Q31 hN32 => ?_) ?_
        · simp only [List.take_succ_cons, List.take_zero]
          simp only [run_guard (g := 22), B0, reduceIte, reduceEqDiff]
          refine guard_split (t := (decide ((0 : Int) < (i1 : Int)))) (fun hg33 => ?_) (fun hg33 => ?_)
          · rw [iteT hg33] at hx35
            obtain ⟨x37, hx38, hF39⟩ := bind_some' hx35
            simp only [hg33, run_guard (g := 22), guard_true, f18, run_mv, run_bin, put1_some, xsub, run_ia, B0, reduceIte, reduceEqDiff]
            refine put1_eq (v := .ref (cI x37) 0) (xia_lst hx38 rfl) ?_
            simp only [hg33, run_guard (g := 22), guard_true, run_ld, B0, reduceIte, reduceEqDiff]
            refine put1_eq (v := .int .i64 x37) rfl ?_
            simp only [hg33, run_guard (g := 22), guard_true, run_mv, run_bin, put1_some, xgeq, hg26, run_guard (g := 19), guard_false, run_pick, xpick_t, run_ops_nil, run_nil,
                B0, reduceIte, reduceEqDiff]
            have e40 := some_inj hF39
            exact hN32 _ _ ⟨hS17, by rw [← e40]; simp only [B0, reduceIte, reduceEqDiff], by simp only [f18, B0, reduceIte, reduceEqDiff], by simp only [f19, B0, reduceIte,
                reduceEqDiff], by simp only [f20, B0, reduceIte, reduceEqDiff], by simp only [f23, B0, reduceIte, reduceEqDiff], by simp only [f22, B0, reduceIte, reduceEqDiff],
                by simp only [hg26, B0, reduceIte, reduceEqDiff]⟩
          · rw [iteF hg33] at hx35
            simp only [hg33, run_guard (g := 22), guard_off, hg26, run_guard (g := 19), guard_false, run_pick, put1_some, xpick_f, run_ops_nil, run_nil, B0, reduceIte,
                reduceEqDiff]
            have e41 := some_inj hx35
            exact hN32 _ _ ⟨hS17, by rw [← e41]; simp only [B0, reduceIte, reduceEqDiff], by simp only [f18, B0, reduceIte, reduceEqDiff], by simp only [f19, B0, reduceIte,
                reduceEqDiff], by simp only [f20, B0, reduceIte, reduceEqDiff], by simp only [f23, B0, reduceIte, reduceEqDiff], by simp only [f22, B0, reduceIte, reduceEqDiff],
                by simp only [hg26, B0, reduceIte, reduceEqDiff]⟩
        rintro fr42 h50 ⟨hS51, f43, f44, f45, f46, f47, f48, f49⟩
        simp only [List.drop_succ_cons, List.drop_zero]
        simp only [f49, hg26, run_pick, put1_some, xpick_f, f43, run_ops_nil, run_nil, B0, reduceIte, reduceEqDiff]
        have e52 := some_inj hF36
        exact hN25 _ _ ⟨hS51, by rw [← e52]; simp only [B0, reduceIte, reduceEqDiff], by simp only [f44, B0, reduceIte, reduceEqDiff], by simp only [f45, B0, reduceIte,
            reduceEqDiff], by simp only [f46, B0, reduceIte, reduceEqDiff], by simp only [f47, B0, reduceIte, reduceEqDiff], by simp only [f48, B0, reduceIte, reduceEqDiff]⟩
    rintro fr53 h60 ⟨hS61, f54, f55, f56, f57, f58, f59⟩
    simp only [List.drop_succ_cons, List.drop_zero]
    simp only [run_ops_nil, f54, run_cond, B0, reduceIte, reduceEqDiff]
    refine cond_split (t := v27) (fun hc62 => ?_) (fun hc62 => ?_)
    · rw [iteT hc62] at hF29
      simp only [run_seq, run_reg, run_mv, run_ops_nil, run_ret, B0, reduceIte, reduceEqDiff]
      have e63 := some_inj hF29
      subst e63
      have ho64 := hr8 _ rfl
      have hk65 := hk6
      rw [ho64] at hk65
      dsimp only [jnO] at hk65
      apply hR12
      have he := some_inj hk65
      subst he
      simp only [end_ret1, B0, reduceIte, reduceEqDiff]
      exact rfl
    rw [iteF hc62] at hF29
    simp only [run_skip, run_nil, B0, reduceIte, reduceEqDiff]
    have e66 := some_inj hF29
    exact hN10 _ _ _ e66.symm ⟨by simp only [f55, B0, reduceIte, reduceEqDiff], by simp only [f56, B0, reduceIte, reduceEqDiff], by simp only [f57, B0, reduceIte, reduceEqDiff],
        hS61⟩ (by simp only [f59, B0, reduceIte, reduceEqDiff]) (by simp only [f58, B0, reduceIte, reduceEqDiff])
  rintro _ fr68 h69 rfl ⟨f71, f72, f73, hS70⟩
  dsimp only [jnO] at hk6
  unfold impl_areMembers_j1 at hk6
  simp only [run_seq, run_reg, run_mv, run_ops_nil, run_ret, B0, reduceIte, reduceEqDiff]
  have he := some_inj hk6
  subst he
  simp only [end_ret1, B0, reduceIte, reduceEqDiff]
  exact rfl
theorem slices_Equal_int_x {W : Nat → Bool} {h : Heap} (hW : ∀ b,
    h.length ≤ b → W b = true) (s1_0 : List Int) (s2_1 : List Int) (r : Bool) (hF : slices_Equal_int s1_0 s2_1 = some r) : Ret E W 82 [lst cI s1_0,
    lst cI s2_1] h (fun v h' => cut h.length h' E.sz false 9 v = some (.bool r)) := by
  refine Ret.of (fn := x82) rfl (Run.of ?_)
  unfold slices_Equal_int at hF
  have zf0 : argFr [lst cI s1_0, lst cI s2_1] 0 = lst cI s1_0 := rfl
  have zf1 : argFr [lst cI s1_0, lst cI s2_1] 1 = lst cI s2_1 := rfl
  generalize argFr [lst cI s1_0, lst cI s2_1] = fr0 at zf0 zf1 ⊢
  have hS : Sep h h.length [] := Sep.nil h
  simp only [x82, run_seq, run_reg, run_mv, run_ops_nil, x82_6, zf0, run_len, put1_some, xlen_lst, zf1, run_bin, xneq, run_cond, B0, reduceIte, reduceEqDiff]
  refine cond_split (t := (decide ((List.length s1_0 : Int) ≠ (List.length s2_1 : Int)))) (fun hc1 => ?_) (fun hc1 => ?_)
  · rw [iteT hc1] at hF
    simp only [run_seq, run_reg, run_mv, run_ops_nil, run_ret, B0, reduceIte, reduceEqDiff]
    have he := some_inj hF
    subst he
    simp only [end_ret1, B0, reduceIte, reduceEqDiff]
    exact rfl
  rw [iteF hc1] at hF
  simp only [run_skip, x82_5, run_seq, run_reg, zf0, run_mv, run_len, put1_some, xlen_lst, run_ops_nil, B0, reduceIte, reduceEqDiff]
  obtain ⟨oc4, hX6, hk7⟩ := jn_some hF
  simp only [x82_4]
  refine rangeL_j (σ := Unit) s1_0 (fun i2 x3 _ => slices_Equal_int_b1 s2_1 i2 x3 ) (fun s fr' h' => fr' 0 = lst cI s1_0 ∧ fr' 1 = lst cI s2_1 ∧ Sep h' h.length
      ([])) hX6 ⟨by simp only [zf0, B0, reduceIte, reduceEqDiff], by simp only [zf1, B0, reduceIte, reduceEqDiff], hS⟩ (by simp only [B0, reduceIte,
      reduceEqDiff]) (by simp only [B0, reduceIte, reduceEqDiff]) (fun _ _ _ h => h) rfl rfl (fun _ _ _ _ h => h) (fun _ _ _ _ h => h) (fun _ _ _ _ h => h) (by decide) ?_ ?_
  · rintro i2 x3 _ fr16 h17 hx21 ⟨f19, f20, hS18⟩ f22 f23 oc5 hF8 hr9 Q10 hN11 hB15 hK12 hR13 hE14
    unfold slices_Equal_int_b1 at hF8
    simp only [x82_2, run_seq, run_reg, f22, run_mv, run_ops_nil, x82_1, run_draw, f19, d4_mv, put1d_some, d4_ia, B0, reduceIte, reduceEqDiff]
    refine put1d_eq (v := .ref (cI x3) 0) (xia_lstN hx21 rfl) ?_
    simp only [d4_ld, B0, reduceIte, reduceEqDiff]
    refine put1d_eq (v := .int .i64 x3) rfl ?_
    obtain ⟨x24, hx25, hF26⟩ := bind_some' hF8
    simp only [f20, d4_mv, put1d_some, d4_ia, B0, reduceIte, reduceEqDiff]
    refine put1d_eq (v := .ref (cI x24) 0) (xia_lst hx25 rfl) ?_
    simp only [d4_ld, B0, reduceIte, reduceEqDiff]
    refine put1d_eq (v := .int .i64 x24) rfl ?_
    simp only [d4_bin, put1d_some, xneq, run_draw_nil, run_cond, B0, reduceIte, reduceEqDiff]
    refine cond_split (t := (decide (x3 ≠ x24))) (fun hc27 => ?_) (fun hc27 => ?_)
    · rw [iteT hc27] at hF26
      simp only [run_seq, run_reg, run_mv, run_ops_nil, run_ret, B0, reduceIte, reduceEqDiff]
      have e28 := some_inj hF26
      subst e28
      have ho29 := hr9 _ rfl
      have hk30 := hk7
      rw [ho29] at hk30
      dsimp only [jnO] at hk30
      apply hR13
      have he := some_inj hk30
      subst he
      simp only [end_ret1, B0, reduceIte, reduceEqDiff]
      exact rfl
    rw [iteF hc27] at hF26
    simp only [run_skip, run_nil, B0, reduceIte, reduceEqDiff]
    have e31 := some_inj hF26
    exact hN11 _ _ _ e31.symm ⟨by simp only [f19, B0, reduceIte, reduceEqDiff], by simp only [f20, B0, reduceIte, reduceEqDiff], hS18⟩ (by simp only [f22, B0, reduceIte,
        reduceEqDiff]) (by simp only [f23, B0, reduceIte, reduceEqDiff])
  rintro _ fr33 h34 rfl ⟨f36, f37, hS35⟩
  dsimp only [jnO] at hk7
  unfold slices_Equal_int_j1 at hk7
  simp only [run_seq, run_reg, run_mv, run_ops_nil, run_ret, B0, reduceIte, reduceEqDiff]
  have he := some_inj hk7
  subst he
  simp only [end_ret1, B0, reduceIte, reduceEqDiff]
  exact rfl
end Go.Proofs.Ytdhibknhejhfaaa.X
namespace Go.Proofs.Ytdhibknhejhfaaa.X
open Go
open Nat (reduceEqDiff)
theorem impl_areReaders_x {W : Nat → Bool} {h : Heap} (hW : ∀ b,
    h.length ≤ b → W b = true) (v_0 : Readers_) (r : Bool) (hF : impl_areReaders v_0 = some r) : Ret E W 55 [.agg [.int .i64 v_0.Generation, lst Reader.cells v_0.Readers,
    lst cI v_0.Committed, lst cI v_0.Ends]] h (fun v h' => cut h.length h' E.sz false 9 v = some (.bool r)) := by
  refine Ret.of (fn := x55) rfl (Run.of ?_)
  unfold impl_areReaders at hF
  have zf0 : argFr [.agg [.int .i64 v_0.Generation, lst Reader.cells v_0.Readers, lst cI v_0.Committed, lst cI v_0.Ends]] 0 = .agg [.int .i64 v_0.Generation,
      lst Reader.cells v_0.Readers, lst cI v_0.Committed, lst cI v_0.Ends] := rfl
  generalize argFr [.agg [.int .i64 v_0.Generation, lst Reader.cells v_0.Readers, lst cI v_0.Committed, lst cI v_0.Ends]] = fr0 at zf0 ⊢
  have hS : Sep h h.length [] := Sep.nil h
  simp only [x55, run_seq, run_reg, run_box, zf0, B0, reduceIte, reduceEqDiff]
  refine put2_boxC (cs := [.int .i64 v_0.Generation, lst Reader.cells v_0.Readers, lst cI v_0.Committed, lst cI v_0.Ends]) hS rfl rfl rfl (fun b1 h2 hS3 => ?_)
  simp only [run_mv, run_ops_nil, B0, reduceIte, reduceEqDiff]
  refine frz_stepC hS3 hW (by simp only [B0, reduceIte, reduceEqDiff]) (fun h5 hS6 => ?_)
  simp only [run_frz_nil, x55_19, run_seq, run_reg, run_fa, put1_some, Nat.reduceAdd, Nat.zero_add, Nat.add_zero, xfa_ref, run_ld, B0, reduceIte, reduceEqDiff]
  refine put1_eq (v := lst cI v_0.Ends) rfl ?_
  simp only [run_len, put1_some, xlen_lst, run_mv, run_ops_nil, x55_18, run_seq, run_reg, run_fa, Nat.reduceAdd, Nat.zero_add, Nat.add_zero, xfa_ref, run_ld, B0, reduceIte,
      reduceEqDiff]
  refine put1_eq (v := lst Reader.cells v_0.Readers) rfl ?_
  simp only [run_len, put1_some, xlen_lst, run_fa, Nat.reduceAdd, Nat.zero_add, Nat.add_zero, xfa_ref, run_ld, B0, reduceIte, reduceEqDiff]
  refine put1_eq (v := lst cI v_0.Ends) rfl ?_
  obtain ⟨v7, hx8, hF9⟩ := bind_some' hF
  simp only [run_call, B0, reduceIte, reduceEqDiff]
  refine call2 rfl hS6 (mapM1 snap_int (mapM1 snap_lst mapM0)) (impl_newReaders_x (fun b hb => decide_eq_true hb) (List.length v_0.Readers : Int) v_0.Ends v7 hx8) ?_
  rintro _ h22 ⟨v10, c11, v14, c15, v18, c19, rfl, hv12, hv16, hv20, hS23⟩
  refine ⟨_, free_t (all_c (free2_a (all_c rfl (all_c (SlN.free1 hv12) (all_c (SlF.free1 hv16) (all_c (SlF.free1 hv20) all_n))))) (all_c rfl all_n)), hS23,
      (pf_app (SlN.pf hv12 Reader.RO) (pf_app (SlF.pf hv16 (fun _ => rfl)) (pf_app (SlF.pf hv20 (fun _ => rfl)) pf_nil))), fun h24 hS25 => ?_⟩
  have hS26 : Sep h24 h.length (c11 ++ (c15 ++ (c19 ++ ([])))) := by simpa only [List.append_assoc, List.nil_append] using hS25
  simp only [run_mv, run_ext, put1_some, xext_0, xext_1, run_new, B0, reduceIte, reduceEqDiff]
  refine put2_newC hS26 (fun b27 h28 hS29 => ?_)
  simp only [run_st, B0, reduceIte, reduceEqDiff]
  refine put2_stCx (us := [.int .i64 v7.1.Generation, v10, v14, v18]) rfl (cs' := [.int .i64 v7.1.Generation, v10, v14,
      v18]) hS29 hW rfl (all_c rfl (all_c (SlN.one hv12) (all_c (SlF.one hv16) (all_c (SlF.one hv20) all_n)))) (Nat.le_of_ble_eq_true rfl) rfl (fun h31 hS32 => ?_)
  simp only [run_mv, run_ops_nil, B0, reduceIte, reduceEqDiff]
  refine frz_stepC hS32 hW (by simp only [B0, reduceIte, reduceEqDiff]) (fun h33 hS34 => ?_)
  simp only [run_frz_nil, x55_1, run_seq, run_reg, run_mv, run_un, put1_some, xnot, B0, reduceIte, reduceEqDiff]
  refine ops_j 6 (fun fr' h' => Sep h' h.length ([]) ∧ fr' 32 = .bool ((!v7.2) || (decide ((List.length v_0.Committed : Int) ≠
      (List.length v_0.Ends : Int)))) ∧ fr' 1 = .ref [.int .i64 v_0.Generation, lst Reader.cells v_0.Readers, lst cI v_0.Committed,
      lst cI v_0.Ends] 0 ∧ fr' 3 = .int .i64 (List.length v_0.Ends : Int)) (fun Q35 hN36 => ?_) ?_
  · simp only [List.take_succ_cons, List.take_zero]
    simp only [run_guard (g := 26), B0, reduceIte, reduceEqDiff]
    refine guard_split (t := (!v7.2)) (fun hg37 => ?_) (fun hg37 => ?_)
    · simp only [hg37, run_guard (g := 26), guard_off', run_pick, put1_some, xpick_t, run_ops_nil, run_nil, B0, reduceIte, reduceEqDiff]
      exact hN36 _ _ ⟨(Sep.dc ((Sep.dc ((Sep.dc (hS34)))))), by rw [orT hg37]; simp only [B0, reduceIte, reduceEqDiff], by simp only [B0, reduceIte, reduceEqDiff],
          by simp only [B0, reduceIte, reduceEqDiff]⟩
    · simp only [hg37, run_guard (g := 26), guard_false, run_fa, put1_some, Nat.reduceAdd, Nat.zero_add, Nat.add_zero, xfa_ref, run_ld, B0, reduceIte, reduceEqDiff]
      refine put1_eq (v := lst cI v_0.Committed) rfl ?_
      simp only [hg37, run_guard (g := 26), guard_false, run_len, put1_some, xlen_lst, run_mv, run_bin, xneq, run_pick, xpick_f, run_ops_nil, run_nil, B0, reduceIte, reduceEqDiff]
      exact hN36 _ _ ⟨(Sep.dc ((Sep.dc ((Sep.dc (hS34)))))), by rw [orF hg37]; simp only [B0, reduceIte, reduceEqDiff], by simp only [B0, reduceIte, reduceEqDiff],
          by simp only [B0, reduceIte, reduceEqDiff]⟩
  rintro fr38 h42 ⟨hS43, f39, f40, f41⟩
  simp only [List.drop_succ_cons, List.drop_zero]
  simp only [f39, run_mv, B0, reduceIte, reduceEqDiff]
  refine ops_j 5 (fun fr' h' => Sep h' h.length ([]) ∧ fr' 38 = .bool (((!v7.2) || (decide ((List.length v_0.Committed : Int) ≠ (List.length v_0.Ends : Int)))) ||
      (!(impl_in v_0.Generation 0 1000))) ∧ fr' 1 = .ref [.int .i64 v_0.Generation, lst Reader.cells v_0.Readers, lst cI v_0.Committed,
      lst cI v_0.Ends] 0 ∧ fr' 3 = .int .i64 (List.length v_0.Ends : Int)) (fun Q44 hN45 => ?_) ?_
  · simp only [List.take_succ_cons, List.take_zero]
    simp only [run_guard (g := 33), B0, reduceIte, reduceEqDiff]
    refine guard_split (t := ((!v7.2) || (decide ((List.length v_0.Committed : Int) ≠ (List.length v_0.Ends : Int))))) (fun hg46 => ?_) (fun hg46 => ?_)
    · simp only [hg46, run_guard (g := 33), guard_off', run_pick, put1_some, xpick_t, run_ops_nil, run_nil, B0, reduceIte, reduceEqDiff]
      exact hN45 _ _ ⟨hS43, by rw [orT hg46]; simp only [B0, reduceIte, reduceEqDiff], by simp only [f40, B0, reduceIte, reduceEqDiff], by simp only [f41, B0, reduceIte,
          reduceEqDiff]⟩
    · simp only [hg46, run_guard (g := 33), guard_false, f40, run_fa, put1_some, Nat.reduceAdd, Nat.zero_add, Nat.add_zero, xfa_ref, run_ld, B0, reduceIte, reduceEqDiff]
      refine put1_eq (v := .int .i64 v_0.Generation) rfl ?_
      simp only [hg46, run_guard (g := 33), guard_false, run_call, B0, reduceIte, reduceEqDiff]
      refine call1 rfl (mapM1 snap_int (mapM1 snap_int (mapM1 snap_int mapM0))) (impl_in_x (fun b hb => decide_eq_true hb) v_0.Generation 0 1000 _ rfl) ?_
      simp only [hg46, run_guard (g := 33), guard_false, run_un, put1_some, xnot, run_pick, xpick_f, run_ops_nil, run_nil, B0, reduceIte, reduceEqDiff]
      exact hN45 _ _ ⟨hS43, by rw [orF hg46]; simp only [B0, reduceIte, reduceEqDiff], by simp only [f40, B0, reduceIte, reduceEqDiff], by simp only [f41, B0, reduceIte,
          reduceEqDiff]⟩
  rintro fr47 h51 ⟨hS52, f48, f49, f50⟩
  simp only [List.drop_succ_cons, List.drop_zero]
  simp only [run_ops_nil, f48, run_cond, B0, reduceIte, reduceEqDiff]
  refine cond_split (t := (((!v7.2) || (decide ((List.length v_0.Committed : Int) ≠ (List.length v_0.Ends : Int)))) || (!(impl_in v_0.Generation 0 1000)))) (fun hc53 => ?_)
      (fun hc53 => ?_)
  · rw [iteT hc53] at hF9
    simp only [run_seq, run_reg, run_mv, run_ops_nil, run_ret, B0, reduceIte, reduceEqDiff]
    have he := some_inj hF9
    subst he
    simp only [end_ret1, B0, reduceIte, reduceEqDiff]
    exact rfl
  rw [iteF hc53] at hF9
  simp only [run_skip, x55_17, run_seq, run_reg, f49, run_fa, put1_some, Nat.reduceAdd, Nat.zero_add, Nat.add_zero, xfa_ref, run_ld, B0, reduceIte, reduceEqDiff]
  refine put1_eq (v := lst cI v_0.Committed) rfl ?_
  simp only [run_len, put1_some, xlen_lst, run_mv, run_ops_nil, B0, reduceIte, reduceEqDiff]
  obtain ⟨oc56, hX58, hk59⟩ := jn_some hF9
  simp only [x55_5]
  refine rangeL_j (σ := Unit) v_0.Committed (fun i54 x55 _ => impl_areReaders_b1 v_0 i54 x55 ) (fun s fr' h' => fr' 1 = .ref [.int .i64 v_0.Generation,
      lst Reader.cells v_0.Readers, lst cI v_0.Committed,
      lst cI v_0.Ends] 0 ∧ fr' 3 = .int .i64 (List.length v_0.Ends : Int) ∧ fr' 40 = lst cI v_0.Committed ∧ Sep h' h.length ([])) hX58 ⟨by simp only [f49, B0, reduceIte,
      reduceEqDiff], by simp only [f50, B0, reduceIte, reduceEqDiff], by simp only [B0, reduceIte, reduceEqDiff], hS52⟩ (by simp only [B0, reduceIte,
      reduceEqDiff]) (by simp only [B0, reduceIte, reduceEqDiff]) (fun _ _ _ h => h) rfl rfl (fun _ _ _ _ h => h) (fun _ _ _ _ h => h) (fun _ _ _ _ h => h) (by decide) ?_ ?_
  · rintro i54 x55 _ fr68 h69 hx74 ⟨f71, f72, f73, hS70⟩ f75 f76 oc57 hF60 hr61 Q62 hN63 hB67 hK64 hR65 hE66
    unfold impl_areReaders_b1 at hF60
    simp only [x55_3, run_seq, run_reg, f75, run_mv, f73, run_ia, B0, reduceIte, reduceEqDiff]
    refine put1_eq (v := .ref (cI x55) 0) (xia_lstN hx74 rfl) ?_
    simp only [run_ld, B0, reduceIte, reduceEqDiff]
    refine put1_eq (v := .int .i64 x55) rfl ?_
    simp only [run_mv, run_ops_nil, x55_2, run_seq, run_reg, f71, run_fa, put1_some, Nat.reduceAdd, Nat.zero_add, Nat.add_zero, xfa_ref, run_ld, B0, reduceIte, reduceEqDiff]
    refine put1_eq (v := lst cI v_0.Ends) rfl ?_
    obtain ⟨x77, hx78, hF79⟩ := bind_some' hF60
    simp only [run_mv, run_ia, B0, reduceIte, reduceEqDiff]
    refine put1_eq (v := .ref (cI x77) 0) (xia_lst hx78 rfl) ?_
    simp only [run_ld, B0, reduceIte, reduceEqDiff]
    refine put1_eq (v := .int .i64 x77) rfl ?_
    simp only [run_call, B0, reduceIte, reduceEqDiff]
    refine call1 rfl (mapM1 snap_int (mapM1 snap_int (mapM1 snap_int mapM0))) (impl_in_x (fun b hb => decide_eq_true hb) x55 0 x77 _ rfl) ?_
    simp only [run_un, put1_some, xnot, run_ops_nil, run_cond, B0, reduceIte, reduceEqDiff]
    refine cond_split (t := (!(impl_in x55 0 x77))) (fun hc80 => ?_) (fun hc80 => ?_)
    · rw [iteT hc80] at hF79
      simp only [run_seq, run_reg, run_mv, run_ops_nil, run_ret, B0, reduceIte, reduceEqDiff]
      have e81 := some_inj hF79
      subst e81
      have ho82 := hr61 _ rfl
      have hk83 := hk59
      rw [ho82] at hk83
      dsimp only [jnO] at hk83
      apply hR65
      have he := some_inj hk83
      subst he
      simp only [end_ret1, B0, reduceIte, reduceEqDiff]
      exact rfl
    rw [iteF hc80] at hF79
    simp only [run_skip, run_nil, B0, reduceIte, reduceEqDiff]
    have e84 := some_inj hF79
    exact hN63 _ _ _ e84.symm ⟨by simp only [f71, B0, reduceIte, reduceEqDiff], by simp only [f72, B0, reduceIte, reduceEqDiff], by simp only [f73, B0, reduceIte, reduceEqDiff],
        hS70⟩ (by simp only [f75, B0, reduceIte, reduceEqDiff]) (by simp only [f76, B0, reduceIte, reduceEqDiff])
  rintro _ fr86 h87 rfl ⟨f89, f90, f91, hS88⟩
  dsimp only [jnO] at hk59
  unfold impl_areReaders_j3 at hk59
  simp only [x55_16, run_seq, run_reg, f89, run_fa, put1_some, Nat.reduceAdd, Nat.zero_add, Nat.add_zero, xfa_ref, run_ld, B0, reduceIte, reduceEqDiff]
  refine put1_eq (v := lst Reader.cells v_0.Readers) rfl ?_
  simp only [run_len, put1_some, xlen_lst, run_mv, run_ops_nil, B0, reduceIte, reduceEqDiff]
  obtain ⟨oc94, hX96, hk97⟩ := jn_some hk59
  simp only [x55_15]
  refine rangeL_j (σ := Unit) v_0.Readers (fun i92 x93 _ => impl_areReaders_b3 v_0 i92 x93 ) (fun s fr' h' => fr' 1 = .ref [.int .i64 v_0.Generation, lst Reader.cells v_0.Readers,
      lst cI v_0.Committed, lst cI v_0.Ends] 0 ∧ fr' 3 = .int .i64 (List.length v_0.Ends : Int) ∧ fr' 57 = lst Reader.cells v_0.Readers ∧ Sep h' h.length
      ([])) hX96 ⟨by simp only [f89, B0, reduceIte, reduceEqDiff], by simp only [f90, B0, reduceIte, reduceEqDiff], by simp only [B0, reduceIte, reduceEqDiff],
      hS88⟩ (by simp only [B0, reduceIte, reduceEqDiff]) (by simp only [B0, reduceIte,
      reduceEqDiff]) (fun _ _ _ h => h) rfl rfl (fun _ _ _ _ h => h) (fun _ _ _ _ h => h) (fun _ _ _ _ h => h) (by decide) ?_ ?_
  · rintro i92 x93 _ fr106 h107 hx112 ⟨f109, f110, f111, hS108⟩ f113 f114 oc95 hF98 hr99 Q100 hN101 hB105 hK102 hR103 hE104
    unfold impl_areReaders_b3 at hF98
    simp only [x55_13, run_seq, run_reg, f113, run_mv, f111, run_ia, B0, reduceIte, reduceEqDiff]
    refine put1_eq (v := .ref (Reader.cells x93) 0) (xia_lstN hx112 rfl) ?_
    simp only [run_ld, B0, reduceIte, reduceEqDiff]
    refine put1_eq (v := .agg [.bool x93.In, .int .i64 x93.Generation, lst cI x93.Share, lst cI x93.Read]) rfl ?_
    simp only [run_new, B0, reduceIte, reduceEqDiff]
    refine put2_newC hS108 (fun b115 h116 hS117 => ?_)
    simp only [run_mv, run_st, B0, reduceIte, reduceEqDiff]
    refine put2_stCx (us := [.bool x93.In, .int .i64 x93.Generation, lst cI x93.Share, lst cI x93.Read]) rfl (cs' := [.bool x93.In, .int .i64 x93.Generation, lst cI x93.Share,
        lst cI x93.Read]) hS117 hW rfl rfl (Nat.le_of_ble_eq_true rfl) rfl (fun h119 hS120 => ?_)
    simp only [run_ops_nil, B0, reduceIte, reduceEqDiff]
    refine frz_stepC hS120 hW (by simp only [B0, reduceIte, reduceEqDiff]) (fun h121 hS122 => ?_)
    simp only [run_frz_nil, x55_12, run_seq, run_reg, run_fa, put1_some, Nat.reduceAdd, Nat.zero_add, Nat.add_zero, xfa_ref, run_ld, B0, reduceIte, reduceEqDiff]
    refine put1_eq (v := lst cI x93.Read) rfl ?_
    simp only [run_len, put1_some, xlen_lst, f110, run_mv, run_bin, xneq, B0, reduceIte, reduceEqDiff]
    obtain ⟨v126, hx127, hF128⟩ := bind_some' hF98
    refine ops_j 6 (fun fr' h' => Sep h' h.length ([]) ∧ fr' 75 = .bool v126 ∧ fr' 1 = .ref [.int .i64 v_0.Generation, lst Reader.cells v_0.Readers, lst cI v_0.Committed,
        lst cI v_0.Ends] 0 ∧ fr' 3 = .int .i64 (List.length v_0.Ends : Int) ∧ fr' 8 = .int .i64 (i92 : Int) ∧ fr' 9 = .ref [.bool x93.In, .int .i64 x93.Generation,
        lst cI x93.Share, lst cI x93.Read] 0 ∧ fr' 57 = lst Reader.cells v_0.Readers ∧ fr' 58 = .int .i64 (List.length v_0.Readers : Int) ∧ fr' 59 = .int .i64 (i92 : Int))
        (fun Q123 hN124 => ?_) ?_
    · simp only [List.take_succ_cons, List.take_zero]
      simp only [run_guard (g := 69), B0, reduceIte, reduceEqDiff]
      refine guard_split (t := (decide ((List.length x93.Read : Int) ≠ (List.length v_0.Ends : Int)))) (fun hg125 => ?_) (fun hg125 => ?_)
      · rw [iteT hg125] at hx127
        simp only [hg125, run_guard (g := 69), guard_off', run_pick, put1_some, xpick_t, run_ops_nil, run_nil, B0, reduceIte, reduceEqDiff]
        have e129 := some_inj hx127
        exact hN124 _ _ ⟨hS122, by rw [← e129]; simp only [B0, reduceIte, reduceEqDiff], by simp only [f109, B0, reduceIte, reduceEqDiff], by simp only [f110, B0, reduceIte,
            reduceEqDiff], by simp only [B0, reduceIte, reduceEqDiff], by simp only [B0, reduceIte, reduceEqDiff], by simp only [f111, B0, reduceIte, reduceEqDiff],
            by simp only [f114, B0, reduceIte, reduceEqDiff], by simp only [f113, B0, reduceIte, reduceEqDiff]⟩
      · rw [iteF hg125] at hx127
        simp only [hg125, run_guard (g := 69), guard_false, run_fa, put1_some, Nat.reduceAdd, Nat.zero_add, Nat.add_zero, xfa_ref, run_ld, B0, reduceIte, reduceEqDiff]
        refine put1_eq (v := lst cI x93.Share) rfl ?_
        obtain ⟨v130, hx131, hF132⟩ := bind_some' hx127
        simp only [hg125, run_guard (g := 69), guard_false, f110, run_mv, run_call, B0, reduceIte, reduceEqDiff]
        refine call1 rfl (mapM1 snap_lst (mapM1 snap_int mapM0)) (impl_areMembers_x (fun b hb => decide_eq_true hb) x93.Share (List.length v_0.Ends : Int) v130 hx131) ?_
        simp only [hg125, run_guard (g := 69), guard_false, run_un, put1_some, xnot, run_pick, xpick_f, run_ops_nil, run_nil, B0, reduceIte, reduceEqDiff]
        have e133 := some_inj hF132
        exact hN124 _ _ ⟨hS122, by rw [← e133]; simp only [B0, reduceIte, reduceEqDiff], by simp only [f109, B0, reduceIte, reduceEqDiff], by simp only [f110, B0, reduceIte,
            reduceEqDiff], by simp only [B0, reduceIte, reduceEqDiff], by simp only [B0, reduceIte, reduceEqDiff], by simp only [f111, B0, reduceIte, reduceEqDiff],
            by simp only [f114, B0, reduceIte, reduceEqDiff], by simp only [f113, B0, reduceIte, reduceEqDiff]⟩
    rintro fr134 h143 ⟨hS144, f135, f136, f137, f138, f139, f140, f141, f142⟩
    simp only [List.drop_succ_cons, List.drop_zero]
    simp only [f135, run_mv, B0, reduceIte, reduceEqDiff]
    refine ops_j 7 (fun fr' h' => Sep h' h.length ([]) ∧ fr' 83 = .bool (v126 || (!(impl_in x93.Generation 0 v_0.Generation))) ∧ fr' 1 = .ref [.int .i64 v_0.Generation,
        lst Reader.cells v_0.Readers, lst cI v_0.Committed,
        lst cI v_0.Ends] 0 ∧ fr' 3 = .int .i64 (List.length v_0.Ends : Int) ∧ fr' 8 = .int .i64 (i92 : Int) ∧ fr' 9 = .ref [.bool x93.In, .int .i64 x93.Generation,
        lst cI x93.Share, lst cI x93.Read] 0 ∧ fr' 57 = lst Reader.cells v_0.Readers ∧ fr' 58 = .int .i64 (List.length v_0.Readers : Int) ∧ fr' 59 = .int .i64 (i92 : Int))
        (fun Q145 hN146 => ?_) ?_
    · simp only [List.take_succ_cons, List.take_zero]
      simp only [run_guard (g := 76), B0, reduceIte, reduceEqDiff]
      refine guard_split (t := v126) (fun hg147 => ?_) (fun hg147 => ?_)
      · simp only [hg147, run_guard (g := 76), guard_off', run_pick, put1_some, xpick_t, run_ops_nil, run_nil, B0, reduceIte, reduceEqDiff]
        exact hN146 _ _ ⟨hS144, by rw [orT hg147]; simp only [B0, reduceIte, reduceEqDiff], by simp only [f136, B0, reduceIte, reduceEqDiff], by simp only [f137, B0, reduceIte,
            reduceEqDiff], by simp only [f138, B0, reduceIte, reduceEqDiff], by simp only [f139, B0, reduceIte, reduceEqDiff], by simp only [f140, B0, reduceIte, reduceEqDiff],
            by simp only [f141, B0, reduceIte, reduceEqDiff], by simp only [f142, B0, reduceIte, reduceEqDiff]⟩
      · simp only [hg147, run_guard (g := 76), guard_false, f139, run_fa, put1_some, Nat.reduceAdd, Nat.zero_add, Nat.add_zero, xfa_ref, run_ld, B0, reduceIte, reduceEqDiff]
        refine put1_eq (v := .int .i64 x93.Generation) rfl ?_
        simp only [hg147, run_guard (g := 76), guard_false, f136, run_fa, put1_some, Nat.reduceAdd, Nat.zero_add, Nat.add_zero, xfa_ref, run_ld, B0, reduceIte, reduceEqDiff]
        refine put1_eq (v := .int .i64 v_0.Generation) rfl ?_
        simp only [hg147, run_guard (g := 76), guard_false, run_call, B0, reduceIte, reduceEqDiff]
        refine call1 rfl (mapM1 snap_int (mapM1 snap_int (mapM1 snap_int mapM0))) (impl_in_x (fun b hb => decide_eq_true hb) x93.Generation 0 v_0.Generation _ rfl) ?_
        simp only [hg147, run_guard (g := 76), guard_false, run_un, put1_some, xnot, run_pick, xpick_f, run_ops_nil, run_nil, B0, reduceIte, reduceEqDiff]
        exact hN146 _ _ ⟨hS144, by rw [orF hg147]; simp only [B0, reduceIte, reduceEqDiff], by simp only [f136, B0, reduceIte, reduceEqDiff], by simp only [f137, B0, reduceIte,
            reduceEqDiff], by simp only [f138, B0, reduceIte, reduceEqDiff], by simp only [f139, B0, reduceIte, reduceEqDiff], by simp only [f140, B0, reduceIte, reduceEqDiff],
            by simp only [f141, B0, reduceIte, reduceEqDiff], by simp only [f142, B0, reduceIte, reduceEqDiff]⟩
    rintro fr148 h157 ⟨hS158, f149, f150, f151, f152, f153, f154, f155, f156⟩
    simp only [List.drop_succ_cons, List.drop_zero]
    simp only [f149, run_mv, B0, reduceIte, reduceEqDiff]
    refine ops_j 15 (fun fr' h' => Sep h' h.length ([]) ∧ fr' 99 = .bool ((v126 || (!(impl_in x93.Generation 0 v_0.Generation))) || ((!x93.In) && ((decide
        (x93.Generation ≠ 0)) || (decide ((0 : Int) < (List.length x93.Share : Int)))))) ∧ fr' 1 = .ref [.int .i64 v_0.Generation, lst Reader.cells v_0.Readers,
        lst cI v_0.Committed, lst cI v_0.Ends] 0 ∧ fr' 3 = .int .i64 (List.length v_0.Ends : Int) ∧ fr' 8 = .int .i64 (i92 : Int) ∧ fr' 9 = .ref [.bool x93.In,
        .int .i64 x93.Generation, lst cI x93.Share,
        lst cI x93.Read] 0 ∧ fr' 57 = lst Reader.cells v_0.Readers ∧ fr' 58 = .int .i64 (List.length v_0.Readers : Int) ∧ fr' 59 = .int .i64 (i92 : Int)) (fun Q159 hN160 => ?_) ?_
    · simp only [List.take_succ_cons, List.take_zero]
      simp only [run_guard (g := 84), B0, reduceIte, reduceEqDiff]
      refine guard_split (t := (v126 || (!(impl_in x93.Generation 0 v_0.Generation)))) (fun hg161 => ?_) (fun hg161 => ?_)
      · simp only [hg161, run_guard (g := 84), guard_off', run_guard (g := 88), guard_tup, run_guard (g := 92), run_pick, put1_some, xpick_t, run_ops_nil, run_nil, B0, reduceIte,
          reduceEqDiff]
        exact hN160 _ _ ⟨hS158, by rw [orT hg161]; simp only [B0, reduceIte, reduceEqDiff], by simp only [f150, B0, reduceIte, reduceEqDiff], by simp only [f151, B0, reduceIte,
            reduceEqDiff], by simp only [f152, B0, reduceIte, reduceEqDiff], by simp only [f153, B0, reduceIte, reduceEqDiff], by simp only [f154, B0, reduceIte, reduceEqDiff],
            by simp only [f155, B0, reduceIte, reduceEqDiff], by simp only [f156, B0, reduceIte, reduceEqDiff]⟩
      · simp only [hg161, run_guard (g := 84), guard_false, f153, run_fa, put1_some, Nat.reduceAdd, Nat.zero_add, Nat.add_zero, xfa_ref, run_ld, B0, reduceIte, reduceEqDiff]
        refine put1_eq (v := .bool x93.In) rfl ?_
        simp only [hg161, run_guard (g := 84), guard_false, run_un, put1_some, xnot, run_mv, B0, reduceIte, reduceEqDiff]
        refine ops_j 10 (fun fr' h' => Sep h' h.length ([]) ∧ fr' 98 = .bool ((!x93.In) && ((decide (x93.Generation ≠ 0)) || (decide ((0 : Int) <
            (List.length x93.Share : Int))))) ∧ fr' 1 = .ref [.int .i64 v_0.Generation, lst Reader.cells v_0.Readers, lst cI v_0.Committed,
            lst cI v_0.Ends] 0 ∧ fr' 3 = .int .i64 (List.length v_0.Ends : Int) ∧ fr' 8 = .int .i64 (i92 : Int) ∧ fr' 9 = .ref [.bool x93.In, .int .i64 x93.Generation,
            lst cI x93.Share, lst cI x93.Read] 0 ∧ fr' 57 = lst Reader.cells v_0.Readers ∧ fr' 58 = .int .i64 (List.length v_0.Readers : Int) ∧ fr' 59 = .int .i64
            (i92 : Int) ∧ fr' 84 = .bool (v126 || (!(impl_in x93.Generation 0 v_0.Generation)))) (fun Q162 hN163 => ?_) ?_
        · simp only [List.take_succ_cons, List.take_zero]
          simp only [run_guard (g := 88), B0, reduceIte, reduceEqDiff]
          refine guard_split (t := (!x93.In)) (fun hg164 => ?_) (fun hg164 => ?_)
          · simp only [hg164, run_guard (g := 88), guard_true, f153, run_fa, put1_some, Nat.reduceAdd, Nat.zero_add, Nat.add_zero, xfa_ref, run_ld, B0, reduceIte, reduceEqDiff]
            refine put1_eq (v := .int .i64 x93.Generation) rfl ?_
            simp only [hg164, run_guard (g := 88), guard_true, run_bin, put1_some, xneq, run_mv, B0, reduceIte, reduceEqDiff]
            refine ops_j 5 (fun fr' h' => Sep h' h.length ([]) ∧ fr' 97 = .bool ((decide (x93.Generation ≠ 0)) || (decide ((0 : Int) <
                (List.length x93.Share : Int)))) ∧ fr' 1 = .ref [.int .i64 v_0.Generation, lst Reader.cells v_0.Readers, lst cI v_0.Committed,
                lst cI v_0.Ends] 0 ∧ fr' 3 = .int .i64 (List.length v_0.Ends : Int) ∧ fr' 8 = .int .i64 (i92 : Int) ∧ fr' 9 = .ref [.bool x93.In, .int .i64 x93.Generation,
                lst cI x93.Share, lst cI x93.Read] 0 ∧ fr' 57 = lst Reader.cells v_0.Readers ∧ fr' 58 = .int .i64 (List.length v_0.Readers : Int) ∧ fr' 59 = .int .i64
                (i92 : Int) ∧ fr' 84 = .bool (v126 || (!(impl_in x93.Generation 0 v_0.Generation))) ∧ fr' 88 = .bool (!x93.In)) (fun Q165 hN166 => ?_) ?_
            · simp only [List.take_succ_cons, List.take_zero]
              simp only [run_guard (g := 92), B0, reduceIte, reduceEqDiff]
              refine guard_split (t := (decide (x93.Generation ≠ 0))) (fun hg167 => ?_) (fun hg167 => ?_)
              · simp only [hg167, run_guard (g := 92), guard_off', hg164, run_guard (g := 88), guard_true, run_pick, put1_some, xpick_t, run_ops_nil, run_nil, B0, reduceIte,
                  reduceEqDiff]
                exact hN166 _ _ ⟨hS158, by rw [orT hg167]; simp only [B0, reduceIte, reduceEqDiff], by simp only [f150, B0, reduceIte, reduceEqDiff], by simp only [f151, B0,
                    reduceIte, reduceEqDiff], by simp only [f152, B0, reduceIte, reduceEqDiff], by simp only [f153, B0, reduceIte, reduceEqDiff], by simp only [f154, B0,
                    reduceIte, reduceEqDiff], by simp only [f155, B0, reduceIte, reduceEqDiff], by simp only [f156, B0, reduceIte, reduceEqDiff], by simp only [hg161, B0,
                    reduceIte, reduceEqDiff], by simp only [hg164, B0, reduceIte, reduceEqDiff]⟩
              · simp only [hg167, run_guard (g := 92), guard_false, f153, run_fa, put1_some, Nat.reduceAdd, Nat.zero_add, Nat.add_zero, xfa_ref, run_ld, B0, reduceIte,
                  reduceEqDiff]
                refine put1_eq (v := lst cI x93.Share) rfl ?_
                simp only [hg167, run_guard (g := 92), guard_false, run_len, put1_some, xlen_lst, run_bin, xgtr, hg164, run_guard (g := 88), guard_true, run_pick, xpick_f,
                    run_ops_nil, run_nil, B0, reduceIte, reduceEqDiff]
                exact hN166 _ _ ⟨hS158, by rw [orF hg167]; simp only [B0, reduceIte, reduceEqDiff], by simp only [f150, B0, reduceIte, reduceEqDiff], by simp only [f151, B0,
                    reduceIte, reduceEqDiff], by simp only [f152, B0, reduceIte, reduceEqDiff], by simp only [f153, B0, reduceIte, reduceEqDiff], by simp only [f154, B0,
                    reduceIte, reduceEqDiff], by simp only [f155, B0, reduceIte, reduceEqDiff], by simp only [f156, B0, reduceIte, reduceEqDiff], by simp only [hg161, B0,
                    reduceIte, reduceEqDiff], by simp only [hg164, B0, reduceIte, reduceEqDiff]⟩
            rintro fr168 h179 ⟨hS180, f169, f170, f171, f172, f173, f174, f175, f176, f177, f178⟩
            simp only [List.drop_succ_cons, List.drop_zero]
            simp only [f177, hg161, run_guard (g := 84), guard_false, f178, hg164, run_pick, put1_some, xpick_t, f169, run_ops_nil, run_nil, B0, reduceIte, reduceEqDiff]
            exact hN163 _ _ ⟨hS180, by rw [andT hg164]; simp only [B0, reduceIte, reduceEqDiff], by simp only [f170, B0, reduceIte, reduceEqDiff], by simp only [f171, B0,
                reduceIte, reduceEqDiff], by simp only [f172, B0, reduceIte, reduceEqDiff], by simp only [f173, B0, reduceIte, reduceEqDiff], by simp only [f174, B0, reduceIte,
                reduceEqDiff], by simp only [f175, B0, reduceIte, reduceEqDiff], by simp only [f176, B0, reduceIte, reduceEqDiff], by simp only [f177, hg161, B0, reduceIte,
                reduceEqDiff]⟩
          · simp only [hg164, run_guard (g := 88), guard_off, run_guard (g := 92), guard_tup, hg161, run_guard (g := 84), guard_false, run_pick, put1_some, xpick_f, run_ops_nil,
              run_nil, B0, reduceIte, reduceEqDiff]
            exact hN163 _ _ ⟨hS158, by rw [andF hg164]; simp only [B0, reduceIte, reduceEqDiff], by simp only [f150, B0, reduceIte, reduceEqDiff], by simp only [f151, B0,
                reduceIte, reduceEqDiff], by simp only [f152, B0, reduceIte, reduceEqDiff], by simp only [f153, B0, reduceIte, reduceEqDiff], by simp only [f154, B0, reduceIte,
                reduceEqDiff], by simp only [f155, B0, reduceIte, reduceEqDiff], by simp only [f156, B0, reduceIte, reduceEqDiff], by simp only [hg161, B0, reduceIte,
                reduceEqDiff]⟩
        rintro fr181 h191 ⟨hS192, f182, f183, f184, f185, f186, f187, f188, f189, f190⟩
        simp only [List.drop_succ_cons, List.drop_zero]
        simp only [f190, hg161, run_pick, put1_some, xpick_f, f182, run_ops_nil, run_nil, B0, reduceIte, reduceEqDiff]
        exact hN160 _ _ ⟨hS192, by rw [orF hg161]; simp only [B0, reduceIte, reduceEqDiff], by simp only [f183, B0, reduceIte, reduceEqDiff], by simp only [f184, B0, reduceIte,
            reduceEqDiff], by simp only [f185, B0, reduceIte, reduceEqDiff], by simp only [f186, B0, reduceIte, reduceEqDiff], by simp only [f187, B0, reduceIte, reduceEqDiff],
            by simp only [f188, B0, reduceIte, reduceEqDiff], by simp only [f189, B0, reduceIte, reduceEqDiff]⟩
    rintro fr193 h202 ⟨hS203, f194, f195, f196, f197, f198, f199, f200, f201⟩
    simp only [List.drop_succ_cons, List.drop_zero]
    simp only [run_ops_nil, f194, run_cond, B0, reduceIte, reduceEqDiff]
    refine cond_split (t := ((v126 || (!(impl_in x93.Generation 0 v_0.Generation))) || ((!x93.In) && ((decide (x93.Generation ≠ 0)) || (decide ((0 : Int) <
        (List.length x93.Share : Int))))))) (fun hc204 => ?_) (fun hc204 => ?_)
    · rw [iteT hc204] at hF128
      simp only [run_seq, run_reg, run_mv, run_ops_nil, run_ret, B0, reduceIte, reduceEqDiff]
      have e205 := some_inj hF128
      subst e205
      have ho206 := hr99 _ rfl
      have hk207 := hk97
      rw [ho206] at hk207
      dsimp only [jnO] at hk207
      apply hR103
      have he := some_inj hk207
      subst he
      simp only [end_ret1, B0, reduceIte, reduceEqDiff]
      exact rfl
    rw [iteF hc204] at hF128
    simp only [run_skip, x55_11, run_seq, run_reg, f198, run_fa, put1_some, Nat.reduceAdd, Nat.zero_add, Nat.add_zero, xfa_ref, run_ld, B0, reduceIte, reduceEqDiff]
    refine put1_eq (v := lst cI x93.Read) rfl ?_
    simp only [run_len, put1_some, xlen_lst, run_mv, run_ops_nil, B0, reduceIte, reduceEqDiff]
    obtain ⟨oc210, hX212, hk213⟩ := jn_some hF128
    simp only [x55_9]
    refine rangeL_j (σ := Unit) x93.Read (fun i208 x209 _ => impl_areReaders_b2 v_0 x93 i208 x209 ) (fun s fr' h' => fr' 1 = .ref [.int .i64 v_0.Generation,
        lst Reader.cells v_0.Readers, lst cI v_0.Committed,
        lst cI v_0.Ends] 0 ∧ fr' 3 = .int .i64 (List.length v_0.Ends : Int) ∧ fr' 8 = .int .i64 (i92 : Int) ∧ fr' 9 = .ref [.bool x93.In, .int .i64 x93.Generation,
        lst cI x93.Share, lst cI x93.Read] 0 ∧ fr' 57 = lst Reader.cells v_0.Readers ∧ fr' 58 = .int .i64 (List.length v_0.Readers : Int) ∧ fr' 59 = .int .i64
        (i92 : Int) ∧ fr' 101 = lst cI x93.Read ∧ Sep h' h.length ([])) hX212 ⟨by simp only [f195, B0, reduceIte, reduceEqDiff], by simp only [f196, B0, reduceIte, reduceEqDiff],
        by simp only [f197, B0, reduceIte, reduceEqDiff], by simp only [f198, B0, reduceIte, reduceEqDiff], by simp only [f199, B0, reduceIte, reduceEqDiff], by simp only [f200,
        B0, reduceIte, reduceEqDiff], by simp only [f201, B0, reduceIte, reduceEqDiff], by simp only [B0, reduceIte, reduceEqDiff], hS203⟩ (by simp only [B0, reduceIte,
        reduceEqDiff]) (by simp only [B0, reduceIte, reduceEqDiff]) (fun _ _ _ h => h) rfl rfl (fun _ _ _ _ h => h) (fun _ _ _ _ h => h) (fun _ _ _ _ h => h) (by decide) ?_ ?_
    · rintro i208 x209 _ fr222 h223 hx233 ⟨f225, f226, f227, f228, f229, f230, f231, f232, hS224⟩ f234 f235 oc211 hF214 hr215 Q216 hN217 hB221 hK218 hR219 hE220
      unfold impl_areReaders_b2 at hF214
      simp only [x55_7, run_seq, run_reg, f234, run_mv, f232, run_ia, B0, reduceIte, reduceEqDiff]
      refine put1_eq (v := .ref (cI x209) 0) (xia_lstN hx233 rfl) ?_
      simp only [run_ld, B0, reduceIte, reduceEqDiff]
      refine put1_eq (v := .int .i64 x209) rfl ?_
      simp only [run_mv, run_ops_nil, x55_6, run_seq, run_reg, f225, run_fa, put1_some, Nat.reduceAdd, Nat.zero_add, Nat.add_zero, xfa_ref, run_ld, B0, reduceIte, reduceEqDiff]
      refine put1_eq (v := lst cI v_0.Ends) rfl ?_
      obtain ⟨x236, hx237, hF238⟩ := bind_some' hF214
      simp only [run_mv, run_ia, B0, reduceIte, reduceEqDiff]
      refine put1_eq (v := .ref (cI x236) 0) (xia_lst hx237 rfl) ?_
      simp only [run_ld, B0, reduceIte, reduceEqDiff]
      refine put1_eq (v := .int .i64 x236) rfl ?_
      simp only [run_call, B0, reduceIte, reduceEqDiff]
      refine call1 rfl (mapM1 snap_int (mapM1 snap_int (mapM1 snap_int mapM0))) (impl_in_x (fun b hb => decide_eq_true hb) x209 0 x236 _ rfl) ?_
      simp only [run_un, put1_some, xnot, run_mv, B0, reduceIte, reduceEqDiff]
      obtain ⟨v242, hx243, hF244⟩ := bind_some' hF238
      refine ops_j 10 (fun fr' h' => Sep h' h.length ([]) ∧ fr' 126 = .bool v242 ∧ fr' 1 = .ref [.int .i64 v_0.Generation, lst Reader.cells v_0.Readers, lst cI v_0.Committed,
          lst cI v_0.Ends] 0 ∧ fr' 3 = .int .i64 (List.length v_0.Ends : Int) ∧ fr' 8 = .int .i64 (i92 : Int) ∧ fr' 9 = .ref [.bool x93.In, .int .i64 x93.Generation,
          lst cI x93.Share, lst cI x93.Read] 0 ∧ fr' 57 = lst Reader.cells v_0.Readers ∧ fr' 58 = .int .i64 (List.length v_0.Readers : Int) ∧ fr' 59 = .int .i64
          (i92 : Int) ∧ fr' 101 = lst cI x93.Read ∧ fr' 102 = .int .i64 (List.length x93.Read : Int) ∧ fr' 103 = .int .i64 (i208 : Int)) (fun Q239 hN240 => ?_) ?_
      · simp only [List.take_succ_cons, List.take_zero]
        simp only [run_guard (g := 116), B0, reduceIte, reduceEqDiff]
        refine guard_split (t := (!(impl_in x209 0 x236))) (fun hg241 => ?_) (fun hg241 => ?_)
        · rw [iteT hg241] at hx243
          simp only [hg241, run_guard (g := 116), guard_off', run_guard (g := 119), guard_tup, run_pick, put1_some, xpick_t, run_ops_nil, run_nil, B0, reduceIte, reduceEqDiff]
          have e245 := some_inj hx243
          exact hN240 _ _ ⟨hS224, by rw [← e245]; simp only [B0, reduceIte, reduceEqDiff], by simp only [f225, B0, reduceIte, reduceEqDiff], by simp only [f226, B0, reduceIte,
              reduceEqDiff], by simp only [f227, B0, reduceIte, reduceEqDiff], by simp only [f228, B0, reduceIte, reduceEqDiff], by simp only [f229, B0, reduceIte, reduceEqDiff],
              by simp only [f230, B0, reduceIte, reduceEqDiff], by simp only [f231, B0, reduceIte, reduceEqDiff], by simp only [f232, B0, reduceIte, reduceEqDiff],
              by simp only [f235, B0, reduceIte, reduceEqDiff], by simp only [f234, B0, reduceIte, reduceEqDiff]⟩
        · rw [iteF hg241] at hx243
          simp only [hg241, run_guard (g := 116), guard_false, run_mv, run_bin, put1_some, xneq, B0, reduceIte, reduceEqDiff]
          obtain ⟨v249, hx250, hF251⟩ := bind_some' hx243
          refine ops_j 6 (fun fr' h' => Sep h' h.length ([]) ∧ fr' 125 = .bool v249 ∧ fr' 1 = .ref [.int .i64 v_0.Generation, lst Reader.cells v_0.Readers, lst cI v_0.Committed,
              lst cI v_0.Ends] 0 ∧ fr' 3 = .int .i64 (List.length v_0.Ends : Int) ∧ fr' 8 = .int .i64 (i92 : Int) ∧ fr' 9 = .ref [.bool x93.In, .int .i64 x93.Generation,
              lst cI x93.Share, lst cI x93.Read] 0 ∧ fr' 57 = lst Reader.cells v_0.Readers ∧ fr' 58 = .int .i64 (List.length v_0.Readers : Int) ∧ fr' 59 = .int .i64
              (i92 : Int) ∧ fr' 101 = lst cI x93.Read ∧ fr' 102 = .int .i64 (List.length x93.Read : Int) ∧ fr' 103 = .int .i64 (i208 : Int) ∧ fr' 116 = .bool
              (!(impl_in x209 0 x236))) (fun Q246 hN247 => ?_) ?_
          · simp only [List.take_succ_cons, List.take_zero]
            simp only [run_guard (g := 119), B0, reduceIte, reduceEqDiff]
            refine guard_split (t := (decide (x209 ≠ 0))) (fun hg248 => ?_) (fun hg248 => ?_)
            · rw [iteT hg248] at hx250
              simp only [hg248, run_guard (g := 119), guard_true, f228, run_fa, put1_some, Nat.reduceAdd, Nat.zero_add, Nat.add_zero, xfa_ref, run_ld, B0, reduceIte, reduceEqDiff]
              refine put1_eq (v := lst cI x93.Share) rfl ?_
              obtain ⟨v252, hx253, hF254⟩ := bind_some' hx250
              simp only [hg248, run_guard (g := 119), guard_true, run_mv, run_call, B0, reduceIte, reduceEqDiff]
              refine call1 rfl (mapM1 snap_lst (mapM1 snap_int mapM0)) (slices_Contains_int_x (fun b hb => decide_eq_true hb) x93.Share (i208 : Int) v252 hx253) ?_
              simp only [hg248, run_guard (g := 119), guard_true, run_un, put1_some, xnot, hg241, run_guard (g := 116), guard_false, run_pick, xpick_t, run_ops_nil, run_nil, B0,
                  reduceIte, reduceEqDiff]
              have e255 := some_inj hF254
              exact hN247 _ _ ⟨hS224, by rw [← e255]; simp only [B0, reduceIte, reduceEqDiff], by simp only [f225, B0, reduceIte, reduceEqDiff], by simp only [f226, B0, reduceIte,
                  reduceEqDiff], by simp only [f227, B0, reduceIte, reduceEqDiff], by simp only [f228, B0, reduceIte, reduceEqDiff], by simp only [f229, B0, reduceIte,
                  reduceEqDiff], by simp only [f230, B0, reduceIte, reduceEqDiff], by simp only [f231, B0, reduceIte, reduceEqDiff], by simp only [f232, B0, reduceIte,
                  reduceEqDiff], by simp only [f235, B0, reduceIte, reduceEqDiff], by simp only [f234, B0, reduceIte, reduceEqDiff], by simp only [hg241, B0, reduceIte,
                  reduceEqDiff]⟩
            · rw [iteF hg248] at hx250
              simp only [hg248, run_guard (g := 119), guard_off, hg241, run_guard (g := 116), guard_false, run_pick, put1_some, xpick_f, run_ops_nil, run_nil, B0, reduceIte,
                  reduceEqDiff]
              have e256 := some_inj hx250
              exact hN247 _ _ ⟨hS224, by rw [← e256]; simp only [B0, reduceIte, reduceEqDiff], by simp only [f225, B0, reduceIte, reduceEqDiff], by simp only [f226, B0, reduceIte,
                  reduceEqDiff], by simp only [f227, B0, reduceIte, reduceEqDiff], by simp only [f228, B0, reduceIte, reduceEqDiff], by simp only [f229, B0, reduceIte,
                  reduceEqDiff], by simp only [f230, B0, reduceIte, reduceEqDiff], by simp only [f231, B0, reduceIte, reduceEqDiff], by simp only [f232, B0, reduceIte,
                  reduceEqDiff], by simp only [f235, B0, reduceIte, reduceEqDiff], by simp only [f234, B0, reduceIte, reduceEqDiff], by simp only [hg241, B0, reduceIte,
                  reduceEqDiff]⟩
          rintro fr257 h270 ⟨hS271, f258, f259, f260, f261, f262, f263, f264, f265, f266, f267, f268, f269⟩
          simp only [List.drop_succ_cons, List.drop_zero]
          simp only [f269, hg241, run_pick, put1_some, xpick_f, f258, run_ops_nil, run_nil, B0, reduceIte, reduceEqDiff]
          have e272 := some_inj hF251
          exact hN240 _ _ ⟨hS271, by rw [← e272]; simp only [B0, reduceIte, reduceEqDiff], by simp only [f259, B0, reduceIte, reduceEqDiff], by simp only [f260, B0, reduceIte,
              reduceEqDiff], by simp only [f261, B0, reduceIte, reduceEqDiff], by simp only [f262, B0, reduceIte, reduceEqDiff], by simp only [f263, B0, reduceIte, reduceEqDiff],
              by simp only [f264, B0, reduceIte, reduceEqDiff], by simp only [f265, B0, reduceIte, reduceEqDiff], by simp only [f266, B0, reduceIte, reduceEqDiff],
              by simp only [f267, B0, reduceIte, reduceEqDiff], by simp only [f268, B0, reduceIte, reduceEqDiff]⟩
      rintro fr273 h285 ⟨hS286, f274, f275, f276, f277, f278, f279, f280, f281, f282, f283, f284⟩
      simp only [List.drop_succ_cons, List.drop_zero]
      simp only [run_ops_nil, f274, run_cond, B0, reduceIte, reduceEqDiff]
      refine cond_split (t := v242) (fun hc287 => ?_) (fun hc287 => ?_)
      · rw [iteT hc287] at hF244
        simp only [run_seq, run_reg, run_mv, run_ops_nil, run_ret, B0, reduceIte, reduceEqDiff]
        have e288 := some_inj hF244
        subst e288
        have ho289 := hr215 _ rfl
        have hk290 := hk213
        rw [ho289] at hk290
        dsimp only [jnO] at hk290
        apply hR219
        have e291 := some_inj hk290
        subst e291
        have ho292 := hr99 _ rfl
        have hk293 := hk97
        rw [ho292] at hk293
        dsimp only [jnO] at hk293
        apply hR103
        have he := some_inj hk293
        subst he
        simp only [end_ret1, B0, reduceIte, reduceEqDiff]
        exact rfl
      rw [iteF hc287] at hF244
      simp only [run_skip, run_nil, B0, reduceIte, reduceEqDiff]
      have e294 := some_inj hF244
      exact hN217 _ _ _ e294.symm ⟨by simp only [f275, B0, reduceIte, reduceEqDiff], by simp only [f276, B0, reduceIte, reduceEqDiff], by simp only [f277, B0, reduceIte,
          reduceEqDiff], by simp only [f278, B0, reduceIte, reduceEqDiff], by simp only [f279, B0, reduceIte, reduceEqDiff], by simp only [f280, B0, reduceIte, reduceEqDiff],
          by simp only [f281, B0, reduceIte, reduceEqDiff], by simp only [f282, B0, reduceIte, reduceEqDiff], hS286⟩ (by simp only [f284, B0, reduceIte,
          reduceEqDiff]) (by simp only [f283, B0, reduceIte, reduceEqDiff])
    rintro _ fr296 h297 rfl ⟨f299, f300, f301, f302, f303, f304, f305, f306, hS298⟩
    dsimp only [jnO] at hk213
    unfold impl_areReaders_j1 at hk213
    simp only [x55_10, run_seq, run_draw, f302, d4_fa, put1d_some, Nat.reduceAdd, Nat.zero_add, Nat.add_zero, xfa_ref, d4_ld, B0, reduceIte, reduceEqDiff]
    refine put1d_eq (v := .bool x93.In) rfl ?_
    simp only [d4_mv, put1d_some, B0, reduceIte, reduceEqDiff]
    refine draw_j 6 (fun fr' h' => Sep h' h.length ([]) ∧ fr' 136 = .bool (x93.In && (decide (x93.Generation = v_0.Generation))) ∧ fr' 1 = .ref [.int .i64 v_0.Generation,
        lst Reader.cells v_0.Readers, lst cI v_0.Committed,
        lst cI v_0.Ends] 0 ∧ fr' 3 = .int .i64 (List.length v_0.Ends : Int) ∧ fr' 8 = .int .i64 (i92 : Int) ∧ fr' 9 = .ref [.bool x93.In, .int .i64 x93.Generation,
        lst cI x93.Share, lst cI x93.Read] 0 ∧ fr' 57 = lst Reader.cells v_0.Readers ∧ fr' 58 = .int .i64 (List.length v_0.Readers : Int) ∧ fr' 59 = .int .i64 (i92 : Int)) rfl
        (fun Q307 hN308 => ?_) ?_
    · simp only [List.take_succ_cons, List.take_zero]
      simp only [run_guardd (g := 130), B0, reduceIte, reduceEqDiff]
      refine guardd_split (t := x93.In) (fun hg309 => ?_) (fun hg309 => ?_)
      · simp only [hg309, run_guardd (g := 130), guardd_true, f302, d4_fa, put1d_some, Nat.reduceAdd, Nat.zero_add, Nat.add_zero, xfa_ref, d4_ld, B0, reduceIte, reduceEqDiff]
        refine put1d_eq (v := .int .i64 x93.Generation) rfl ?_
        simp only [hg309, run_guardd (g := 130), guardd_true, f299, d4_fa, put1d_some, Nat.reduceAdd, Nat.zero_add, Nat.add_zero, xfa_ref, d4_ld, B0, reduceIte, reduceEqDiff]
        refine put1d_eq (v := .int .i64 v_0.Generation) rfl ?_
        simp only [hg309, run_guardd (g := 130), guardd_true, d4_bin, put1d_some, xeql, d4_pick, xpick_t, run_draw_nil, run_nil, B0, reduceIte, reduceEqDiff]
        exact hN308 _ _ ⟨hS298, by rw [andT hg309]; simp only [B0, reduceIte, reduceEqDiff], by simp only [f299, B0, reduceIte, reduceEqDiff], by simp only [f300, B0, reduceIte,
            reduceEqDiff], by simp only [f301, B0, reduceIte, reduceEqDiff], by simp only [f302, B0, reduceIte, reduceEqDiff], by simp only [f303, B0, reduceIte, reduceEqDiff],
            by simp only [f304, B0, reduceIte, reduceEqDiff], by simp only [f305, B0, reduceIte, reduceEqDiff]⟩
      · simp only [hg309, run_guardd (g := 130), guardd_off, d4_pick, put1d_some, xpick_f, run_draw_nil, run_nil, B0, reduceIte, reduceEqDiff]
        exact hN308 _ _ ⟨hS298, by rw [andF hg309]; simp only [B0, reduceIte, reduceEqDiff], by simp only [f299, B0, reduceIte, reduceEqDiff], by simp only [f300, B0, reduceIte,
            reduceEqDiff], by simp only [f301, B0, reduceIte, reduceEqDiff], by simp only [f302, B0, reduceIte, reduceEqDiff], by simp only [f303, B0, reduceIte, reduceEqDiff],
            by simp only [f304, B0, reduceIte, reduceEqDiff], by simp only [f305, B0, reduceIte, reduceEqDiff]⟩
    rintro fr310 h319 ⟨hS320, f311, f312, f313, f314, f315, f316, f317, f318⟩
    simp only [List.drop_succ_cons, List.drop_zero]
    simp only [f311, d4_mv, put1d_some, B0, reduceIte, reduceEqDiff]
    simp only [run_guardd (g := 137), B0, reduceIte, reduceEqDiff]
    refine guardd_split (t := (x93.In && (decide (x93.Generation = v_0.Generation)))) (fun hg321 => ?_) (fun hg321 => ?_)
    · rw [iteT hg321] at hk213
      simp only [hg321, run_guardd (g := 137), guardd_true, f315, d1_fa, put1d_some, Nat.reduceAdd, Nat.zero_add, Nat.add_zero, xfa_ref, d1_ld, ldd_ref, B0, reduceIte,
          reduceEqDiff]
      refine put1d_eq (v := lst cI x93.Share) rfl ?_
      simp only [hg321, run_guardd (g := 137), guardd_true, f312, d4_ld, B0, reduceIte, reduceEqDiff]
      refine put1d_eq (v := .agg [.int .i64 v_0.Generation, lst Reader.cells v_0.Readers, lst cI v_0.Committed, lst cI v_0.Ends]) rfl ?_
      obtain ⟨v322, hx323, hF324⟩ := bind_some' hk213
      simp only [hg321, run_guardd (g := 137), guardd_true, f314, d4_mv, put1d_some, run_d2_call, B0, reduceIte, reduceEqDiff]
      refine call2q rfl hS320 (mapM1 (snap_agg (mapM1 snap_int (mapM1 snap_lst (mapM1 snap_lst (mapM1 snap_lst mapM0))))) (mapM1 snap_int mapM0)) (impl_Readers_shareOf_x
          (fun b hb => decide_eq_true hb) v_0 (i92 : Int) v322 hx323) ?_
      rintro v325 h329 ⟨_, c326, rfl, hv327, hS330⟩
      refine ⟨_, free_1 (SlF.free1 hv327), hS330, (pf_app (SlF.pf hv327 (fun _ => rfl)) pf_nil), fun h331 hS332 => ?_⟩
      have hS333 : Sep h331 h.length (c326 ++ ([])) := by simpa only [List.append_assoc, List.nil_append] using hS332
      obtain ⟨v334, hx335, hF336⟩ := bind_some' hF324
      simp only [hg321, run_guardd (g := 137), guardd_true, run_d3_call, B0, reduceIte, reduceEqDiff]
      refine call1d rfl (mapM1 snap_lst (mapM1 (SlF.snap hv327 hS333 rfl (fun _ => rfl) (fun _ => rfl)) mapM0)) (slices_Equal_int_x
          (fun b hb => decide_eq_true hb) x93.Share v322 v334 hx335) ?_
      simp only [hg321, run_guardd (g := 137), guardd_true, d4_un, put1d_some, xnot, d4_pick, xpick_t, run_draw_nil, run_cond, B0, reduceIte, reduceEqDiff]
      refine cond_split (t := (!v334)) (fun hc337 => ?_) (fun hc337 => ?_)
      · rw [iteT hc337] at hF336
        simp only [run_seq, run_reg, run_mv, run_ops_nil, run_ret, B0, reduceIte, reduceEqDiff]
        have e338 := some_inj hF336
        subst e338
        have ho339 := hr99 _ rfl
        have hk340 := hk97
        rw [ho339] at hk340
        dsimp only [jnO] at hk340
        apply hR103
        have he := some_inj hk340
        subst he
        simp only [end_ret1, B0, reduceIte, reduceEqDiff]
        exact rfl
      rw [iteF hc337] at hF336
      simp only [run_skip, run_nil, B0, reduceIte, reduceEqDiff]
      have e341 := some_inj hF336
      exact hN101 _ _ _ e341.symm ⟨by simp only [f312, B0, reduceIte, reduceEqDiff], by simp only [f313, B0, reduceIte, reduceEqDiff], by simp only [f316, B0, reduceIte,
          reduceEqDiff], (Sep.dc (hS333))⟩ (by simp only [f318, B0, reduceIte, reduceEqDiff]) (by simp only [f317, B0, reduceIte, reduceEqDiff])
    rw [iteF hg321] at hk213
    simp only [hg321, run_guardd (g := 137), guardd_off, d4_pick, put1d_some, xpick_f, run_draw_nil, run_cond, cond_false, run_skip, run_nil, B0, reduceIte, reduceEqDiff]
    have e342 := some_inj hk213
    exact hN101 _ _ _ e342.symm ⟨by simp only [f312, B0, reduceIte, reduceEqDiff], by simp only [f313, B0, reduceIte, reduceEqDiff], by simp only [f316, B0, reduceIte,
        reduceEqDiff], hS320⟩ (by simp only [f318, B0, reduceIte, reduceEqDiff]) (by simp only [f317, B0, reduceIte, reduceEqDiff])
  rintro _ fr345 h346 rfl ⟨f348, f349, f350, hS347⟩
  dsimp only [jnO] at hk97
  unfold impl_areReaders_j2 at hk97
  simp only [run_seq, run_reg, run_mv, run_ops_nil, run_ret, B0, reduceIte, reduceEqDiff]
  have he := some_inj hk97
  subst he
  simp only [end_ret1, B0, reduceIte, reduceEqDiff]
  exact rfl
theorem impl_copyReaders_x {W : Nat → Bool} {h : Heap} (hW : ∀ b,
    h.length ≤ b → W b = true) (r_0 : Readers_) (r : Readers_) (hF : impl_copyReaders r_0 = some r) : Ret E W 67 [.agg [.int .i64 r_0.Generation, lst Reader.cells r_0.Readers,
    lst cI r_0.Committed, lst cI r_0.Ends]] h (fun v h' => ∃ rv0_1 rc0_1 rv0_2 rc0_2 rv0_3 rc0_3, v = .agg [.int .i64 r.Generation, rv0_1, rv0_2,
    rv0_3] ∧ SlN Reader.R 4 37 rv0_1 r.Readers rc0_1 ∧ SlF cI 1 3 rv0_2 r.Committed rc0_2 ∧ SlF cI 1 3 rv0_3 r.Ends rc0_3 ∧ Sep h' h.length (rc0_1 ++ (rc0_2 ++ (rc0_3 ++
    ([]))))) := by
  refine Ret.of (fn := x67) rfl (Run.of ?_)
  unfold impl_copyReaders at hF
  have zf0 : argFr [.agg [.int .i64 r_0.Generation, lst Reader.cells r_0.Readers, lst cI r_0.Committed, lst cI r_0.Ends]] 0 = .agg [.int .i64 r_0.Generation,
      lst Reader.cells r_0.Readers, lst cI r_0.Committed, lst cI r_0.Ends] := rfl
  generalize argFr [.agg [.int .i64 r_0.Generation, lst Reader.cells r_0.Readers, lst cI r_0.Committed, lst cI r_0.Ends]] = fr0 at zf0 ⊢
  have hS : Sep h h.length [] := Sep.nil h
  simp only [x67, run_seq, run_reg, run_box, zf0, B0, reduceIte, reduceEqDiff]
  refine put2_boxC (cs := [.int .i64 r_0.Generation, lst Reader.cells r_0.Readers, lst cI r_0.Committed, lst cI r_0.Ends]) hS rfl rfl rfl (fun b1 h2 hS3 => ?_)
  simp only [run_new, B0, reduceIte, reduceEqDiff]
  refine put2_newC hS3 (fun b5 h6 hS7 => ?_)
  simp only [run_ops_nil, B0, reduceIte, reduceEqDiff]
  refine frz_stepC (Sep.m1 hS7) hW (by simp only [B0, reduceIte, reduceEqDiff]) (fun h9 hS10 => ?_)
  simp only [run_frz_nil, x67_8, run_seq, run_draw, d4_buildS, evp, B0, reduceIte, reduceEqDiff]
  refine put2d_buildSF (n := 1) (f := cI) ([] : List Int) hS10 rfl rfl (fun v11 c12 h13 hv14 hS15 => ?_)
  simp only [d1_buildS, evp, B0, reduceIte, reduceEqDiff]
  refine put2d_buildSF (n := 1) (f := cI) ([] : List Int) hS15 rfl rfl (fun v17 c18 h19 hv20 hS21 => ?_)
  simp only [d1_new, B0, reduceIte, reduceEqDiff]
  refine put2d_newC hS21 (fun b23 h24 hS25 => ?_)
  simp only [d1_fa, put1d_some, Nat.reduceAdd, Nat.zero_add, Nat.add_zero, xfa_ref, d1_ld, ldd_ref, B0, reduceIte, reduceEqDiff]
  refine put1d_eq (v := .int .i64 r_0.Generation) rfl ?_
  simp only [d4_fa, put1d_some, Nat.reduceAdd, Nat.zero_add, Nat.add_zero, xfa_ref, d4_ld, B0, reduceIte, reduceEqDiff]
  refine put1d_eq (v := lst cI r_0.Committed) rfl ?_
  simp only [d2_app, B0, reduceIte, reduceEqDiff]
  obtain ⟨l27, hx28, hF29⟩ := bind_some' hF
  refine put2d_appF (f := cI) hv14 (Sep.m2 hS25) hW (fun _ => rfl) (fun _ => rfl) (firstOf_lst (fun _ => rfl)) hx28 (fun v30 c31 h32 hv33 hS34 => ?_)
  simp only [d1_fa, put1d_some, Nat.reduceAdd, Nat.zero_add, Nat.add_zero, xfa_ref, d1_ld, ldd_ref, B0, reduceIte, reduceEqDiff]
  refine put1d_eq (v := lst cI r_0.Ends) rfl ?_
  simp only [d2_app, B0, reduceIte, reduceEqDiff]
  obtain ⟨l36, hx37, hF38⟩ := bind_some' hF29
  refine put2d_appF (f := cI) hv20 (Sep.m2 hS34) hW (fun _ => rfl) (fun _ => rfl) (firstOf_lst (fun _ => rfl)) hx37 (fun v39 c40 h41 hv42 hS43 => ?_)
  simp only [d4_build, evp, B0, reduceIte, reduceEqDiff]
  refine put1d_eq (v := .agg [.int .i64 r_0.Generation, .nil, v30, v39]) (pbuild_some (fill1 (us := [.int .i64 r_0.Generation]) (vs := [.int .i64 r_0.Generation, .nil, .nil,
      .nil]) rfl rfl (Nat.le_of_ble_eq_true rfl) rfl rfl (fill1 (us := [v30]) (vs := [.int .i64 r_0.Generation, .nil, v30,
      .nil]) (cells_one (SlF.one hv33)) rfl (Nat.le_of_ble_eq_true rfl) (all_c (SlF.one hv33) all_n) rfl (fill1 (us := [v39]) (vs := [.int .i64 r_0.Generation, .nil, v30,
      v39]) (cells_one (SlF.one hv42)) rfl (Nat.le_of_ble_eq_true rfl) (all_c (SlF.one hv42) all_n) rfl fill0)))) ?_
  simp only [d3_st, B0, reduceIte, reduceEqDiff]
  refine put2d_stCx (us := [.int .i64 r_0.Generation, .nil, v30, v39]) rfl (cs' := [.int .i64 r_0.Generation, .nil, v30,
      v39]) (Sep.m2 hS43) hW rfl (all_c rfl (all_c rfl (all_c (SlF.one hv33) (all_c (SlF.one hv42) all_n)))) (Nat.le_of_ble_eq_true rfl) rfl (fun h45 hS46 => ?_)
  simp only [run_draw_nil, x67_7, run_seq, run_reg, run_fa, put1_some, Nat.reduceAdd, Nat.zero_add, Nat.add_zero, xfa_ref, run_ld, B0, reduceIte, reduceEqDiff]
  refine put1_eq (v := lst Reader.cells r_0.Readers) rfl ?_
  simp only [run_len, put1_some, xlen_lst, run_mv, run_ops_nil, B0, reduceIte, reduceEqDiff]
  obtain ⟨oc59, hX61, hk62⟩ := jn_some hF38
  simp only [x67_6]
  refine rangeL_j (σ := Readers_) r_0.Readers (fun i57 x58 s138 => impl_copyReaders_b1 l27 l36 i57 x58 s138) (fun s fr' h' => ∃ v54 c55,
      fr' 2 = .ptr b5 0 ∧ fr' 3 = .ptr b23 0 ∧ fr' 18 = lst Reader.cells r_0.Readers ∧ SlN Reader.R 4 37 v54 s.Readers c55 ∧ Sep h' h.length ([Blk1 b5 [.int .i64 0, .nil, .nil,
      .nil] 29] ++ ([Blk1 b23 [.int .i64 s.Generation, v54, v30, v39] 29] ++ (c55 ++ (c31 ++ (c40 ++ ([]))))))) hX61 ⟨.nil, [], by simp only [B0, reduceIte, reduceEqDiff],
      by simp only [B0, reduceIte, reduceEqDiff], by simp only [B0, reduceIte, reduceEqDiff], SlN.nil,
      ((Sep.m3 (Sep.m2 (Sep.m2 (Sep.m1 hS46)))) : Sep _ h.length ([Blk1 b5 [.int .i64 0, .nil, .nil, .nil] 29] ++ ([Blk1 b23 [.int .i64 r_0.Generation, .nil, v30,
      v39] 29] ++ (c31 ++ (c40 ++ ([]))))))⟩ (by simp only [B0, reduceIte, reduceEqDiff]) (by simp only [B0, reduceIte,
      reduceEqDiff]) (fun _ _ _ h => h) rfl rfl (fun _ _ _ _ h => h) (fun _ _ _ _ h => h) (fun _ _ _ _ h => h) (by decide) ?_ ?_
  · rintro i57 x58 s52 fr71 h72 hx77 ⟨v54, c55, f74, f75, f76, hv56, hS73⟩ f78 f79 oc60 hF63 hr64 Q65 hN66 hB70 hK67 hR68 hE69
    unfold impl_copyReaders_b1 at hF63
    simp only [x67_4, run_seq, run_reg, f76, f78, run_ia, B0, reduceIte, reduceEqDiff]
    refine put1_eq (v := .ref (Reader.cells x58) 0) (xia_lstN hx77 rfl) ?_
    simp only [run_ld, B0, reduceIte, reduceEqDiff]
    refine put1_eq (v := .agg [.bool x58.In, .int .i64 x58.Generation, lst cI x58.Share, lst cI x58.Read]) rfl ?_
    simp only [run_new, B0, reduceIte, reduceEqDiff]
    refine put2_newC hS73 (fun b80 h81 hS82 => ?_)
    simp only [run_st, B0, reduceIte, reduceEqDiff]
    refine put2_stCx (us := [.bool x58.In, .int .i64 x58.Generation, lst cI x58.Share, lst cI x58.Read]) rfl (cs' := [.bool x58.In, .int .i64 x58.Generation, lst cI x58.Share,
        lst cI x58.Read]) hS82 hW rfl rfl (Nat.le_of_ble_eq_true rfl) rfl (fun h84 hS85 => ?_)
    simp only [run_ops_nil, x67_3, run_seq, run_reg, run_buildS, evp, B0, reduceIte, reduceEqDiff]
    refine put2_buildSF (n := 1) (f := cI) ([] : List Int) hS85 rfl rfl (fun v86 c87 h88 hv89 hS90 => ?_)
    simp only [run_fa, put1_some, Nat.reduceAdd, Nat.zero_add, Nat.add_zero, xfa_ptr, run_ld, B0, reduceIte, reduceEqDiff]
    refine put1_eq (v := lst cI x58.Share) ((xld_b (Sep.bk _ _ _ (Sep.m1 hS90))).trans rfl) ?_
    simp only [run_app, B0, reduceIte, reduceEqDiff]
    obtain ⟨l92, hx93, hF94⟩ := bind_some' hF63
    refine put2_appF (f := cI) hv89 hS90 hW (fun _ => rfl) (fun _ => rfl) (firstOf_lst (fun _ => rfl)) hx93 (fun v95 c96 h97 hv98 hS99 => ?_)
    simp only [run_fa, put1_some, Nat.reduceAdd, Nat.zero_add, Nat.add_zero, xfa_ptr, run_st, B0, reduceIte, reduceEqDiff]
    refine put2_stCx (us := [v95]) (cells_one (SlF.one hv98)) (cs' := [.bool x58.In, .int .i64 x58.Generation, v95,
        lst cI x58.Read]) (Sep.m1 hS99) hW rfl (all_c (SlF.one hv98) all_n) (Nat.le_of_ble_eq_true rfl) rfl (fun h101 hS102 => ?_)
    simp only [run_ops_nil, x67_2, run_seq, run_reg, run_buildS, evp, B0, reduceIte, reduceEqDiff]
    refine put2_buildSF (n := 1) (f := cI) ([] : List Int) hS102 rfl rfl (fun v103 c104 h105 hv106 hS107 => ?_)
    simp only [run_fa, put1_some, Nat.reduceAdd, Nat.zero_add, Nat.add_zero, xfa_ptr, run_ld, B0, reduceIte, reduceEqDiff]
    refine put1_eq (v := lst cI x58.Read) ((xld_b (Sep.bk _ _ _ (Sep.m1 hS107))).trans rfl) ?_
    simp only [run_app, B0, reduceIte, reduceEqDiff]
    obtain ⟨l109, hx110, hF111⟩ := bind_some' hF94
    refine put2_appF (f := cI) hv106 hS107 hW (fun _ => rfl) (fun _ => rfl) (firstOf_lst (fun _ => rfl)) hx110 (fun v112 c113 h114 hv115 hS116 => ?_)
    simp only [run_fa, put1_some, Nat.reduceAdd, Nat.zero_add, Nat.add_zero, xfa_ptr, run_st, B0, reduceIte, reduceEqDiff]
    refine put2_stCx (us := [v112]) (cells_one (SlF.one hv115)) (cs' := [.bool x58.In, .int .i64 x58.Generation, v95,
        v112]) (Sep.m1 hS116) hW rfl (all_c (SlF.one hv115) all_n) (Nat.le_of_ble_eq_true rfl) rfl (fun h118 hS119 => ?_)
    simp only [run_ops_nil, x67_1, run_reg, f75, run_fa, put1_some, Nat.reduceAdd, Nat.zero_add, Nat.add_zero, xfa_ptr, run_ld, B0, reduceIte, reduceEqDiff]
    refine put1_eq (v := v54) ((xld_b (Sep.bk _ _ _ (Sep.m4 hS119))).trans rfl) ?_
    simp only [run_ld, B0, reduceIte, reduceEqDiff]
    refine put1_eq (v := .agg [.bool x58.In, .int .i64 x58.Generation, v95, v112]) ((xld_bs (Sep.bk _ _ _ hS119)).trans rfl) ?_
    simp only [run_buildS, evp, B0, reduceIte, reduceEqDiff]
    refine put2_buildSN (R := Reader.R) (n := 4) (cs := [.bool x58.In, .int .i64 x58.Generation, v95,
        v112]) (os := c96 ++ (c113)) (Sep.bi2 (c1 := c96) (c2 := c113) (Sep.m2 (Sep.m1 hS119))) (fill1 (us := [.bool x58.In, .int .i64 x58.Generation, v95,
        v112]) (vs := [.bool x58.In, .int .i64 x58.Generation, v95,
        v112]) rfl rfl (Nat.le_of_ble_eq_true rfl) (all_c rfl (all_c rfl (all_c (SlF.one hv98) (all_c (SlF.one hv115) all_n)))) rfl fill0) (Reader.RI (x :=
        (Reader.mk x58.In x58.Generation l92 l109)) hv98 hv115) rfl (fun v120 c121 h122 hv123 hS124 => ?_)
    simp only [run_app, B0, reduceIte, reduceEqDiff]
    obtain ⟨l126, hx127, hF128⟩ := bind_some' hF111
    refine put2_appN (R := Reader.R) (c := c55) hv56 hv123 (Sep.m4 hS124) hW Reader.RO.len Reader.RO.one hx127 (fun v129 c130 h131 hv132 hS133 => ?_)
    simp only [f75, run_fa, put1_some, Nat.reduceAdd, Nat.zero_add, Nat.add_zero, xfa_ptr, run_st, B0, reduceIte, reduceEqDiff]
    refine put2_stCx (us := [v129]) (cells_one (SlN.one hv132)) (cs' := [.int .i64 s52.Generation, v129, v30,
        v39]) (Sep.m3 hS133) hW rfl (all_c (SlN.one hv132) all_n) (Nat.le_of_ble_eq_true rfl) rfl (fun h135 hS136 => ?_)
    simp only [run_ops_nil, run_nil, B0, reduceIte, reduceEqDiff]
    have e137 := some_inj hF128
    exact hN66 _ _ _ e137.symm ⟨v129, c130, by simp only [f74, B0, reduceIte, reduceEqDiff], by simp only [f75, B0, reduceIte, reduceEqDiff], by simp only [f76, B0, reduceIte,
        reduceEqDiff], hv132, (Sep.m4 (Sep.m3 (Sep.m3 (Sep.m4 (Sep.m4 (Sep.dc (Sep.m2 hS136)))))))⟩ (by simp only [f78, B0, reduceIte, reduceEqDiff]) (by simp only [f79, B0,
        reduceIte, reduceEqDiff])
  rintro s139 fr144 h145 rfl ⟨v141, c142, f147, f148, f149, hv143, hS146⟩
  dsimp only [jnO] at hk62
  unfold impl_copyReaders_j1 at hk62
  simp only [run_seq, run_reg, f148, run_ld, B0, reduceIte, reduceEqDiff]
  refine put1_eq (v := .agg [.int .i64 s139.Generation, v141, v30, v39]) ((xld_bs (Sep.bk _ _ _ (Sep.m1 hS146))).trans rfl) ?_
  simp only [f147, run_st, B0, reduceIte, reduceEqDiff]
  refine put2_stCx (us := [.int .i64 s139.Generation, v141, v30, v39]) rfl (cs' := [.int .i64 s139.Generation, v141, v30,
      v39]) hS146 hW rfl (all_c rfl (all_c (SlN.one hv143) (all_c (SlF.one hv33) (all_c (SlF.one hv42) all_n)))) (Nat.le_of_ble_eq_true rfl) rfl (fun h150 hS151 => ?_)
  simp only [run_ops_nil, run_ret, B0, reduceIte, reduceEqDiff]
  have he := some_inj hk62
  subst he
  refine end_ret_cell (bb := b5) (oo := 0) (v := .agg [.int .i64 s139.Generation, v141, v30, v39]) (by simp only [f147, B0, reduceIte,
      reduceEqDiff]) ((xld_bs (Sep.bk _ _ _ hS151)).trans rfl) ?_
  exact ⟨v141, c142, v30, c31, v39, c40, by first | trivial | rfl, hv143, hv33, hv42, (Sep.m2 (Sep.m2 (Sep.m2 (Sep.dc ((Sep.dc (hS151)))))))⟩
end Go.Proofs.Ytdhibknhejhfaaa.X
