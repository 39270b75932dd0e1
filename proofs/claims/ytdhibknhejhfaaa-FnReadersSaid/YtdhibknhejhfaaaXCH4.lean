/- The functions' code comes to what the plain functions say (4). -/
import Derived.Test.YtdhibknhejhfaaaXCH3
set_option linter.unusedVariables false
set_option linter.unusedSimpArgs false
set_option maxRecDepth 100000
namespace Go.Proofs.Ytdhibknhejhfaaa.X
open Go
open Nat (reduceEqDiff)
theorem impl_OwnerOf_1_x {W : Nat → Bool} {h : Heap} (hW : ∀ b,
    (geL h.length) b → W b = true) (x_0 : Reader) (cap_0 : Readers_) (cap_1 : Int) (r : Bool) (hF : impl_OwnerOf_1 x_0 cap_0 cap_1 = some r) : Ret E W 57 [.agg [.bool x_0.In,
    .int .i64 x_0.Generation, lst cI x_0.Share, lst cI x_0.Read], .ref (Readers_.cells cap_0) 0,
    .ref (cI cap_1) 0] h (fun v h' => cut h.length h' E.sz false 9 v = some (.bool r)) := by
  refine Ret.of (fn := x57) rfl (Run.of ?_)
  unfold impl_OwnerOf_1 at hF
  have zf0 : argFr [.agg [.bool x_0.In, .int .i64 x_0.Generation, lst cI x_0.Share, lst cI x_0.Read], .ref (Readers_.cells cap_0) 0, .ref (cI cap_1) 0] 0 = .agg [.bool x_0.In,
      .int .i64 x_0.Generation, lst cI x_0.Share, lst cI x_0.Read] := rfl
  have zf1 : argFr [.agg [.bool x_0.In, .int .i64 x_0.Generation, lst cI x_0.Share, lst cI x_0.Read], .ref (Readers_.cells cap_0) 0,
      .ref (cI cap_1) 0] 1 = .ref (Readers_.cells cap_0) 0 := rfl
  have zf2 : argFr [.agg [.bool x_0.In, .int .i64 x_0.Generation, lst cI x_0.Share, lst cI x_0.Read], .ref (Readers_.cells cap_0) 0, .ref (cI cap_1) 0] 2 = .ref (cI cap_1) 0 := rfl
  generalize argFr [.agg [.bool x_0.In, .int .i64 x_0.Generation, lst cI x_0.Share, lst cI x_0.Read], .ref (Readers_.cells cap_0) 0, .ref (cI cap_1) 0] = fr0 at zf0 zf1 zf2 ⊢
  have hS : Sep h (geL h.length) [] := Sep.nil h
  simp only [x57, run_seq, run_reg, run_box, zf0, B0, reduceIte, reduceEqDiff]
  refine put2_boxC (cs := [.bool x_0.In, .int .i64 x_0.Generation, lst cI x_0.Share, lst cI x_0.Read]) hS rfl rfl rfl (fun b1 h2 hS3 => ?_)
  simp only [run_mv, run_ops_nil, B0, reduceIte, reduceEqDiff]
  refine frz_stepC hS3 hW (by simp only [B0, reduceIte, reduceEqDiff]) (fun h5 hS6 => ?_)
  simp only [run_frz_nil, x57_1, run_seq, run_reg, run_fa, put1_some, Nat.reduceAdd, Nat.zero_add, Nat.add_zero, xfa_ref, run_ld, B0, reduceIte, reduceEqDiff]
  refine put1_eq (v := .bool x_0.In) rfl ?_
  simp only [run_mv, B0, reduceIte, reduceEqDiff]
  refine ops_j 6 (fun fr' h' => Sep h' (geL h.length) ([]) ∧ fr' 13 = .bool (x_0.In && (decide (x_0.Generation = cap_0.Generation))) ∧ fr' 2 = .ref
      (cI cap_1) 0 ∧ fr' 3 = .ref [.bool x_0.In, .int .i64 x_0.Generation, lst cI x_0.Share, lst cI x_0.Read] 0) (fun Q7 hN8 => ?_) ?_
  · simp only [List.take_succ_cons, List.take_zero]
    simp only [run_guard (g := 7), B0, reduceIte, reduceEqDiff]
    refine guard_split (t := x_0.In) (fun hg9 => ?_) (fun hg9 => ?_)
    · simp only [hg9, run_guard (g := 7), guard_true, run_fa, put1_some, Nat.reduceAdd, Nat.zero_add, Nat.add_zero, xfa_ref, run_ld, B0, reduceIte, reduceEqDiff]
      refine put1_eq (v := .int .i64 x_0.Generation) rfl ?_
      simp only [hg9, run_guard (g := 7), guard_true, zf1, run_fa, put1_some, Nat.reduceAdd, Nat.zero_add, Nat.add_zero, xfa_ref, run_ld, B0, reduceIte, reduceEqDiff]
      refine put1_eq (v := .int .i64 cap_0.Generation) rfl ?_
      simp only [hg9, run_guard (g := 7), guard_true, run_bin, put1_some, xeql, run_pick, xpick_t, run_ops_nil, run_nil, B0, reduceIte, reduceEqDiff]
      exact hN8 _ _ ⟨hS6, by rw [andT hg9]; simp only [B0, reduceIte, reduceEqDiff], zf2, by simp only [B0, reduceIte, reduceEqDiff, hg9]⟩
    · simp only [hg9, run_guard (g := 7), guard_off, run_pick, put1_some, xpick_f, run_ops_nil, run_nil, B0, reduceIte, reduceEqDiff]
      exact hN8 _ _ ⟨hS6, by rw [andF hg9]; simp only [B0, reduceIte, reduceEqDiff], zf2, by simp only [B0, reduceIte, reduceEqDiff, hg9]⟩
  rintro fr10 h14 ⟨hS15, f11, f12, f13⟩
  simp only [List.drop_succ_cons, List.drop_zero]
  simp only [f11, run_mv, B0, reduceIte, reduceEqDiff]
  obtain ⟨v19, hx20, hF21⟩ := bind_some' hF
  refine ops_j 5 (fun fr' h' => Sep h' (geL h.length) ([]) ∧ fr' 19 = .bool v19) (fun Q16 hN17 => ?_) ?_
  · simp only [List.take_succ_cons, List.take_zero]
    simp only [run_guard (g := 14), B0, reduceIte, reduceEqDiff]
    refine guard_split (t := (x_0.In && (decide (x_0.Generation = cap_0.Generation)))) (fun hg18 => ?_) (fun hg18 => ?_)
    · rw [iteT hg18] at hx20
      simp only [hg18, run_guard (g := 14), guard_true, f13, run_fa, put1_some, Nat.reduceAdd, Nat.zero_add, Nat.add_zero, xfa_ref, run_ld, B0, reduceIte, reduceEqDiff]
      refine put1_eq (v := lst cI x_0.Share) rfl ?_
      simp only [hg18, run_guard (g := 14), guard_true, f12, run_ld, B0, reduceIte, reduceEqDiff]
      refine put1_eq (v := .int .i64 cap_1) rfl ?_
      obtain ⟨v22, hx23, hF24⟩ := bind_some' hx20
      simp only [hg18, run_guard (g := 14), guard_true, run_call, B0, reduceIte, reduceEqDiff]
      refine call1 rfl (mapM1 snap_lst (mapM1 snap_int mapM0)) (slices_Contains_int_x (fun b hb => decide_eq_true hb) x_0.Share cap_1 v22 hx23) ?_
      simp only [hg18, run_pick, put1_some, xpick_t, run_ops_nil, run_nil, B0, reduceIte, reduceEqDiff]
      have e25 := some_inj hF24
      exact hN17 _ _ ⟨hS15, by rw [← e25]; simp only [B0, reduceIte, reduceEqDiff]⟩
    · rw [iteF hg18] at hx20
      simp only [hg18, run_guard (g := 14), guard_off, run_pick, put1_some, xpick_f, run_ops_nil, run_nil, B0, reduceIte, reduceEqDiff]
      have e26 := some_inj hx20
      exact hN17 _ _ ⟨hS15, by rw [← e26]; simp only [B0, reduceIte, reduceEqDiff]⟩
  rintro fr27 h29 ⟨hS30, f28⟩
  simp only [List.drop_succ_cons, List.drop_zero]
  simp only [f28, run_mv, run_ops_nil, run_ret, B0, reduceIte, reduceEqDiff]
  have he := some_inj hF21
  subst he
  simp only [end_ret1, B0, reduceIte, reduceEqDiff]
  exact rfl
theorem impl_OwnerOf_x {W : Nat → Bool} {h : Heap} (hW : ∀ b,
    (geL h.length) b → W b = true) (r_0 : Readers_) (part_1 : Int) (r : Int × Bool) (hF : impl_OwnerOf r_0 part_1 = some r) : Ret E W 14 [.agg [.int .i64 r_0.Generation,
    lst Reader.cells r_0.Readers, lst cI r_0.Committed, lst cI r_0.Ends], .int .i64 part_1] h (fun v h' => cut h.length h' E.sz false 9 v = some (.tup [.int .i64 r.1,
    .bool r.2])) := by
  refine Ret.of (fn := x14) rfl (Run.of ?_)
  unfold impl_OwnerOf at hF
  have zf0 : argFr [.agg [.int .i64 r_0.Generation, lst Reader.cells r_0.Readers, lst cI r_0.Committed, lst cI r_0.Ends], .int .i64 part_1] 0 = .agg [.int .i64 r_0.Generation,
      lst Reader.cells r_0.Readers, lst cI r_0.Committed, lst cI r_0.Ends] := rfl
  have zf1 : argFr [.agg [.int .i64 r_0.Generation, lst Reader.cells r_0.Readers, lst cI r_0.Committed, lst cI r_0.Ends], .int .i64 part_1] 1 = .int .i64 part_1 := rfl
  generalize argFr [.agg [.int .i64 r_0.Generation, lst Reader.cells r_0.Readers, lst cI r_0.Committed, lst cI r_0.Ends], .int .i64 part_1] = fr0 at zf0 zf1 ⊢
  have hS : Sep h (geL h.length) [] := Sep.nil h
  simp only [x14, run_seq, run_reg, run_box, zf0, B0, reduceIte, reduceEqDiff]
  refine put2_boxC (cs := [.int .i64 r_0.Generation, lst Reader.cells r_0.Readers, lst cI r_0.Committed, lst cI r_0.Ends]) hS rfl rfl rfl (fun b1 h2 hS3 => ?_)
  simp only [run_box, zf1, B0, reduceIte, reduceEqDiff]
  refine put2_boxC (cs := [.int .i64 part_1]) hS3 rfl rfl rfl (fun b5 h6 hS7 => ?_)
  simp only [run_mv, run_ops_nil, B0, reduceIte, reduceEqDiff]
  refine frz_stepC (Sep.m1 hS7) hW (by simp only [B0, reduceIte, reduceEqDiff]) (fun h9 hS10 => ?_)
  refine frz_stepC hS10 hW (by simp only [B0, reduceIte, reduceEqDiff]) (fun h11 hS12 => ?_)
  simp only [run_frz_nil, x14_5, run_seq, run_reg, run_ld, B0, reduceIte, reduceEqDiff]
  refine put1_eq (v := .agg [.int .i64 r_0.Generation, lst Reader.cells r_0.Readers, lst cI r_0.Committed, lst cI r_0.Ends]) rfl ?_
  obtain ⟨v13, hx14, hF15⟩ := bind_some' hF
  simp only [run_call, B0, reduceIte, reduceEqDiff]
  refine call1 rfl (mapM1 (snap_agg (mapM1 snap_int (mapM1 snap_lst (mapM1 snap_lst (mapM1 snap_lst mapM0))))) mapM0) (impl_areReaders_x
      (fun b hb => decide_eq_true hb) r_0 v13 hx14) ?_
  simp only [run_un, put1_some, xnot, run_ops_nil, x14_1, run_cond, B0, reduceIte, reduceEqDiff]
  refine cond_split (t := (!v13)) (fun hc16 => ?_) (fun hc16 => ?_)
  · rw [iteT hc16] at hF15
    simp only [run_seq, run_reg, run_mv, run_ops_nil, run_ret, B0, reduceIte, reduceEqDiff]
    have he := some_inj hF15
    subst he
    simp only [end_ret2, B0, reduceIte, reduceEqDiff]
    exact cut_tup (mapM1 rfl (mapM1 rfl mapM0))
  rw [iteF hc16] at hF15
  simp only [run_skip, x14_4, run_seq, run_reg, run_fa, put1_some, Nat.reduceAdd, Nat.zero_add, Nat.add_zero, xfa_ref, run_ld, B0, reduceIte, reduceEqDiff]
  refine put1_eq (v := lst Reader.cells r_0.Readers) rfl ?_
  obtain ⟨v17, hx18, hF19⟩ := bind_some' hF15
  simp only [run_mkF, run_call, B0, reduceIte, reduceEqDiff]
  refine call1 rfl (mapM1 snap_lst (mapM1 snap_fn mapM0)) (slices_IndexFunc_Reader_x (fun b hb => decide_eq_true hb) r_0.Readers (g1 := 57)
      (caps1 := [.ref [.int .i64 r_0.Generation, lst Reader.cells r_0.Readers, lst cI r_0.Committed, lst cI r_0.Ends] 0,
      .ref [.int .i64 part_1] 0]) rfl (fun a0 => impl_OwnerOf_1 a0 r_0 part_1) (fun W h hW a0 r hr => impl_OwnerOf_1_x hW a0 r_0 part_1 r hr) v17 hx18) ?_
  simp only [run_mv, run_ops_nil, x14_3, run_seq, run_reg, run_bin, put1_some, xlss, x14_2, run_cond, B0, reduceIte, reduceEqDiff]
  refine cond_split (t := (decide (v17 < 0))) (fun hc20 => ?_) (fun hc20 => ?_)
  · rw [iteT hc20] at hF19
    simp only [run_seq, run_reg, run_mv, run_ops_nil, run_ret, B0, reduceIte, reduceEqDiff]
    have he := some_inj hF19
    subst he
    simp only [end_ret2, B0, reduceIte, reduceEqDiff]
    exact cut_tup (mapM1 rfl (mapM1 rfl mapM0))
  rw [iteF hc20] at hF19
  simp only [run_skip, run_seq, run_reg, run_mv, run_ops_nil, run_ret, B0, reduceIte, reduceEqDiff]
  have he := some_inj hF19
  subst he
  simp only [end_ret2, B0, reduceIte, reduceEqDiff]
  exact cut_tup (mapM1 rfl (mapM1 rfl mapM0))
theorem laws_numberOf_x {W : Nat → Bool} {h : Heap} (hW : ∀ b,
    (geL h.length) b → W b = true) (b_0 : List Int) (r : Int) (hF : laws_numberOf b_0 = some r) : Ret E W 15 [lst cU8 b_0] h (fun v h' => cut h.length h' E.sz false 9 v = some
    (.int .i64 r)) := by
  refine Ret.of (fn := x15) rfl (Run.of ?_)
  unfold laws_numberOf at hF
  have zf0 : argFr [lst cU8 b_0] 0 = lst cU8 b_0 := rfl
  generalize argFr [lst cU8 b_0] = fr0 at zf0 ⊢
  have hS : Sep h (geL h.length) [] := Sep.nil h
  simp only [x15, run_seq, run_reg, run_mv, run_ops_nil, x15_6, x15_5, zf0, run_len, put1_some, xlen_lst, B0, reduceIte, reduceEqDiff]
  obtain ⟨oc5, hX7, hk8⟩ := jn_some hF
  simp only [x15_4]
  refine rangeL_j (σ := Int) b_0 (fun i3 x4 s26 => laws_numberOf_b1 i3 x4 s26) (fun s fr' h' => fr' 3 = .int .i64 s ∧ fr' 6 = lst cU8 b_0 ∧ Sep h' (geL h.length) ([])) hX7 ⟨rfl,
      rfl, hS⟩ (by simp only [B0, reduceIte, reduceEqDiff]) (by simp only [B0, reduceIte,
      reduceEqDiff]) (fun _ _ _ h => h) rfl rfl (fun _ _ _ _ h => h) (fun _ _ _ _ h => h) (fun _ _ _ _ h => h) (by decide) ?_ ?_
  · rintro i3 x4 s2 fr17 h18 hx22 ⟨f20, f21, hS19⟩ f23 f24 oc6 hF9 hr10 Q11 hN12 hB16 hK13 hR14 hE15
    unfold laws_numberOf_b1 at hF9
    simp only [x15_2, run_seq, run_reg, f21, f23, run_ia, B0, reduceIte, reduceEqDiff]
    refine put1_eq (v := .ref (cU8 x4) 0) (xia_lstN hx22 rfl) ?_
    simp only [run_ld, B0, reduceIte, reduceEqDiff]
    refine put1_eq (v := .int .u8 x4) rfl ?_
    simp only [run_mv, run_ops_nil, x15_1, run_reg, f20, run_bin, put1_some, xmul, run_cvt, xcvt_i, xadd, xrem_nz (n := 1000003) (by decide), run_nil, B0, reduceIte, reduceEqDiff]
    have e25 := some_inj hF9
    exact hN12 _ _ _ e25.symm ⟨rfl, f21, hS19⟩ (f23) (f24)
  rintro s27 fr28 h29 rfl ⟨f31, f32, hS30⟩
  dsimp only [jnO] at hk8
  unfold laws_numberOf_j1 at hk8
  simp only [run_seq, run_reg, f31, run_mv, run_ops_nil, run_ret, B0, reduceIte, reduceEqDiff]
  have he := some_inj hk8
  subst he
  simp only [end_ret1, B0, reduceIte, reduceEqDiff]
  exact rfl
theorem impl_LeftToRead_x {W : Nat → Bool} {h : Heap} (hW : ∀ b,
    (geL h.length) b → W b = true) (r_0 : Readers_) (r : Int × Bool) (hF : impl_LeftToRead r_0 = some r) : Ret E W 16 [.agg [.int .i64 r_0.Generation,
    lst Reader.cells r_0.Readers, lst cI r_0.Committed, lst cI r_0.Ends]] h (fun v h' => cut h.length h' E.sz false 9 v = some (.tup [.int .i64 r.1, .bool r.2])) := by
  refine Ret.of (fn := x16) rfl (Run.of ?_)
  unfold impl_LeftToRead at hF
  have zf0 : argFr [.agg [.int .i64 r_0.Generation, lst Reader.cells r_0.Readers, lst cI r_0.Committed, lst cI r_0.Ends]] 0 = .agg [.int .i64 r_0.Generation,
      lst Reader.cells r_0.Readers, lst cI r_0.Committed, lst cI r_0.Ends] := rfl
  generalize argFr [.agg [.int .i64 r_0.Generation, lst Reader.cells r_0.Readers, lst cI r_0.Committed, lst cI r_0.Ends]] = fr0 at zf0 ⊢
  have hS : Sep h (geL h.length) [] := Sep.nil h
  simp only [x16, run_seq, run_reg, run_box, zf0, B0, reduceIte, reduceEqDiff]
  refine put2_boxC (cs := [.int .i64 r_0.Generation, lst Reader.cells r_0.Readers, lst cI r_0.Committed, lst cI r_0.Ends]) hS rfl rfl rfl (fun b1 h2 hS3 => ?_)
  simp only [run_mv, run_ops_nil, B0, reduceIte, reduceEqDiff]
  refine frz_stepC hS3 hW (by simp only [B0, reduceIte, reduceEqDiff]) (fun h5 hS6 => ?_)
  simp only [run_frz_nil, x16_8, run_seq, run_reg, run_ld, B0, reduceIte, reduceEqDiff]
  refine put1_eq (v := .agg [.int .i64 r_0.Generation, lst Reader.cells r_0.Readers, lst cI r_0.Committed, lst cI r_0.Ends]) rfl ?_
  obtain ⟨v7, hx8, hF9⟩ := bind_some' hF
  simp only [run_call, B0, reduceIte, reduceEqDiff]
  refine call1 rfl (mapM1 (snap_agg (mapM1 snap_int (mapM1 snap_lst (mapM1 snap_lst (mapM1 snap_lst mapM0))))) mapM0) (impl_areReaders_x
      (fun b hb => decide_eq_true hb) r_0 v7 hx8) ?_
  simp only [run_un, put1_some, xnot, run_ops_nil, x16_1, run_cond, B0, reduceIte, reduceEqDiff]
  refine cond_split (t := (!v7)) (fun hc10 => ?_) (fun hc10 => ?_)
  · rw [iteT hc10] at hF9
    simp only [run_seq, run_reg, run_mv, run_ops_nil, run_ret, B0, reduceIte, reduceEqDiff]
    have he := some_inj hF9
    subst he
    simp only [end_ret2, B0, reduceIte, reduceEqDiff]
    exact cut_tup (mapM1 rfl (mapM1 rfl mapM0))
  rw [iteF hc10] at hF9
  simp only [run_skip, x16_7, run_seq, run_reg, run_mv, run_ops_nil, x16_6, run_fa, put1_some, Nat.reduceAdd, Nat.zero_add, Nat.add_zero, xfa_ref, run_ld, B0, reduceIte,
      reduceEqDiff]
  refine put1_eq (v := lst cI r_0.Ends) rfl ?_
  simp only [run_len, put1_some, xlen_lst, run_mv, run_ops_nil, B0, reduceIte, reduceEqDiff]
  obtain ⟨oc15, hX17, hk18⟩ := jn_some hF9
  simp only [x16_5]
  refine rangeL_j (σ := Int) r_0.Ends (fun i13 x14 s40 => impl_LeftToRead_b1 r_0 i13 x14 s40) (fun s fr' h' => fr' 1 = .ref [.int .i64 r_0.Generation,
      lst Reader.cells r_0.Readers, lst cI r_0.Committed, lst cI r_0.Ends] 0 ∧ fr' 4 = .int .i64 s ∧ fr' 11 = lst cI r_0.Ends ∧ Sep h' (geL h.length) ([])) hX17 ⟨rfl, rfl, rfl,
      hS6⟩ (by simp only [B0, reduceIte, reduceEqDiff]) (by simp only [B0, reduceIte,
      reduceEqDiff]) (fun _ _ _ h => h) rfl rfl (fun _ _ _ _ h => h) (fun _ _ _ _ h => h) (fun _ _ _ _ h => h) (by decide) ?_ ?_
  · rintro i13 x14 s12 fr27 h28 hx33 ⟨f30, f31, f32, hS29⟩ f34 f35 oc16 hF19 hr20 Q21 hN22 hB26 hK23 hR24 hE25
    unfold impl_LeftToRead_b1 at hF19
    simp only [x16_3, run_seq, run_reg, f34, run_mv, f32, run_ia, B0, reduceIte, reduceEqDiff]
    refine put1_eq (v := .ref (cI x14) 0) (xia_lstN hx33 rfl) ?_
    simp only [run_ld, B0, reduceIte, reduceEqDiff]
    refine put1_eq (v := .int .i64 x14) rfl ?_
    simp only [run_mv, run_ops_nil, x16_2, run_reg, f31, f30, run_fa, put1_some, Nat.reduceAdd, Nat.zero_add, Nat.add_zero, xfa_ref, run_ld, B0, reduceIte, reduceEqDiff]
    refine put1_eq (v := lst cI r_0.Committed) rfl ?_
    obtain ⟨x36, hx37, hF38⟩ := bind_some' hF19
    simp only [run_mv, run_ia, B0, reduceIte, reduceEqDiff]
    refine put1_eq (v := .ref (cI x36) 0) (xia_lst hx37 rfl) ?_
    simp only [run_ld, B0, reduceIte, reduceEqDiff]
    refine put1_eq (v := .int .i64 x36) rfl ?_
    simp only [run_bin, put1_some, xsub, xadd, run_mv, run_ops_nil, run_nil, B0, reduceIte, reduceEqDiff]
    have e39 := some_inj hF38
    exact hN22 _ _ _ e39.symm ⟨f30, rfl, f32, hS29⟩ (f34) (f35)
  rintro s41 fr42 h43 rfl ⟨f45, f46, f47, hS44⟩
  dsimp only [jnO] at hk18
  unfold impl_LeftToRead_j1 at hk18
  simp only [run_seq, run_reg, f46, run_mv, run_ops_nil, run_ret, B0, reduceIte, reduceEqDiff]
  have he := some_inj hk18
  subst he
  simp only [end_ret2, B0, reduceIte, reduceEqDiff]
  exact cut_tup (mapM1 rfl (mapM1 rfl mapM0))
theorem laws_FnReaders_x {W : Nat → Bool} {h : Heap} (hW : ∀ b,
    (geL h.length) b → W b = true) (k : Nat) (v_0 : List Int) (v_1 : List Int) (r : Bool) (hF : laws_FnReaders k v_0 v_1 = some r) : Ret E W 3 [lst cU8 v_0,
    lst cU8 v_1] h (fun v h' => cut h.length h' E.sz false 9 v = some (.bool r)) := by
  refine Ret.of (fn := x3) rfl (Run.of ?_)
  unfold laws_FnReaders at hF
  have zf0 : argFr [lst cU8 v_0, lst cU8 v_1] 0 = lst cU8 v_0 := rfl
  have zf1 : argFr [lst cU8 v_0, lst cU8 v_1] 1 = lst cU8 v_1 := rfl
  generalize argFr [lst cU8 v_0, lst cU8 v_1] = fr0 at zf0 zf1 ⊢
  have hS : Sep h (geL h.length) [] := Sep.nil h
  simp only [x3, run_seq, run_reg, run_mv, run_ops_nil, x3_34, zf0, run_len, put1_some, xlen_lst, zf1, run_bin, xadd, xgtr, run_cond, B0, reduceIte, reduceEqDiff]
  refine cond_split (t := (decide ((1048576 : Int) < (IntKind.wrap .i64 ((List.length v_0 : Int) + (List.length v_1 : Int)))))) (fun hc1 => ?_) (fun hc1 => ?_)
  · rw [iteT hc1] at hF
    simp only [run_seq, run_reg, run_mv, run_ops_nil, run_ret, B0, reduceIte, reduceEqDiff]
    have he := some_inj hF
    subst he
    simp only [end_ret1, B0, reduceIte, reduceEqDiff]
    exact rfl
  rw [iteF hc1] at hF
  obtain ⟨v2, hx3, hF4⟩ := bind_some' hF
  simp only [run_skip, x3_33, run_seq, run_reg, zf0, run_mv, run_call, B0, reduceIte, reduceEqDiff]
  refine call2 rfl hS (mapM1 snap_lst mapM0) (spec_DrawPlayReaders_x (fun b hb => decide_eq_true hb) k v_0 v2 hx3) ?_
  rintro _ h13 ⟨v5, c6, v9, c10, rfl, hv7, hv11, hS14⟩
  refine ⟨_, free_t (all_c rfl (all_c (free2_1 (SlF.free1 hv7)) (all_c (free2_1 (SlF.free1 hv11)) all_n))), hS14,
      (pf_app (SlF.pf hv7 (fun _ => rfl)) (pf_app (SlF.pf hv11 (fun _ => rfl)) pf_nil)), fun h15 hS16 => ?_⟩
  have hS17 : Sep h15 (geL h.length) (c6 ++ (c10 ++ ([]))) := by simpa only [List.append_assoc, List.nil_append] using hS16
  obtain ⟨v18, hx19, hF20⟩ := bind_some' hF4
  simp only [run_mv, run_ext, put1_some, xext_0, xext_1, xext_2, run_ops_nil, x3_32, run_seq, run_reg, run_call, B0, reduceIte, reduceEqDiff]
  refine call2 rfl hS17 (mapM1 snap_int (mapM1 (SlF.snap hv7 hS17 rfl (fun _ => rfl) (fun _ => rfl)) (mapM1 (SlF.snap hv11 (Sep.m1 hS17) rfl (fun _ => rfl)
      (fun _ => rfl)) mapM0))) (impl_PlayReaders_x (fun b hb => decide_eq_true hb) v2.1 v2.2.1 v2.2.2 v18 hx19) ?_
  rintro _ h37 ⟨v21, c22, v25, c26, v29, c30, v33, c34, rfl, hv23, hv27, hv31, hv35, hS38⟩
  refine ⟨_, free_t (all_c (free2_a (all_c rfl (all_c (SlN.free1 hv23) (all_c (SlF.free1 hv27) (all_c (SlF.free1 hv31) all_n))))) (all_c (free2_1 (SlF.free1 hv35))
      (all_c rfl all_n))), hS38, (pf_app (SlN.pf hv23 Reader.RO) (pf_app (SlF.pf hv27 (fun _ => rfl)) (pf_app (SlF.pf hv31 (fun _ => rfl)) (pf_app (SlF.pf hv35
      (fun _ => rfl)) pf_nil)))), fun h39 hS40 => ?_⟩
  have hS41 : Sep h39 (geL h.length) (c22 ++ (c26 ++ (c30 ++ (c34 ++ (c6 ++ (c10 ++ ([]))))))) := by simpa only [List.append_assoc, List.nil_append] using hS40
  simp only [run_mv, run_ext, put1_some, xext_0, xext_1, xext_2, run_new, B0, reduceIte, reduceEqDiff]
  refine put2_newC hS41 (fun b42 h43 hS44 => ?_)
  simp only [run_st, B0, reduceIte, reduceEqDiff]
  refine put2_stCx (us := [.int .i64 v18.1.Generation, v21, v25, v29]) rfl (cs' := [.int .i64 v18.1.Generation, v21, v25,
      v29]) hS44 hW rfl (all_c rfl (all_c (SlN.one hv23) (all_c (SlF.one hv27) (all_c (SlF.one hv31) all_n)))) (Nat.le_of_ble_eq_true rfl) rfl (fun h46 hS47 => ?_)
  simp only [run_mv, run_ops_nil, B0, reduceIte, reduceEqDiff]
  refine frz_stepC hS47 hW (by simp only [B0, reduceIte, reduceEqDiff]) (fun h48 hS49 => ?_)
  obtain ⟨v50, hx51, hF52⟩ := bind_some' hF20
  simp only [run_frz_nil, x3_31, run_seq, run_reg, run_mv, run_call, B0, reduceIte, reduceEqDiff]
  refine call2 rfl hS49 (mapM1 snap_int (mapM1 (SlF.snap hv7 (Sep.m4 hS49) rfl (fun _ => rfl) (fun _ => rfl)) (mapM1 (SlF.snap hv11 (Sep.m5 hS49) rfl (fun _ => rfl)
      (fun _ => rfl)) mapM0))) (spec_PlayReaders_x (fun b hb => decide_eq_true hb) k v2.1 v2.2.1 v2.2.2 v50 hx51) ?_
  rintro _ h69 ⟨v53, c54, v57, c58, v61, c62, v65, c66, rfl, hv55, hv59, hv63, hv67, hS70⟩
  refine ⟨_, free_t (all_c (free2_a (all_c rfl (all_c (SlN.free1 hv55) (all_c (SlF.free1 hv59) (all_c (SlF.free1 hv63) all_n))))) (all_c (free2_1 (SlF.free1 hv67))
      (all_c rfl all_n))), hS70, (pf_app (SlN.pf hv55 Reader.RO) (pf_app (SlF.pf hv59 (fun _ => rfl)) (pf_app (SlF.pf hv63 (fun _ => rfl)) (pf_app (SlF.pf hv67
      (fun _ => rfl)) pf_nil)))), fun h71 hS72 => ?_⟩
  have hS73 : Sep h71 (geL h.length) (c54 ++ (c58 ++ (c62 ++ (c66 ++ (c22 ++ (c26 ++ (c30 ++ (c34 ++ (c6 ++ (c10 ++ ([]))))))))))) := by simpa only [List.append_assoc,
      List.nil_append] using hS72
  simp only [run_mv, run_ext, put1_some, xext_0, xext_1, xext_2, run_new, B0, reduceIte, reduceEqDiff]
  refine put2_newC hS73 (fun b74 h75 hS76 => ?_)
  simp only [run_st, B0, reduceIte, reduceEqDiff]
  refine put2_stCx (us := [.int .i64 v50.1.Generation, v53, v57, v61]) rfl (cs' := [.int .i64 v50.1.Generation, v53, v57,
      v61]) hS76 hW rfl (all_c rfl (all_c (SlN.one hv55) (all_c (SlF.one hv59) (all_c (SlF.one hv63) all_n)))) (Nat.le_of_ble_eq_true rfl) rfl (fun h78 hS79 => ?_)
  simp only [run_mv, run_ops_nil, B0, reduceIte, reduceEqDiff]
  refine frz_stepC hS79 hW (by simp only [B0, reduceIte, reduceEqDiff]) (fun h80 hS81 => ?_)
  simp only [run_frz_nil, x3_30, run_seq, run_reg, run_mv, run_eqb, put1_some, xeqb_t, B0, reduceIte, reduceEqDiff]
  obtain ⟨v85, hx86, hF87⟩ := bind_some' hF52
  refine ops_j 5 (fun fr' h' => Sep h' (geL h.length) (c6 ++ (c10 ++ (c22 ++ (c26 ++ (c30 ++ (c34 ++ (c54 ++ (c58 ++ (c62 ++
      ([])))))))))) ∧ fr' 66 = .bool v85 ∧ fr' 1 = lst cU8 v_1 ∧ fr' 5 = .int .i64 v2.1 ∧ fr' 6 = v5 ∧ fr' 7 = v9 ∧ fr' 8 = .ref [.int .i64 v18.1.Generation, v21, v25,
      v29] 0 ∧ fr' 9 = v33 ∧ fr' 10 = .bool v18.2.2 ∧ fr' 11 = .ref [.int .i64 v50.1.Generation, v53, v57, v61] 0) (fun Q82 hN83 => ?_) ?_
  · simp only [List.take_succ_cons, List.take_zero]
    simp only [run_guard (g := 61), B0, reduceIte, reduceEqDiff]
    refine guard_split (t := (!(v18.2.2 == v50.2.2))) (fun hg84 => ?_) (fun hg84 => ?_)
    · rw [iteT hg84] at hx86
      simp only [hg84, run_guard (g := 61), guard_off', run_pick, put1_some, xpick_t, run_ops_nil, run_nil, B0, reduceIte, reduceEqDiff]
      have e88 := some_inj hx86
      exact hN83 _ _ ⟨(Sep.m8 (Sep.m8 (Sep.m6 (Sep.m6 (Sep.m6 (Sep.m6 (Sep.m2 (Sep.m2 (Sep.m2 (Sep.dc (Sep.m3 hS81))))))))))), by rw [← e88]; simp only [B0, reduceIte,
          reduceEqDiff], zf1, rfl, rfl, rfl, rfl, rfl, rfl, rfl⟩
    · rw [iteF hg84] at hx86
      obtain ⟨v89, hx90, hF91⟩ := bind_some' hx86
      simp only [hg84, run_guard (g := 61), guard_false, run_mv, run_call, B0, reduceIte, reduceEqDiff]
      refine call1 rfl (mapM1 (SlF.snap hv35 (Sep.m7 hS81) rfl (fun _ => rfl) (fun _ => rfl)) (mapM1 (SlF.snap hv67 (Sep.m3 hS81) rfl (fun _ => rfl) (fun _ => rfl)) mapM0))
          (laws_sameBools_x (fun b hb => decide_eq_true hb) v18.2.1 v50.2.1 v89 hx90) ?_
      simp only [hg84, run_guard (g := 61), guard_false, run_un, put1_some, xnot, run_pick, xpick_f, run_ops_nil, run_nil, B0, reduceIte, reduceEqDiff]
      have e92 := some_inj hF91
      exact hN83 _ _ ⟨(Sep.m8 (Sep.m8 (Sep.m6 (Sep.m6 (Sep.m6 (Sep.m6 (Sep.m2 (Sep.m2 (Sep.m2 (Sep.dc (Sep.m3 hS81))))))))))), by rw [← e92]; simp only [B0, reduceIte,
          reduceEqDiff], zf1, rfl, rfl, rfl, rfl, rfl, rfl, rfl⟩
  rintro fr93 h103 ⟨hS104, f94, f95, f96, f97, f98, f99, f100, f101, f102⟩
  simp only [List.drop_succ_cons, List.drop_zero]
  simp only [f94, run_mv, B0, reduceIte, reduceEqDiff]
  obtain ⟨v108, hx109, hF110⟩ := bind_some' hF87
  refine ops_j 5 (fun fr' h' => Sep h' (geL h.length) (c6 ++ (c10 ++ (c22 ++ (c26 ++ (c30 ++ (c34 ++
      ([]))))))) ∧ fr' 72 = .bool v108 ∧ fr' 1 = lst cU8 v_1 ∧ fr' 5 = .int .i64 v2.1 ∧ fr' 6 = v5 ∧ fr' 7 = v9 ∧ fr' 8 = .ref [.int .i64 v18.1.Generation, v21, v25,
      v29] 0 ∧ fr' 9 = v33 ∧ fr' 10 = .bool v18.2.2) (fun Q105 hN106 => ?_) ?_
  · simp only [List.take_succ_cons, List.take_zero]
    simp only [run_guard (g := 67), B0, reduceIte, reduceEqDiff]
    refine guard_split (t := v85) (fun hg107 => ?_) (fun hg107 => ?_)
    · rw [iteT hg107] at hx109
      simp only [hg107, run_guard (g := 67), guard_off', run_pick, put1_some, xpick_t, run_ops_nil, run_nil, B0, reduceIte, reduceEqDiff]
      have e111 := some_inj hx109
      exact hN106 _ _ ⟨(Sep.m5 (Sep.m5 (Sep.m5 (Sep.m5 (Sep.m5 (Sep.m5 (Sep.dc (Sep.m6 (Sep.dc (Sep.m6 (Sep.dc (Sep.m6 hS104)))))))))))), by rw [← e111]; simp only [B0, reduceIte,
          reduceEqDiff], f95, f96, f97, f98, f99, f100, f101⟩
    · rw [iteF hg107] at hx109
      simp only [hg107, run_guard (g := 67), guard_false, f99, run_ld, B0, reduceIte, reduceEqDiff]
      refine put1_eq (v := .agg [.int .i64 v18.1.Generation, v21, v25, v29]) rfl ?_
      simp only [hg107, run_guard (g := 67), guard_false, f102, run_ld, B0, reduceIte, reduceEqDiff]
      refine put1_eq (v := .agg [.int .i64 v50.1.Generation, v53, v57, v61]) rfl ?_
      obtain ⟨v112, hx113, hF114⟩ := bind_some' hx109
      simp only [hg107, run_guard (g := 67), guard_false, run_call, B0, reduceIte, reduceEqDiff]
      refine call1 rfl (mapM1 (snap_agg (mapM1 snap_int (mapM1 (SlN.snap hv23 _ (Sep.m2 hS104) rfl Reader.RO) (mapM1 (SlF.snap hv27 (Sep.m3 hS104) rfl (fun _ => rfl)
          (fun _ => rfl)) (mapM1 (SlF.snap hv31 (Sep.m4 hS104) rfl (fun _ => rfl) (fun _ => rfl)) mapM0))))) (mapM1 (snap_agg (mapM1 snap_int (mapM1 (SlN.snap hv55 _
          (Sep.m6 hS104) rfl Reader.RO) (mapM1 (SlF.snap hv59 (Sep.m7 hS104) rfl (fun _ => rfl) (fun _ => rfl)) (mapM1 (SlF.snap hv63 (Sep.m8 hS104) rfl (fun _ => rfl)
          (fun _ => rfl)) mapM0))))) mapM0)) (laws_sameReaders_x (fun b hb => decide_eq_true hb) v18.1 v50.1 v112 hx113) ?_
      simp only [hg107, run_guard (g := 67), guard_false, run_un, put1_some, xnot, run_pick, xpick_f, run_ops_nil, run_nil, B0, reduceIte, reduceEqDiff]
      have e115 := some_inj hF114
      exact hN106 _ _ ⟨(Sep.m5 (Sep.m5 (Sep.m5 (Sep.m5 (Sep.m5 (Sep.m5 (Sep.dc (Sep.m6 (Sep.dc (Sep.m6 (Sep.dc (Sep.m6 hS104)))))))))))), by rw [← e115]; simp only [B0, reduceIte,
          reduceEqDiff], f95, f96, f97, f98, f99, f100, f101⟩
  rintro fr116 h125 ⟨hS126, f117, f118, f119, f120, f121, f122, f123, f124⟩
  simp only [List.drop_succ_cons, List.drop_zero]
  simp only [run_ops_nil, f117, run_cond, B0, reduceIte, reduceEqDiff]
  refine cond_split (t := v108) (fun hc127 => ?_) (fun hc127 => ?_)
  · rw [iteT hc127] at hF110
    simp only [run_seq, run_reg, run_mv, run_ops_nil, run_ret, B0, reduceIte, reduceEqDiff]
    have he := some_inj hF110
    subst he
    simp only [end_ret1, B0, reduceIte, reduceEqDiff]
    exact rfl
  rw [iteF hc127] at hF110
  simp only [run_skip, x3_29, run_seq, run_reg, f124, run_mv, run_un, put1_some, xnot, run_ops_nil, x3_2, run_cond, B0, reduceIte, reduceEqDiff]
  refine cond_split (t := (!v18.2.2)) (fun hc128 => ?_) (fun hc128 => ?_)
  · rw [iteT hc128] at hF110
    simp only [x3_1, run_seq, run_reg, f123, run_mv, run_len, put1_some, SlF.plen hv35, run_bin, xeql, run_ops_nil, run_ret, B0, reduceIte, reduceEqDiff]
    have he := some_inj hF110
    subst he
    simp only [end_ret1, B0, reduceIte, reduceEqDiff]
    exact rfl
  rw [iteF hc128] at hF110
  simp only [run_skip, x3_28, run_seq, run_reg, f122, run_ld, B0, reduceIte, reduceEqDiff]
  refine put1_eq (v := .agg [.int .i64 v18.1.Generation, v21, v25, v29]) rfl ?_
  obtain ⟨v129, hx130, hF131⟩ := bind_some' hF110
  simp only [run_call, B0, reduceIte, reduceEqDiff]
  refine call1 rfl (mapM1 (snap_agg (mapM1 snap_int (mapM1 (SlN.snap hv23 _ (Sep.m2 hS126) rfl Reader.RO) (mapM1 (SlF.snap hv27 (Sep.m3 hS126) rfl (fun _ => rfl) (fun _ => rfl))
      (mapM1 (SlF.snap hv31 (Sep.m4 hS126) rfl (fun _ => rfl) (fun _ => rfl)) mapM0))))) mapM0) (impl_GoodReaders_x (fun b hb => decide_eq_true hb) v18.1 v129 hx130) ?_
  simp only [run_un, put1_some, xnot, run_ops_nil, run_cond, B0, reduceIte, reduceEqDiff]
  refine cond_split (t := (!v129)) (fun hc132 => ?_) (fun hc132 => ?_)
  · rw [iteT hc132] at hF131
    simp only [run_seq, run_reg, run_mv, run_ops_nil, run_ret, B0, reduceIte, reduceEqDiff]
    have he := some_inj hF131
    subst he
    simp only [end_ret1, B0, reduceIte, reduceEqDiff]
    exact rfl
  rw [iteF hc132] at hF131
  simp only [run_skip, x3_27, run_seq, run_reg, f120, run_mv, run_len, put1_some, SlF.plen hv7, run_ops_nil, B0, reduceIte, reduceEqDiff]
  obtain ⟨oc141, hX143, hk144⟩ := jn_some hF131
  simp only [x3_16]
  refine rangeN_j (σ := (List Reader)) (fun i139 s370 => laws_FnReaders_b2 v18 i139 s370) (fun s fr' h' => ∃ c137,
      fr' 1 = lst cU8 v_1 ∧ fr' 5 = .int .i64 v2.1 ∧ fr' 6 = v5 ∧ fr' 7 = v9 ∧ fr' 8 = .ref [.int .i64 v18.1.Generation, v21, v25,
      v29] 0 ∧ SlN Reader.R 4 37 v21 s c137 ∧ Sep h' (geL h.length) (c6 ++ (c10 ++ (c137 ++ (c26 ++ (c30 ++ ([]))))))) hX143 ⟨c22, f118, f119, f120, f121, f122, hv23,
      (Sep.m4 (Sep.m4 (Sep.m4 (Sep.m4 (Sep.m4 (Sep.dc (Sep.m5 hS126)))))))⟩ (by simp only [B0, reduceIte, reduceEqDiff]) (by simp only [B0, reduceIte,
      reduceEqDiff]) (fun _ _ _ h => h) rfl rfl (fun _ _ _ _ h => h) (fun _ _ _ _ h => h) (fun _ _ _ _ h => h) (by decide) ?_ ?_
  · rintro i139 s136 fr153 h154 hx161 ⟨c137, f156, f157, f158, f159, f160, hv138, hS155⟩ f162 f163 oc142 hF145 hr146 Q147 hN148 hB152 hK149 hR150 hE151
    unfold laws_FnReaders_b2 at hF145
    simp only [x3_14, run_seq, run_reg, f162, run_mv, run_ops_nil, x3_13, x3_12, x3_11, f160, run_fa, put1_some, Nat.reduceAdd, Nat.zero_add, Nat.add_zero, xfa_ref, run_ld, B0,
        reduceIte, reduceEqDiff]
    refine put1_eq (v := v21) rfl ?_
    simp only [run_len, put1_some, SlN.len hv138, run_mv, run_ops_nil, B0, reduceIte, reduceEqDiff]
    obtain ⟨oc176, hX178, hk179⟩ := jn_some hF145
    simp only [x3_8]
    refine rangeN_j (σ := Int × Int × (List Reader)) (fun i174 s295 => laws_FnReaders_b1 v18 i139 i174 s295.1 s295.2.1 s295.2.2) (fun s fr' h' => ∃ c172,
        fr' 1 = lst cU8 v_1 ∧ fr' 5 = .int .i64 v2.1 ∧ fr' 6 = v5 ∧ fr' 7 = v9 ∧ fr' 8 = .ref [.int .i64 v18.1.Generation, v21, v25,
        v29] 0 ∧ fr' 14 = .int .i64 (i139 : Int) ∧ fr' 15 = .int .i64 s.1 ∧ fr' 16 = .int .i64 s.2.1 ∧ fr' 82 = .int .i64 (List.length v2.2.1 : Int) ∧ fr' 83 = .int .i64
        (i139 : Int) ∧ fr' 87 = v21 ∧ SlN Reader.R 4 37 v21 s.2.2 c172 ∧ Sep h' (geL h.length) (c6 ++ (c10 ++ (c172 ++ (c26 ++ (c30 ++ ([]))))))) hX178 ⟨c137, f156, f157, f158,
        f159, f160, rfl, rfl, rfl, f163, f162, rfl, hv138, (Sep.m4 (Sep.m4 (Sep.m4 (Sep.m4 (Sep.m4 hS155)))))⟩ (by simp only [B0, reduceIte, reduceEqDiff]) (by simp only [B0,
        reduceIte, reduceEqDiff]) (fun _ _ _ h => h) rfl rfl (fun _ _ _ _ h => h) (fun _ _ _ _ h => h) (fun _ _ _ _ h => h) (by decide) ?_ ?_
    · rintro i174 ⟨s169, s170, s171⟩ fr188 h189 hx202 ⟨c172, f191, f192, f193, f194, f195, f196, f197, f198, f199, f200, f201, hv173,
        hS190⟩ f203 f204 oc177 hF180 hr181 Q182 hN183 hB187 hK184 hR185 hE186
      dsimp only at *
      unfold laws_FnReaders_b1 at hF180
      obtain ⟨x205, hx206, hF207⟩ := bind_some' hF180
      simp only [x3_6, run_seq, run_reg, f203, run_mv, f201, run_ia, B0, reduceIte, reduceEqDiff]
      obtain ⟨b208, hb209⟩ := SlN.isrow hv173 (geti_ne hx206)
      refine put1_eq (SlN.ia hv173 hb209 hx206) ?_
      obtain ⟨c210, cs211, os212, hv213, hR214, hS215⟩ := SlG.opn (SlN.toG hv173 hb209 Reader.RO.len) hx206 hk_nil Reader.RO.len (Sep.m2 hS190)
      obtain ⟨v217, c218, v221, c222, hv219, hv223, rfl, rfl⟩ := hR214
      have hS216 := Sep.no2 hS215
      simp only [run_ld, B0, reduceIte, reduceEqDiff]
      refine put1_eq (v := .agg [.bool x205.In, .int .i64 x205.Generation, v217, v221]) ((SlG.lds (o := 0) hv213 rfl hx206 hS216 (Nat.le_of_ble_eq_true rfl)).trans rfl) ?_
      simp only [run_new, B0, reduceIte, reduceEqDiff]
      refine put2_newC hS216 (fun b225 h226 hS227 => ?_)
      simp only [run_mv, run_st, B0, reduceIte, reduceEqDiff]
      refine put2_stCx (us := [.bool x205.In, .int .i64 x205.Generation, v217, v221]) rfl (cs' := [.bool x205.In, .int .i64 x205.Generation, v217,
          v221]) hS227 hW rfl (all_c rfl (all_c rfl (all_c (SlF.one hv219) (all_c (SlF.one hv223) all_n)))) (Nat.le_of_ble_eq_true rfl) rfl (fun h229 hS230 => ?_)
      simp only [run_ops_nil, B0, reduceIte, reduceEqDiff]
      refine frz_stepC hS230 hW (by simp only [B0, reduceIte, reduceEqDiff]) (fun h231 hS232 => ?_)
      simp only [run_frz_nil, x3_5, run_seq, run_reg, run_fa, put1_some, Nat.reduceAdd, Nat.zero_add, Nat.add_zero, xfa_ref, run_ld, B0, reduceIte, reduceEqDiff]
      refine put1_eq (v := .bool x205.In) rfl ?_
      simp only [run_mv, B0, reduceIte, reduceEqDiff]
      refine ops_j 6 (fun fr' h' => Sep h' (geL h.length) (c6 ++ (c10 ++ (c210 ++ (c26 ++ (c30 ++ (c218 ++ (c222 ++ ([])))))))) ∧ fr' 102 = .bool (x205.In && (decide
          (x205.Generation = v18.1.Generation))) ∧ fr' 1 = lst cU8 v_1 ∧ fr' 5 = .int .i64 v2.1 ∧ fr' 6 = v5 ∧ fr' 7 = v9 ∧ fr' 8 = .ref [.int .i64 v18.1.Generation, v21, v25,
          v29] 0 ∧ fr' 14 = .int .i64 (i139 : Int) ∧ fr' 15 = .int .i64 s169 ∧ fr' 16 = .int .i64 s170 ∧ fr' 17 = .int .i64 (i174 : Int) ∧ fr' 18 = .ref [.bool x205.In,
          .int .i64 x205.Generation, v217, v221] 0 ∧ fr' 82 = .int .i64 (List.length v2.2.1 : Int) ∧ fr' 83 = .int .i64 (i139 : Int) ∧ fr' 87 = v21 ∧ fr' 88 = .int .i64
          (List.length s136 : Int) ∧ fr' 89 = .int .i64 (i174 : Int)) (fun Q233 hN234 => ?_) ?_
      · simp only [List.take_succ_cons, List.take_zero]
        simp only [run_guard (g := 96), B0, reduceIte, reduceEqDiff]
        refine guard_split (t := x205.In) (fun hg235 => ?_) (fun hg235 => ?_)
        · simp only [hg235, run_guard (g := 96), guard_true, run_fa, put1_some, Nat.reduceAdd, Nat.zero_add, Nat.add_zero, xfa_ref, run_ld, B0, reduceIte, reduceEqDiff]
          refine put1_eq (v := .int .i64 x205.Generation) rfl ?_
          simp only [hg235, run_guard (g := 96), guard_true, f195, run_fa, put1_some, Nat.reduceAdd, Nat.zero_add, Nat.add_zero, xfa_ref, run_ld, B0, reduceIte, reduceEqDiff]
          refine put1_eq (v := .int .i64 v18.1.Generation) rfl ?_
          simp only [hg235, run_guard (g := 96), guard_true, run_bin, put1_some, xeql, run_pick, xpick_t, run_ops_nil, run_nil, B0, reduceIte, reduceEqDiff]
          exact hN234 _ _ ⟨(Sep.m6 (Sep.m6 (Sep.m4 (Sep.m6 (Sep.m6 (Sep.m2 (Sep.m2 hS232))))))), by rw [andT hg235]; simp only [B0, reduceIte, reduceEqDiff], f191, f192, f193,
              f194, f195, f196, f197, f198, rfl, by simp only [B0, reduceIte, reduceEqDiff, hg235], f199, f200, f201, f204, f203⟩
        · simp only [hg235, run_guard (g := 96), guard_off, run_pick, put1_some, xpick_f, run_ops_nil, run_nil, B0, reduceIte, reduceEqDiff]
          exact hN234 _ _ ⟨(Sep.m6 (Sep.m6 (Sep.m4 (Sep.m6 (Sep.m6 (Sep.m2 (Sep.m2 hS232))))))), by rw [andF hg235]; simp only [B0, reduceIte, reduceEqDiff], f191, f192, f193,
              f194, f195, f196, f197, f198, rfl, by simp only [B0, reduceIte, reduceEqDiff, hg235], f199, f200, f201, f204, f203⟩
      rintro fr236 h253 ⟨hS254, f237, f238, f239, f240, f241, f242, f243, f244, f245, f246, f247, f248, f249, f250, f251, f252⟩
      simp only [List.drop_succ_cons, List.drop_zero]
      simp only [f237, run_mv, B0, reduceIte, reduceEqDiff]
      obtain ⟨v258, hx259, hF260⟩ := bind_some' hF207
      refine ops_j 5 (fun fr' h' => Sep h' (geL h.length) (c6 ++ (c10 ++ (c210 ++ (c26 ++ (c30 ++ (c218 ++ (c222 ++
          ([])))))))) ∧ fr' 108 = .bool v258 ∧ fr' 1 = lst cU8 v_1 ∧ fr' 5 = .int .i64 v2.1 ∧ fr' 6 = v5 ∧ fr' 7 = v9 ∧ fr' 8 = .ref [.int .i64 v18.1.Generation, v21, v25,
          v29] 0 ∧ fr' 14 = .int .i64 (i139 : Int) ∧ fr' 15 = .int .i64 s169 ∧ fr' 16 = .int .i64 s170 ∧ fr' 17 = .int .i64 (i174 : Int) ∧ fr' 82 = .int .i64
          (List.length v2.2.1 : Int) ∧ fr' 83 = .int .i64 (i139 : Int) ∧ fr' 87 = v21 ∧ fr' 88 = .int .i64 (List.length s136 : Int) ∧ fr' 89 = .int .i64 (i174 : Int))
          (fun Q255 hN256 => ?_) ?_
      · simp only [List.take_succ_cons, List.take_zero]
        simp only [run_guard (g := 103), B0, reduceIte, reduceEqDiff]
        refine guard_split (t := (x205.In && (decide (x205.Generation = v18.1.Generation)))) (fun hg257 => ?_) (fun hg257 => ?_)
        · rw [iteT hg257] at hx259
          simp only [hg257, run_guard (g := 103), guard_true, f247, run_fa, put1_some, Nat.reduceAdd, Nat.zero_add, Nat.add_zero, xfa_ref, run_ld, B0, reduceIte, reduceEqDiff]
          refine put1_eq (v := v217) rfl ?_
          obtain ⟨v261, hx262, hF263⟩ := bind_some' hx259
          simp only [hg257, run_guard (g := 103), guard_true, f243, run_mv, run_call, B0, reduceIte, reduceEqDiff]
          refine call1 rfl (mapM1 (SlF.snap hv219 (Sep.m5 hS254) rfl (fun _ => rfl) (fun _ => rfl)) (mapM1 snap_int mapM0)) (laws_has_x (fun b hb => decide_eq_true hb) x205.Share
              (i139 : Int) v261 hx262) ?_
          simp only [hg257, run_pick, put1_some, xpick_t, run_ops_nil, run_nil, B0, reduceIte, reduceEqDiff]
          have e264 := some_inj hF263
          exact hN256 _ _ ⟨(Sep.m6 (Sep.m6 (Sep.m6 (Sep.m6 (Sep.m6 (Sep.m6 (Sep.m6 hS254))))))), by rw [← e264]; simp only [B0, reduceIte, reduceEqDiff], f238, f239, f240, f241,
              f242, f243, f244, f245, f246, f248, f249, f250, f251, f252⟩
        · rw [iteF hg257] at hx259
          simp only [hg257, run_guard (g := 103), guard_off, run_pick, put1_some, xpick_f, run_ops_nil, run_nil, B0, reduceIte, reduceEqDiff]
          have e265 := some_inj hx259
          exact hN256 _ _ ⟨(Sep.m6 (Sep.m6 (Sep.m6 (Sep.m6 (Sep.m6 (Sep.m6 (Sep.m6 hS254))))))), by rw [← e265]; simp only [B0, reduceIte, reduceEqDiff], f238, f239, f240, f241,
              f242, f243, f244, f245, f246, f248, f249, f250, f251, f252⟩
      rintro fr266 h282 ⟨hS283, f267, f268, f269, f270, f271, f272, f273, f274, f275, f276, f277, f278, f279, f280, f281⟩
      simp only [List.drop_succ_cons, List.drop_zero]
      simp only [run_ops_nil, x3_4, f267, run_cond, B0, reduceIte, reduceEqDiff]
      refine cond_split (t := v258) (fun hc284 => ?_) (fun hc284 => ?_)
      · rw [iteT hc284] at hF260
        simp only [x3_3, run_seq, run_reg, f274, run_mv, run_bin, put1_some, xadd, run_ops_nil, f276, run_nil, B0, reduceIte, reduceEqDiff]
        obtain ⟨c285, hv286, hS287⟩ := SlG.cls0 (c := c210) (os := c218 ++ (c222)) hv213 rfl hx206 hk_nil (Reader.RI (x := x205) hv219 hv223) (Sep.ni2 (c1 := c218) (c2 := c222)
            (Sep.m4 (Sep.m6 (Sep.m6 hS283))))
        have hv288 := SlG.toN hv286
        have e289 := some_inj hF260
        exact hN183 _ _ _ e289.symm ⟨c285, f268, f269, f270, f271, f272, f273, rfl, rfl, f277, f278, f279, hv288, (Sep.m4 (Sep.m4 (Sep.m2 (Sep.m4 (Sep.m4 hS287)))))⟩ (f281) (f280)
      rw [iteF hc284] at hF260
      simp only [run_skip, run_nil, B0, reduceIte, reduceEqDiff]
      obtain ⟨c290, hv291, hS292⟩ := SlG.cls0 (c := c210) (os := c218 ++ (c222)) hv213 rfl hx206 hk_nil (Reader.RI (x := x205) hv219 hv223) (Sep.ni2 (c1 := c218) (c2 := c222)
          (Sep.m4 (Sep.m6 (Sep.m6 hS283))))
      have hv293 := SlG.toN hv291
      have e294 := some_inj hF260
      exact hN183 _ _ _ e294.symm ⟨c290, f268, f269, f270, f271, f272, f273, f274, f275, f277, f278, f279, hv293, (Sep.m4 (Sep.m4 (Sep.m2 (Sep.m4 (Sep.m4 hS292)))))⟩ (f281) (f280)
    rintro ⟨s296, s297, s298⟩ fr301 h302 rfl ⟨c299, f304, f305, f306, f307, f308, f309, f310, f311, f312, f313, f314, hv300, hS303⟩
    dsimp only [jnO] at hk179
    dsimp only at *
    unfold laws_FnReaders_j1 at hk179
    simp only [x3_10, run_seq, run_reg, f308, run_ld, B0, reduceIte, reduceEqDiff]
    refine put1_eq (v := .agg [.int .i64 v18.1.Generation, v21, v25, v29]) rfl ?_
    obtain ⟨v315, hx316, hF317⟩ := bind_some' hk179
    simp only [f309, run_mv, run_call, B0, reduceIte, reduceEqDiff]
    refine call1 rfl (mapM1 (snap_agg (mapM1 snap_int (mapM1 (SlN.snap hv300 _ (Sep.m2 hS303) rfl Reader.RO) (mapM1 (SlF.snap hv27 (Sep.m3 hS303) rfl (fun _ => rfl)
        (fun _ => rfl)) (mapM1 (SlF.snap hv31 (Sep.m4 hS303) rfl (fun _ => rfl) (fun _ => rfl)) mapM0))))) (mapM1 snap_int mapM0)) (impl_OwnerOf_x (fun b hb => decide_eq_true hb)
        (Readers_.mk v18.1.Generation s298 v18.1.Committed v18.1.Ends) (i139 : Int) v315 hx316) ?_
    simp only [run_mv, run_ext, put1_some, xext_0, xext_1, run_ops_nil, x3_9, run_seq, run_reg, f310, run_bin, xgtr, B0, reduceIte, reduceEqDiff]
    refine ops_j 5 (fun fr' h' => Sep h' (geL h.length) (c6 ++ (c10 ++ (c299 ++ (c26 ++ (c30 ++ ([])))))) ∧ fr' 126 = .bool ((decide ((1 : Int) < s296)) || (!(v315.2 == (decide
        (s296 = 1))))) ∧ fr' 1 = lst cU8 v_1 ∧ fr' 5 = .int .i64 v2.1 ∧ fr' 6 = v5 ∧ fr' 7 = v9 ∧ fr' 8 = .ref [.int .i64 v18.1.Generation, v21, v25,
        v29] 0 ∧ fr' 16 = .int .i64 s297 ∧ fr' 19 = .int .i64 v315.1 ∧ fr' 20 = .bool v315.2 ∧ fr' 82 = .int .i64 (List.length v2.2.1 : Int) ∧ fr' 83 = .int .i64 (i139 : Int))
        (fun Q318 hN319 => ?_) ?_
    · simp only [List.take_succ_cons, List.take_zero]
      simp only [run_guard (g := 121), B0, reduceIte, reduceEqDiff]
      refine guard_split (t := (decide ((1 : Int) < s296))) (fun hg320 => ?_) (fun hg320 => ?_)
      · simp only [hg320, run_guard (g := 121), guard_off', run_pick, put1_some, xpick_t, run_ops_nil, run_nil, B0, reduceIte, reduceEqDiff]
        exact hN319 _ _ ⟨(Sep.m4 (Sep.m4 (Sep.m4 (Sep.m4 (Sep.m4 hS303))))), by rw [orT hg320]; simp only [B0, reduceIte, reduceEqDiff], f304, f305, f306, f307, f308, f311, rfl,
            rfl, f312, f313⟩
      · simp only [hg320, run_guard (g := 121), guard_false, run_mv, f310, run_bin, put1_some, xeql, run_eqb, xeqb_t, run_pick, xpick_f, run_ops_nil, run_nil, B0, reduceIte,
          reduceEqDiff]
        exact hN319 _ _ ⟨(Sep.m4 (Sep.m4 (Sep.m4 (Sep.m4 (Sep.m4 hS303))))), by rw [orF hg320]; simp only [B0, reduceIte, reduceEqDiff], f304, f305, f306, f307, f308, f311, rfl,
            rfl, f312, f313⟩
    rintro fr321 h333 ⟨hS334, f322, f323, f324, f325, f326, f327, f328, f329, f330, f331, f332⟩
    simp only [List.drop_succ_cons, List.drop_zero]
    simp only [f322, run_mv, B0, reduceIte, reduceEqDiff]
    refine ops_j 7 (fun fr' h' => Sep h' (geL h.length) (c6 ++ (c10 ++ (c299 ++ (c26 ++ (c30 ++ ([])))))) ∧ fr' 134 = .bool (((decide ((1 : Int) < s296)) || (!(v315.2 == (decide
        (s296 = 1))))) || (v315.2 && (decide
        (v315.1 ≠ s297)))) ∧ fr' 1 = lst cU8 v_1 ∧ fr' 5 = .int .i64 v2.1 ∧ fr' 6 = v5 ∧ fr' 7 = v9 ∧ fr' 8 = .ref [.int .i64 v18.1.Generation, v21, v25,
        v29] 0 ∧ fr' 82 = .int .i64 (List.length v2.2.1 : Int) ∧ fr' 83 = .int .i64 (i139 : Int)) (fun Q335 hN336 => ?_) ?_
    · simp only [List.take_succ_cons, List.take_zero]
      simp only [run_guard (g := 127), B0, reduceIte, reduceEqDiff]
      refine guard_split (t := ((decide ((1 : Int) < s296)) || (!(v315.2 == (decide (s296 = 1)))))) (fun hg337 => ?_) (fun hg337 => ?_)
      · simp only [hg337, run_guard (g := 127), guard_off', run_guard (g := 129), guard_tup, run_pick, put1_some, xpick_t, run_ops_nil, run_nil, B0, reduceIte, reduceEqDiff]
        exact hN336 _ _ ⟨(Sep.m4 (Sep.m4 (Sep.m4 (Sep.m4 (Sep.m4 hS334))))), by rw [orT hg337]; simp only [B0, reduceIte, reduceEqDiff], f323, f324, f325, f326, f327, f331, f332⟩
      · simp only [hg337, run_guard (g := 127), guard_false, f330, run_mv, B0, reduceIte, reduceEqDiff]
        refine ops_j 4 (fun fr' h' => Sep h' (geL h.length) (c6 ++ (c10 ++ (c299 ++ (c26 ++ (c30 ++ ([])))))) ∧ fr' 133 = .bool (v315.2 && (decide
            (v315.1 ≠ s297))) ∧ fr' 1 = lst cU8 v_1 ∧ fr' 5 = .int .i64 v2.1 ∧ fr' 6 = v5 ∧ fr' 7 = v9 ∧ fr' 8 = .ref [.int .i64 v18.1.Generation, v21, v25,
            v29] 0 ∧ fr' 82 = .int .i64 (List.length v2.2.1 : Int) ∧ fr' 83 = .int .i64 (i139 : Int) ∧ fr' 127 = .bool ((decide ((1 : Int) < s296)) || (!(v315.2 == (decide
            (s296 = 1)))))) (fun Q338 hN339 => ?_) ?_
        · simp only [List.take_succ_cons, List.take_zero]
          simp only [run_guard (g := 129), B0, reduceIte, reduceEqDiff]
          refine guard_split (t := v315.2) (fun hg340 => ?_) (fun hg340 => ?_)
          · simp only [hg340, run_guard (g := 129), guard_true, f329, run_mv, f328, run_bin, put1_some, xneq, hg337, run_guard (g := 127), guard_false, run_pick, xpick_t,
              run_ops_nil, run_nil, B0, reduceIte, reduceEqDiff]
            exact hN339 _ _ ⟨(Sep.m4 (Sep.m4 (Sep.m4 (Sep.m4 (Sep.m4 hS334))))), by rw [andT hg340]; simp only [B0, reduceIte, reduceEqDiff], f323, f324, f325, f326, f327, f331,
                f332, by simp only [hg337, B0, reduceIte, reduceEqDiff]⟩
          · simp only [hg340, run_guard (g := 129), guard_off, hg337, run_guard (g := 127), guard_false, run_pick, put1_some, xpick_f, run_ops_nil, run_nil, B0, reduceIte,
              reduceEqDiff]
            exact hN339 _ _ ⟨(Sep.m4 (Sep.m4 (Sep.m4 (Sep.m4 (Sep.m4 hS334))))), by rw [andF hg340]; simp only [B0, reduceIte, reduceEqDiff], f323, f324, f325, f326, f327, f331,
                f332, by simp only [hg337, B0, reduceIte, reduceEqDiff]⟩
        rintro fr341 h351 ⟨hS352, f342, f343, f344, f345, f346, f347, f348, f349, f350⟩
        simp only [List.drop_succ_cons, List.drop_zero]
        simp only [f350, hg337, run_pick, put1_some, xpick_f, f342, run_ops_nil, run_nil, B0, reduceIte, reduceEqDiff]
        exact hN336 _ _ ⟨(Sep.m4 (Sep.m4 (Sep.m4 (Sep.m4 (Sep.m4 hS352))))), by rw [orF hg337]; simp only [B0, reduceIte, reduceEqDiff], f343, f344, f345, f346, f347, f348, f349⟩
    rintro fr353 h362 ⟨hS363, f354, f355, f356, f357, f358, f359, f360, f361⟩
    simp only [List.drop_succ_cons, List.drop_zero]
    simp only [run_ops_nil, f354, run_cond, B0, reduceIte, reduceEqDiff]
    refine cond_split (t := (((decide ((1 : Int) < s296)) || (!(v315.2 == (decide (s296 = 1))))) || (v315.2 && (decide (v315.1 ≠ s297))))) (fun hc364 => ?_) (fun hc364 => ?_)
    · rw [iteT hc364] at hF317
      simp only [run_seq, run_reg, run_mv, run_ops_nil, run_ret, B0, reduceIte, reduceEqDiff]
      have e365 := some_inj hF317
      subst e365
      have ho366 := hr146 _ rfl
      have hk367 := hk144
      rw [ho366] at hk367
      dsimp only [jnO] at hk367
      apply hR150
      have he := some_inj hk367
      subst he
      simp only [end_ret1, B0, reduceIte, reduceEqDiff]
      exact rfl
    rw [iteF hc364] at hF317
    simp only [run_skip, run_nil, B0, reduceIte, reduceEqDiff]
    have e368 := some_inj hF317
    exact hN148 _ _ _ e368.symm ⟨c299, f355, f356, f357, f358, f359, hv300, (Sep.m4 (Sep.m4 (Sep.m4 (Sep.m4 (Sep.m4 hS363)))))⟩ (f361) (f360)
  rintro s371 fr374 h375 rfl ⟨c372, f377, f378, f379, f380, f381, hv373, hS376⟩
  dsimp only [jnO] at hk144
  unfold laws_FnReaders_j3 at hk144
  obtain ⟨v382, hx383, hF384⟩ := bind_some' hk144
  simp only [x3_26, run_seq, run_reg, f377, run_mv, run_call, B0, reduceIte, reduceEqDiff]
  refine call1 rfl (mapM1 snap_lst mapM0) (laws_numberOf_x (fun b hb => decide_eq_true hb) v_1 v382 hx383) ?_
  obtain ⟨hp385, hF386⟩ := ck_some hF384
  obtain ⟨l387, hx388, hF389⟩ := bind_some' hF386
  simp only [f380, run_mv, run_len, put1_some, SlF.plen hv11, run_bin, xadd, xrem_nz (n := (IntKind.wrap .i64 ((List.length v2.2.2 : Int) + 1))) hp385, run_ops_nil, x3_25,
      run_seq, run_reg, f378, f379, run_slc, Option.map_some, Option.map_none, B0, reduceIte, reduceEqDiff]
  obtain ⟨v390, he391, hv392⟩ := SlF.trunc (f1 := GroupStep.cells) hv11 hx388 (fun _ => rfl) (Sep.m1 hS376)
  refine put1_eq he391 ?_
  obtain ⟨v394, hx395, hF396⟩ := bind_some' hF389
  simp only [run_call, B0, reduceIte, reduceEqDiff]
  refine call2 rfl hS376 (mapM1 snap_int (mapM1 (SlF.snap hv7 hS376 rfl (fun _ => rfl) (fun _ => rfl)) (mapM1 (SlF.snap hv392 (Sep.m1 hS376) rfl (fun _ => rfl)
      (fun _ => rfl)) mapM0))) (impl_PlayReaders_x (fun b hb => decide_eq_true hb) v2.1 v2.2.1 l387 v394 hx395) ?_
  rintro _ h413 ⟨v397, c398, v401, c402, v405, c406, v409, c410, rfl, hv399, hv403, hv407, hv411, hS414⟩
  refine ⟨_, free_t (all_c (free2_a (all_c rfl (all_c (SlN.free1 hv399) (all_c (SlF.free1 hv403) (all_c (SlF.free1 hv407) all_n))))) (all_c (free2_1 (SlF.free1 hv411))
      (all_c rfl all_n))), hS414, (pf_app (SlN.pf hv399 Reader.RO) (pf_app (SlF.pf hv403 (fun _ => rfl)) (pf_app (SlF.pf hv407 (fun _ => rfl)) (pf_app (SlF.pf hv411
      (fun _ => rfl)) pf_nil)))), fun h415 hS416 => ?_⟩
  have hS417 : Sep h415 (geL h.length) (c398 ++ (c402 ++ (c406 ++ (c410 ++ (c6 ++ (c10 ++ (c372 ++ (c26 ++ (c30 ++ ([])))))))))) := by simpa only [List.append_assoc,
      List.nil_append] using hS416
  simp only [run_mv, run_ext, put1_some, xext_0, xext_1, xext_2, run_new, B0, reduceIte, reduceEqDiff]
  refine put2_newC hS417 (fun b418 h419 hS420 => ?_)
  simp only [run_st, B0, reduceIte, reduceEqDiff]
  refine put2_stCx (us := [.int .i64 v394.1.Generation, v397, v401, v405]) rfl (cs' := [.int .i64 v394.1.Generation, v397, v401,
      v405]) hS420 hW rfl (all_c rfl (all_c (SlN.one hv399) (all_c (SlF.one hv403) (all_c (SlF.one hv407) all_n)))) (Nat.le_of_ble_eq_true rfl) rfl (fun h422 hS423 => ?_)
  simp only [run_mv, run_ops_nil, B0, reduceIte, reduceEqDiff]
  refine frz_stepC hS423 hW (by simp only [B0, reduceIte, reduceEqDiff]) (fun h424 hS425 => ?_)
  simp only [run_frz_nil, x3_24, run_seq, run_reg, run_ld, B0, reduceIte, reduceEqDiff]
  refine put1_eq (v := .agg [.int .i64 v394.1.Generation, v397, v401, v405]) rfl ?_
  obtain ⟨v426, hx427, hF428⟩ := bind_some' hF396
  simp only [run_call, B0, reduceIte, reduceEqDiff]
  refine call1 rfl (mapM1 (snap_agg (mapM1 snap_int (mapM1 (SlN.snap hv399 _ hS425 rfl Reader.RO) (mapM1 (SlF.snap hv403 (Sep.m1 hS425) rfl (fun _ => rfl) (fun _ => rfl)) (mapM1
      (SlF.snap hv407 (Sep.m2 hS425) rfl (fun _ => rfl) (fun _ => rfl)) mapM0))))) mapM0) (impl_LeftToRead_x (fun b hb => decide_eq_true hb) v394.1 v426 hx427) ?_
  simp only [run_mv, run_ext, put1_some, xext_0, xext_1, run_ops_nil, x3_23, run_seq, run_reg, f381, run_ld, B0, reduceIte, reduceEqDiff]
  refine put1_eq (v := .agg [.int .i64 v18.1.Generation, v21, v25, v29]) rfl ?_
  obtain ⟨v429, hx430, hF431⟩ := bind_some' hF428
  simp only [run_call, B0, reduceIte, reduceEqDiff]
  refine call1 rfl (mapM1 (snap_agg (mapM1 snap_int (mapM1 (SlN.snap hv373 _ (Sep.m6 hS425) rfl Reader.RO) (mapM1 (SlF.snap hv27 (Sep.m7 hS425) rfl (fun _ => rfl) (fun _ => rfl))
      (mapM1 (SlF.snap hv31 (Sep.m8 hS425) rfl (fun _ => rfl) (fun _ => rfl)) mapM0))))) mapM0) (impl_LeftToRead_x (fun b hb => decide_eq_true hb)
      (Readers_.mk v18.1.Generation s371 v18.1.Committed v18.1.Ends) v429 hx430) ?_
  simp only [run_mv, run_ext, put1_some, xext_0, xext_1, run_ops_nil, x3_22, run_seq, run_reg, run_un, xnot, B0, reduceIte, reduceEqDiff]
  refine ops_j 3 (fun fr' h' => Sep h' (geL h.length) (c6 ++ (c372 ++ (c26 ++ (c30 ++ (c398 ++ (c402 ++ (c406 ++ ([])))))))) ∧ fr' 167 = .bool ((!v394.2.2) ||
      (!v426.2)) ∧ fr' 6 = v5 ∧ fr' 8 = .ref [.int .i64 v18.1.Generation, v21, v25, v29] 0 ∧ fr' 22 = .ref [.int .i64 v394.1.Generation, v397, v401,
      v405] 0 ∧ fr' 25 = .int .i64 v426.1 ∧ fr' 27 = .int .i64 v429.1 ∧ fr' 28 = .bool v429.2) (fun Q432 hN433 => ?_) ?_
  · simp only [List.take_succ_cons, List.take_zero]
    simp only [run_guard (g := 164), B0, reduceIte, reduceEqDiff]
    refine guard_split (t := (!v394.2.2)) (fun hg434 => ?_) (fun hg434 => ?_)
    · simp only [hg434, run_guard (g := 164), guard_off', run_pick, put1_some, xpick_t, run_ops_nil, run_nil, B0, reduceIte, reduceEqDiff]
      exact hN433 _ _ ⟨(Sep.m6 (Sep.m6 (Sep.m6 (Sep.m6 (Sep.m2 (Sep.m2 (Sep.m2 (Sep.dc (Sep.m4 (Sep.dc (Sep.m3 hS425))))))))))), by rw [orT hg434]; simp only [B0, reduceIte,
          reduceEqDiff], f379, f381, rfl, rfl, rfl, rfl⟩
    · simp only [hg434, run_guard (g := 164), guard_false, run_mv, run_un, put1_some, xnot, run_pick, xpick_f, run_ops_nil, run_nil, B0, reduceIte, reduceEqDiff]
      exact hN433 _ _ ⟨(Sep.m6 (Sep.m6 (Sep.m6 (Sep.m6 (Sep.m2 (Sep.m2 (Sep.m2 (Sep.dc (Sep.m4 (Sep.dc (Sep.m3 hS425))))))))))), by rw [orF hg434]; simp only [B0, reduceIte,
          reduceEqDiff], f379, f381, rfl, rfl, rfl, rfl⟩
  rintro fr435 h443 ⟨hS444, f436, f437, f438, f439, f440, f441, f442⟩
  simp only [List.drop_succ_cons, List.drop_zero]
  simp only [f436, run_mv, B0, reduceIte, reduceEqDiff]
  refine ops_j 3 (fun fr' h' => Sep h' (geL h.length) (c6 ++ (c372 ++ (c26 ++ (c30 ++ (c398 ++ (c402 ++ (c406 ++ ([])))))))) ∧ fr' 171 = .bool (((!v394.2.2) || (!v426.2)) ||
      (!v429.2)) ∧ fr' 6 = v5 ∧ fr' 8 = .ref [.int .i64 v18.1.Generation, v21, v25, v29] 0 ∧ fr' 22 = .ref [.int .i64 v394.1.Generation, v397, v401,
      v405] 0 ∧ fr' 25 = .int .i64 v426.1 ∧ fr' 27 = .int .i64 v429.1) (fun Q445 hN446 => ?_) ?_
  · simp only [List.take_succ_cons, List.take_zero]
    simp only [run_guard (g := 168), B0, reduceIte, reduceEqDiff]
    refine guard_split (t := ((!v394.2.2) || (!v426.2))) (fun hg447 => ?_) (fun hg447 => ?_)
    · simp only [hg447, run_guard (g := 168), guard_off', run_pick, put1_some, xpick_t, run_ops_nil, run_nil, B0, reduceIte, reduceEqDiff]
      exact hN446 _ _ ⟨(Sep.m6 (Sep.m6 (Sep.m6 (Sep.m6 (Sep.m6 (Sep.m6 (Sep.m6 hS444))))))), by rw [orT hg447]; simp only [B0, reduceIte, reduceEqDiff], f437, f438, f439, f440,
          f441⟩
    · simp only [hg447, run_guard (g := 168), guard_false, f442, run_mv, run_un, put1_some, xnot, run_pick, xpick_f, run_ops_nil, run_nil, B0, reduceIte, reduceEqDiff]
      exact hN446 _ _ ⟨(Sep.m6 (Sep.m6 (Sep.m6 (Sep.m6 (Sep.m6 (Sep.m6 (Sep.m6 hS444))))))), by rw [orF hg447]; simp only [B0, reduceIte, reduceEqDiff], f437, f438, f439, f440,
          f441⟩
  rintro fr448 h455 ⟨hS456, f449, f450, f451, f452, f453, f454⟩
  simp only [List.drop_succ_cons, List.drop_zero]
  simp only [f449, run_mv, B0, reduceIte, reduceEqDiff]
  refine ops_j 4 (fun fr' h' => Sep h' (geL h.length) (c6 ++ (c372 ++ (c26 ++ (c30 ++ (c398 ++ (c402 ++ (c406 ++ ([])))))))) ∧ fr' 176 = .bool ((((!v394.2.2) || (!v426.2)) ||
      (!v429.2)) || (decide (v426.1 < v429.1))) ∧ fr' 6 = v5 ∧ fr' 8 = .ref [.int .i64 v18.1.Generation, v21, v25, v29] 0 ∧ fr' 22 = .ref [.int .i64 v394.1.Generation, v397, v401,
      v405] 0) (fun Q457 hN458 => ?_) ?_
  · simp only [List.take_succ_cons, List.take_zero]
    simp only [run_guard (g := 172), B0, reduceIte, reduceEqDiff]
    refine guard_split (t := (((!v394.2.2) || (!v426.2)) || (!v429.2))) (fun hg459 => ?_) (fun hg459 => ?_)
    · simp only [hg459, run_guard (g := 172), guard_off', run_pick, put1_some, xpick_t, run_ops_nil, run_nil, B0, reduceIte, reduceEqDiff]
      exact hN458 _ _ ⟨(Sep.m6 (Sep.m6 (Sep.m6 (Sep.m6 (Sep.m6 (Sep.m6 (Sep.m6 hS456))))))), by rw [orT hg459]; simp only [B0, reduceIte, reduceEqDiff], f450, f451, f452⟩
    · simp only [hg459, run_guard (g := 172), guard_false, f454, run_mv, f453, run_bin, put1_some, xgtr, run_pick, xpick_f, run_ops_nil, run_nil, B0, reduceIte, reduceEqDiff]
      exact hN458 _ _ ⟨(Sep.m6 (Sep.m6 (Sep.m6 (Sep.m6 (Sep.m6 (Sep.m6 (Sep.m6 hS456))))))), by rw [orF hg459]; simp only [B0, reduceIte, reduceEqDiff], f450, f451, f452⟩
  rintro fr460 h465 ⟨hS466, f461, f462, f463, f464⟩
  simp only [List.drop_succ_cons, List.drop_zero]
  simp only [run_ops_nil, f461, run_cond, B0, reduceIte, reduceEqDiff]
  refine cond_split (t := ((((!v394.2.2) || (!v426.2)) || (!v429.2)) || (decide (v426.1 < v429.1)))) (fun hc467 => ?_) (fun hc467 => ?_)
  · rw [iteT hc467] at hF431
    simp only [run_seq, run_reg, run_mv, run_ops_nil, run_ret, B0, reduceIte, reduceEqDiff]
    have he := some_inj hF431
    subst he
    simp only [end_ret1, B0, reduceIte, reduceEqDiff]
    exact rfl
  rw [iteF hc467] at hF431
  simp only [run_skip, x3_21, run_seq, run_reg, f462, run_mv, run_len, put1_some, SlF.plen hv7, run_ops_nil, B0, reduceIte, reduceEqDiff]
  obtain ⟨oc470, hX472, hk473⟩ := jn_some hF431
  simp only [x3_20]
  refine rangeN_j (σ := Unit) (fun i468 _ => laws_FnReaders_b3 v18 v394 i468 ) (fun s fr' h' => fr' 8 = .ref [.int .i64 v18.1.Generation, v21, v25,
      v29] 0 ∧ fr' 22 = .ref [.int .i64 v394.1.Generation, v397, v401, v405] 0 ∧ Sep h' (geL h.length) (c372 ++ (c26 ++ (c30 ++ (c398 ++ (c402 ++ (c406 ++ ([])))))))) hX472 ⟨f463,
      f464, (Sep.m5 (Sep.m5 (Sep.m5 (Sep.m5 (Sep.m5 (Sep.m5 (Sep.dc (hS466))))))))⟩ (by simp only [B0, reduceIte, reduceEqDiff]) (by simp only [B0, reduceIte,
      reduceEqDiff]) (fun _ _ _ h => h) rfl rfl (fun _ _ _ _ h => h) (fun _ _ _ _ h => h) (fun _ _ _ _ h => h) (by decide) ?_ ?_
  · rintro i468 _ fr482 h483 hx487 ⟨f485, f486, hS484⟩ f488 f489 oc471 hF474 hr475 Q476 hN477 hB481 hK478 hR479 hE480
    unfold laws_FnReaders_b3 at hF474
    simp only [x3_18, run_seq, run_reg, f488, run_mv, run_ops_nil, x3_17, run_draw, f486, d4_fa, put1d_some, Nat.reduceAdd, Nat.zero_add, Nat.add_zero, xfa_ref, d4_ld, B0,
        reduceIte, reduceEqDiff]
    refine put1d_eq (v := v401) rfl ?_
    obtain ⟨x490, hx491, hF492⟩ := bind_some' hF474
    simp only [d4_mv, put1d_some, d4_ia, B0, reduceIte, reduceEqDiff]
    obtain ⟨b493, hb494⟩ := SlF.isrow hv403 (geti_ne hx491)
    refine put1d_eq (SlF.ia hv403 hb494 hx491) ?_
    simp only [d4_ld, B0, reduceIte, reduceEqDiff]
    refine put1d_eq (v := .int .i64 x490) ((SlF.ld (o := 0) hv403 (Sep.m4 hS484) hb494 hx491 (fun _ => rfl) (Nat.le_of_ble_eq_true rfl)).trans rfl) ?_
    simp only [f485, d4_fa, put1d_some, Nat.reduceAdd, Nat.zero_add, Nat.add_zero, xfa_ref, d4_ld, B0, reduceIte, reduceEqDiff]
    refine put1d_eq (v := v25) rfl ?_
    obtain ⟨x495, hx496, hF497⟩ := bind_some' hF492
    simp only [d4_mv, put1d_some, d4_ia, B0, reduceIte, reduceEqDiff]
    obtain ⟨b498, hb499⟩ := SlF.isrow hv27 (geti_ne hx496)
    refine put1d_eq (SlF.ia hv27 hb499 hx496) ?_
    simp only [d4_ld, B0, reduceIte, reduceEqDiff]
    refine put1d_eq (v := .int .i64 x495) ((SlF.ld (o := 0) hv27 (Sep.m1 hS484) hb499 hx496 (fun _ => rfl) (Nat.le_of_ble_eq_true rfl)).trans rfl) ?_
    simp only [d4_bin, put1d_some, xgtr, run_draw_nil, run_cond, B0, reduceIte, reduceEqDiff]
    refine cond_split (t := (decide (x495 < x490))) (fun hc500 => ?_) (fun hc500 => ?_)
    · rw [iteT hc500] at hF497
      simp only [run_seq, run_reg, run_mv, run_ops_nil, run_ret, B0, reduceIte, reduceEqDiff]
      have e501 := some_inj hF497
      subst e501
      have ho502 := hr475 _ rfl
      have hk503 := hk473
      rw [ho502] at hk503
      dsimp only [jnO] at hk503
      apply hR479
      have he := some_inj hk503
      subst he
      simp only [end_ret1, B0, reduceIte, reduceEqDiff]
      exact rfl
    rw [iteF hc500] at hF497
    simp only [run_skip, run_nil, B0, reduceIte, reduceEqDiff]
    have e504 := some_inj hF497
    exact hN477 _ _ _ e504.symm ⟨f485, f486, (Sep.m5 (Sep.m5 (Sep.m5 (Sep.m5 (Sep.m5 (Sep.m5 hS484))))))⟩ (f488) (f489)
  rintro _ fr506 h507 rfl ⟨f509, f510, hS508⟩
  dsimp only [jnO] at hk473
  unfold laws_FnReaders_j2 at hk473
  simp only [run_seq, run_reg, run_mv, run_ops_nil, run_ret, B0, reduceIte, reduceEqDiff]
  have he := some_inj hk473
  subst he
  simp only [end_ret1, B0, reduceIte, reduceEqDiff]
  exact rfl
end Go.Proofs.Ytdhibknhejhfaaa.X
