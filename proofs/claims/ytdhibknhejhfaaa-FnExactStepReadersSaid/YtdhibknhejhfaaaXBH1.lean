/- The functions' code comes to what the plain functions say (1). -/
import Derived.Test.YtdhibknhejhfaaaXBF
import Derived.Test.YtdhibknhejhfaaaXBD
set_option linter.unusedVariables false
set_option linter.unusedSimpArgs false
set_option maxRecDepth 100000
namespace Go.Proofs.Ytdhibknhejhfaaa.X
open Go
open Nat (reduceEqDiff)
def Reader.R : Rep Reader := fun x cs os => ∃ (v2 : XV) (c2 : List Obj) (v3 : XV) (c3 : List Obj), SlF cI 1 3 v2 x.Share c2 ∧ SlF cI 1 3 v3 x.Read c3 ∧ cs = [.bool x.In,
    .int .i64 x.Generation, v2, v3] ∧ os = c2 ++ (c3)
theorem Reader.RI {x : Reader} {v2 : XV} {c2 : List Obj} (h2 : SlF cI 1 3 v2 x.Share c2) {v3 : XV} {c3 : List Obj} (h3 : SlF cI 1 3 v3 x.Read c3) : Reader.R x [.bool x.In,
    .int .i64 x.Generation, v2, v3] (c2 ++ (c3)) := ⟨v2, c2, v3, c3, h2, h3, rfl, rfl⟩
theorem Reader.RO : RepOk E.sz Reader.R Reader.cells 4 where
  len := fun {x cs os} H => by
    obtain ⟨v2, c2, v3, c3, h2, h3, rfl, rfl⟩ := H
    rfl
  flen := fun _ => rfl
  one := fun {x cs os} H => by
    obtain ⟨v2, c2, v3, c3, h2, h3, rfl, rfl⟩ := H
    exact (all_c rfl (all_c rfl (all_c (SlF.one h2) (all_c (SlF.one h3) all_n))))
  snap := fun {x cs os h lo S} m H hS => by
    obtain ⟨v2, c2, v3, c3, h2, h3, rfl, rfl⟩ := H
    have hS2 : Sep h lo (c2 ++ (c3 ++ S)) := (by simpa only [List.append_assoc] using hS)
    exact (mapM1 snap_bool (mapM1 snap_int (mapM1 (SlF.snap h2 hS2 rfl (fun _ => rfl) (fun _ => rfl)) (mapM1 (SlF.snap h3 (Sep.m1 hS2) rfl (fun _ => rfl) (fun _ => rfl)) mapM0))))
  cut := fun {x cs os h lo n0 keep S} m H hS hge => by
    obtain ⟨v2, c2, v3, c3, h2, h3, rfl, rfl⟩ := H
    have hS2 : Sep h lo (c2 ++ (c3 ++ S)) := (by simpa only [List.append_assoc] using hS)
    exact (mapM1 rfl (mapM1 rfl (mapM1 (SlF.cut h2 hS2 hge rfl (fun _ => rfl) (fun _ => rfl)) (mapM1 (SlF.cut h3 (Sep.m1 hS2) hge rfl (fun _ => rfl) (fun _ => rfl)) mapM0))))
  free := fun {x cs os} H => by
    obtain ⟨v2, c2, v3, c3, h2, h3, rfl, rfl⟩ := H
    exact (all_c rfl (all_c rfl (all_c (SlF.free1 h2) (all_c (SlF.free1 h3) all_n))))
  pf := fun {x cs os} H => by
    obtain ⟨v2, c2, v3, c3, h2, h3, rfl, rfl⟩ := H
    exact (pf_app (SlF.pf h2 (fun _ => rfl)) (SlF.pf h3 (fun _ => rfl)))
theorem laws_eqIntS_x {W : Nat → Bool} {h : Heap} (hW : ∀ b,
    h.length ≤ b → W b = true) (k : Nat) (a_0 : List Int) (b_1 : List Int) (r : Bool) (hF : laws_eqIntS k a_0 b_1 = some r) : Ret E W 22 [lst cI a_0,
    lst cI b_1] h (fun v h' => cut h.length h' E.sz false 9 v = some (.bool r)) := by
  refine Ret.of (fn := x22) rfl (Run.of ?_)
  unfold laws_eqIntS at hF
  have zf0 : argFr [lst cI a_0, lst cI b_1] 0 = lst cI a_0 := rfl
  have zf1 : argFr [lst cI a_0, lst cI b_1] 1 = lst cI b_1 := rfl
  generalize argFr [lst cI a_0, lst cI b_1] = fr0 at zf0 zf1 ⊢
  have hS : Sep h h.length [] := Sep.nil h
  simp only [x22, run_seq, run_reg, run_mv, run_ops_nil, x22_7, zf0, run_len, put1_some, xlen_lst, zf1, run_bin, xneq, run_cond, B0, reduceIte, reduceEqDiff]
  refine cond_split (t := (decide ((List.length a_0 : Int) ≠ (List.length b_1 : Int)))) (fun hc1 => ?_) (fun hc1 => ?_)
  · rw [iteT hc1] at hF
    simp only [run_seq, run_reg, run_mv, run_ops_nil, run_ret, B0, reduceIte, reduceEqDiff]
    have he := some_inj hF
    subst he
    simp only [end_ret1, B0, reduceIte, reduceEqDiff]
    exact rfl
  rw [iteF hc1] at hF
  simp only [run_skip, x22_6, run_seq, run_reg, run_mv, run_ops_nil, B0, reduceIte, reduceEqDiff]
  obtain ⟨oc6, hX8, hk9⟩ := jn_some hF
  simp only [x22_5]
  refine loopF_j (σ := Int) (fun s38 => laws_eqIntS_b1 a_0 b_1 s38) (fun s fr' h' => fr' 0 = lst cI a_0 ∧ fr' 1 = lst cI b_1 ∧ fr' 5 = .int .i64 s ∧ Sep h' h.length
      ([])) hX8 ⟨by simp only [zf0, B0, reduceIte, reduceEqDiff], by simp only [zf1, B0, reduceIte, reduceEqDiff], by simp only [B0, reduceIte, reduceEqDiff],
      hS⟩ (fun _ _ _ h => h) ?_ ?_
  · rintro s3 fr18 h19 ⟨f21, f22, f23, hS20⟩ oc7 hF10 hr11 Q12 hN13 hK14 hR15 hE16
    unfold laws_eqIntS_b1 at hF10
    simp only [x22_3, run_seq, run_reg, f23, run_mv, f21, run_len, put1_some, xlen_lst, run_bin, xlss, run_ops_nil, run_cond, B0, reduceIte, reduceEqDiff]
    refine cond_split (t := (decide (s3 < (List.length a_0 : Int)))) (fun hc25 => ?_) (fun hc25 => ?_)
    · rw [iteT hc25] at hF10
      obtain ⟨x26, hx27, hF28⟩ := bind_some' hF10
      simp only [run_skip, x22_2, run_seq, run_block, x22_1, run_draw, f21, d4_mv, put1d_some, f23, d4_ia, B0, reduceIte, reduceEqDiff]
      refine put1d_eq (v := .ref (cI x26) 0) (xia_lst hx27 rfl) ?_
      simp only [d4_ld, B0, reduceIte, reduceEqDiff]
      refine put1d_eq (v := .int .i64 x26) rfl ?_
      obtain ⟨x29, hx30, hF31⟩ := bind_some' hF28
      simp only [f22, d4_mv, put1d_some, f23, d4_ia, B0, reduceIte, reduceEqDiff]
      refine put1d_eq (v := .ref (cI x29) 0) (xia_lst hx30 rfl) ?_
      simp only [d4_ld, B0, reduceIte, reduceEqDiff]
      refine put1d_eq (v := .int .i64 x29) rfl ?_
      simp only [d4_bin, put1d_some, xneq, run_draw_nil, run_cond, B0, reduceIte, reduceEqDiff]
      refine cond_split (t := (decide (x26 ≠ x29))) (fun hc32 => ?_) (fun hc32 => ?_)
      · rw [iteT hc32] at hF31
        simp only [run_seq, run_reg, run_mv, run_ops_nil, run_ret, B0, reduceIte, reduceEqDiff]
        have e33 := some_inj hF31
        subst e33
        have ho34 := hr11 _ rfl
        have hk35 := hk9
        rw [ho34] at hk35
        dsimp only [jnO] at hk35
        apply hR15
        have he := some_inj hk35
        subst he
        simp only [end_ret1, B0, reduceIte, reduceEqDiff]
        exact rfl
      rw [iteF hc32] at hF31
      simp only [run_skip, run_blk, run_reg, f23, run_mv, run_bin, put1_some, xadd, run_ops_nil, run_nil, B0, reduceIte, reduceEqDiff]
      have e36 := some_inj hF31
      exact hN13 _ _ _ e36.symm ⟨by simp only [f21, B0, reduceIte, reduceEqDiff], by simp only [f22, B0, reduceIte, reduceEqDiff], by simp only [B0, reduceIte, reduceEqDiff], hS20⟩
    rw [iteF hc25] at hF10
    simp only [run_exit, out_code, out_nil, B0, reduceIte, reduceEqDiff]
    have e37 := some_inj hF10
    exact hK14 _ _ _ e37.symm ⟨by simp only [f21, B0, reduceIte, reduceEqDiff], by simp only [f22, B0, reduceIte, reduceEqDiff], by simp only [f23, B0, reduceIte, reduceEqDiff],
        hS20⟩
  rintro s39 fr40 h41 rfl ⟨f43, f44, f45, hS42⟩
  dsimp only [jnO] at hk9
  unfold laws_eqIntS_j1 at hk9
  simp only [run_seq, run_reg, run_mv, run_ops_nil, run_ret, B0, reduceIte, reduceEqDiff]
  have he := some_inj hk9
  subst he
  simp only [end_ret1, B0, reduceIte, reduceEqDiff]
  exact rfl
theorem laws_eqReader_x {W : Nat → Bool} {h : Heap} (hW : ∀ b,
    h.length ≤ b → W b = true) (k : Nat) (a_0 : Reader) (b_1 : Reader) (r : Bool) (hF : laws_eqReader k a_0 b_1 = some r) : Ret E W 84 [.agg [.bool a_0.In,
    .int .i64 a_0.Generation, lst cI a_0.Share, lst cI a_0.Read], .agg [.bool b_1.In, .int .i64 b_1.Generation, lst cI b_1.Share,
    lst cI b_1.Read]] h (fun v h' => cut h.length h' E.sz false 9 v = some (.bool r)) := by
  refine Ret.of (fn := x84) rfl (Run.of ?_)
  unfold laws_eqReader at hF
  have zf0 : argFr [.agg [.bool a_0.In, .int .i64 a_0.Generation, lst cI a_0.Share, lst cI a_0.Read], .agg [.bool b_1.In, .int .i64 b_1.Generation, lst cI b_1.Share,
      lst cI b_1.Read]] 0 = .agg [.bool a_0.In, .int .i64 a_0.Generation, lst cI a_0.Share, lst cI a_0.Read] := rfl
  have zf1 : argFr [.agg [.bool a_0.In, .int .i64 a_0.Generation, lst cI a_0.Share, lst cI a_0.Read], .agg [.bool b_1.In, .int .i64 b_1.Generation, lst cI b_1.Share,
      lst cI b_1.Read]] 1 = .agg [.bool b_1.In, .int .i64 b_1.Generation, lst cI b_1.Share, lst cI b_1.Read] := rfl
  generalize argFr [.agg [.bool a_0.In, .int .i64 a_0.Generation, lst cI a_0.Share, lst cI a_0.Read], .agg [.bool b_1.In, .int .i64 b_1.Generation, lst cI b_1.Share,
      lst cI b_1.Read]] = fr0 at zf0 zf1 ⊢
  have hS : Sep h h.length [] := Sep.nil h
  simp only [x84, run_seq, run_reg, run_box, zf0, B0, reduceIte, reduceEqDiff]
  refine put2_boxC (cs := [.bool a_0.In, .int .i64 a_0.Generation, lst cI a_0.Share, lst cI a_0.Read]) hS rfl rfl rfl (fun b1 h2 hS3 => ?_)
  simp only [run_box, zf1, B0, reduceIte, reduceEqDiff]
  refine put2_boxC (cs := [.bool b_1.In, .int .i64 b_1.Generation, lst cI b_1.Share, lst cI b_1.Read]) hS3 rfl rfl rfl (fun b5 h6 hS7 => ?_)
  simp only [run_mv, run_ops_nil, B0, reduceIte, reduceEqDiff]
  refine frz_stepC (Sep.m1 hS7) hW (by simp only [B0, reduceIte, reduceEqDiff]) (fun h9 hS10 => ?_)
  refine frz_stepC hS10 hW (by simp only [B0, reduceIte, reduceEqDiff]) (fun h11 hS12 => ?_)
  simp only [run_frz_nil, x84_4, run_seq, run_reg, run_fa, put1_some, Nat.reduceAdd, Nat.zero_add, Nat.add_zero, xfa_ref, run_ld, B0, reduceIte, reduceEqDiff]
  refine put1_eq (v := .bool a_0.In) rfl ?_
  simp only [run_fa, put1_some, Nat.reduceAdd, Nat.zero_add, Nat.add_zero, xfa_ref, run_ld, B0, reduceIte, reduceEqDiff]
  refine put1_eq (v := .bool b_1.In) rfl ?_
  simp only [run_eqb, put1_some, xeqb_t, run_ops_nil, run_cond, B0, reduceIte, reduceEqDiff]
  refine cond_split (t := (!(a_0.In == b_1.In))) (fun hc13 => ?_) (fun hc13 => ?_)
  · rw [iteT hc13] at hF
    simp only [run_seq, run_reg, run_mv, run_ops_nil, run_ret, B0, reduceIte, reduceEqDiff]
    have he := some_inj hF
    subst he
    simp only [end_ret1, B0, reduceIte, reduceEqDiff]
    exact rfl
  rw [iteF hc13] at hF
  simp only [run_skip, x84_3, run_seq, run_reg, run_fa, put1_some, Nat.reduceAdd, Nat.zero_add, Nat.add_zero, xfa_ref, run_ld, B0, reduceIte, reduceEqDiff]
  refine put1_eq (v := .int .i64 a_0.Generation) rfl ?_
  simp only [run_fa, put1_some, Nat.reduceAdd, Nat.zero_add, Nat.add_zero, xfa_ref, run_ld, B0, reduceIte, reduceEqDiff]
  refine put1_eq (v := .int .i64 b_1.Generation) rfl ?_
  simp only [run_bin, put1_some, xneq, run_ops_nil, run_cond, B0, reduceIte, reduceEqDiff]
  refine cond_split (t := (decide (a_0.Generation ≠ b_1.Generation))) (fun hc14 => ?_) (fun hc14 => ?_)
  · rw [iteT hc14] at hF
    simp only [run_seq, run_reg, run_mv, run_ops_nil, run_ret, B0, reduceIte, reduceEqDiff]
    have he := some_inj hF
    subst he
    simp only [end_ret1, B0, reduceIte, reduceEqDiff]
    exact rfl
  rw [iteF hc14] at hF
  simp only [run_skip, x84_2, run_seq, run_reg, run_fa, put1_some, Nat.reduceAdd, Nat.zero_add, Nat.add_zero, xfa_ref, run_ld, B0, reduceIte, reduceEqDiff]
  refine put1_eq (v := lst cI a_0.Share) rfl ?_
  simp only [run_fa, put1_some, Nat.reduceAdd, Nat.zero_add, Nat.add_zero, xfa_ref, run_ld, B0, reduceIte, reduceEqDiff]
  refine put1_eq (v := lst cI b_1.Share) rfl ?_
  obtain ⟨v15, hx16, hF17⟩ := bind_some' hF
  simp only [run_call, B0, reduceIte, reduceEqDiff]
  refine call1 rfl (mapM1 snap_lst (mapM1 snap_lst mapM0)) (laws_eqIntS_x (fun b hb => decide_eq_true hb) k a_0.Share b_1.Share v15 hx16) ?_
  simp only [run_un, put1_some, xnot, run_ops_nil, run_cond, B0, reduceIte, reduceEqDiff]
  refine cond_split (t := (!v15)) (fun hc18 => ?_) (fun hc18 => ?_)
  · rw [iteT hc18] at hF17
    simp only [run_seq, run_reg, run_mv, run_ops_nil, run_ret, B0, reduceIte, reduceEqDiff]
    have he := some_inj hF17
    subst he
    simp only [end_ret1, B0, reduceIte, reduceEqDiff]
    exact rfl
  rw [iteF hc18] at hF17
  simp only [run_skip, x84_1, run_seq, run_reg, run_fa, put1_some, Nat.reduceAdd, Nat.zero_add, Nat.add_zero, xfa_ref, run_ld, B0, reduceIte, reduceEqDiff]
  refine put1_eq (v := lst cI a_0.Read) rfl ?_
  simp only [run_fa, put1_some, Nat.reduceAdd, Nat.zero_add, Nat.add_zero, xfa_ref, run_ld, B0, reduceIte, reduceEqDiff]
  refine put1_eq (v := lst cI b_1.Read) rfl ?_
  obtain ⟨v19, hx20, hF21⟩ := bind_some' hF17
  simp only [run_call, B0, reduceIte, reduceEqDiff]
  refine call1 rfl (mapM1 snap_lst (mapM1 snap_lst mapM0)) (laws_eqIntS_x (fun b hb => decide_eq_true hb) k a_0.Read b_1.Read v19 hx20) ?_
  simp only [run_un, put1_some, xnot, run_ops_nil, run_cond, B0, reduceIte, reduceEqDiff]
  refine cond_split (t := (!v19)) (fun hc22 => ?_) (fun hc22 => ?_)
  · rw [iteT hc22] at hF21
    simp only [run_seq, run_reg, run_mv, run_ops_nil, run_ret, B0, reduceIte, reduceEqDiff]
    have he := some_inj hF21
    subst he
    simp only [end_ret1, B0, reduceIte, reduceEqDiff]
    exact rfl
  rw [iteF hc22] at hF21
  simp only [run_skip, run_seq, run_reg, run_mv, run_ops_nil, run_ret, B0, reduceIte, reduceEqDiff]
  have he := some_inj hF21
  subst he
  simp only [end_ret1, B0, reduceIte, reduceEqDiff]
  exact rfl
theorem laws_eqReaderS_x {W : Nat → Bool} {h : Heap} (hW : ∀ b,
    h.length ≤ b → W b = true) (k : Nat) (a_0 : List Reader) (b_1 : List Reader) (r : Bool) (hF : laws_eqReaderS k a_0 b_1 = some r) : Ret E W 59 [lst Reader.cells a_0,
    lst Reader.cells b_1] h (fun v h' => cut h.length h' E.sz false 9 v = some (.bool r)) := by
  refine Ret.of (fn := x59) rfl (Run.of ?_)
  unfold laws_eqReaderS at hF
  have zf0 : argFr [lst Reader.cells a_0, lst Reader.cells b_1] 0 = lst Reader.cells a_0 := rfl
  have zf1 : argFr [lst Reader.cells a_0, lst Reader.cells b_1] 1 = lst Reader.cells b_1 := rfl
  generalize argFr [lst Reader.cells a_0, lst Reader.cells b_1] = fr0 at zf0 zf1 ⊢
  have hS : Sep h h.length [] := Sep.nil h
  simp only [x59, run_seq, run_reg, run_mv, run_ops_nil, x59_7, zf0, run_len, put1_some, xlen_lst, zf1, run_bin, xneq, run_cond, B0, reduceIte, reduceEqDiff]
  refine cond_split (t := (decide ((List.length a_0 : Int) ≠ (List.length b_1 : Int)))) (fun hc1 => ?_) (fun hc1 => ?_)
  · rw [iteT hc1] at hF
    simp only [run_seq, run_reg, run_mv, run_ops_nil, run_ret, B0, reduceIte, reduceEqDiff]
    have he := some_inj hF
    subst he
    simp only [end_ret1, B0, reduceIte, reduceEqDiff]
    exact rfl
  rw [iteF hc1] at hF
  simp only [run_skip, x59_6, run_seq, run_reg, run_mv, run_ops_nil, B0, reduceIte, reduceEqDiff]
  obtain ⟨oc6, hX8, hk9⟩ := jn_some hF
  simp only [x59_5]
  refine loopF_j (σ := Int) (fun s41 => laws_eqReaderS_b1 k a_0 b_1 s41)
      (fun s fr' h' => fr' 0 = lst Reader.cells a_0 ∧ fr' 1 = lst Reader.cells b_1 ∧ fr' 5 = .int .i64 s ∧ Sep h' h.length ([])) hX8 ⟨by simp only [zf0, B0, reduceIte,
      reduceEqDiff], by simp only [zf1, B0, reduceIte, reduceEqDiff], by simp only [B0, reduceIte, reduceEqDiff], hS⟩ (fun _ _ _ h => h) ?_ ?_
  · rintro s3 fr18 h19 ⟨f21, f22, f23, hS20⟩ oc7 hF10 hr11 Q12 hN13 hK14 hR15 hE16
    unfold laws_eqReaderS_b1 at hF10
    simp only [x59_3, run_seq, run_reg, f23, run_mv, f21, run_len, put1_some, xlen_lst, run_bin, xlss, run_ops_nil, run_cond, B0, reduceIte, reduceEqDiff]
    refine cond_split (t := (decide (s3 < (List.length a_0 : Int)))) (fun hc25 => ?_) (fun hc25 => ?_)
    · rw [iteT hc25] at hF10
      obtain ⟨x26, hx27, hF28⟩ := bind_some' hF10
      simp only [run_skip, x59_2, run_seq, run_block, x59_1, run_draw, f21, d4_mv, put1d_some, f23, d4_ia, B0, reduceIte, reduceEqDiff]
      refine put1d_eq (v := .ref (Reader.cells x26) 0) (xia_lst hx27 rfl) ?_
      simp only [d4_ld, B0, reduceIte, reduceEqDiff]
      refine put1d_eq (v := .agg [.bool x26.In, .int .i64 x26.Generation, lst cI x26.Share, lst cI x26.Read]) rfl ?_
      obtain ⟨x29, hx30, hF31⟩ := bind_some' hF28
      simp only [f22, d4_mv, put1d_some, f23, d4_ia, B0, reduceIte, reduceEqDiff]
      refine put1d_eq (v := .ref (Reader.cells x29) 0) (xia_lst hx30 rfl) ?_
      simp only [d4_ld, B0, reduceIte, reduceEqDiff]
      refine put1d_eq (v := .agg [.bool x29.In, .int .i64 x29.Generation, lst cI x29.Share, lst cI x29.Read]) rfl ?_
      obtain ⟨v32, hx33, hF34⟩ := bind_some' hF31
      simp only [run_d3_call, B0, reduceIte, reduceEqDiff]
      refine call1d rfl (mapM1 (snap_agg (mapM1 snap_bool (mapM1 snap_int (mapM1 snap_lst (mapM1 snap_lst mapM0))))) (mapM1 (snap_agg (mapM1 snap_bool (mapM1 snap_int
          (mapM1 snap_lst (mapM1 snap_lst mapM0))))) mapM0)) (laws_eqReader_x (fun b hb => decide_eq_true hb) k x26 x29 v32 hx33) ?_
      simp only [d4_un, put1d_some, xnot, run_draw_nil, run_cond, B0, reduceIte, reduceEqDiff]
      refine cond_split (t := (!v32)) (fun hc35 => ?_) (fun hc35 => ?_)
      · rw [iteT hc35] at hF34
        simp only [run_seq, run_reg, run_mv, run_ops_nil, run_ret, B0, reduceIte, reduceEqDiff]
        have e36 := some_inj hF34
        subst e36
        have ho37 := hr11 _ rfl
        have hk38 := hk9
        rw [ho37] at hk38
        dsimp only [jnO] at hk38
        apply hR15
        have he := some_inj hk38
        subst he
        simp only [end_ret1, B0, reduceIte, reduceEqDiff]
        exact rfl
      rw [iteF hc35] at hF34
      simp only [run_skip, run_blk, run_reg, f23, run_mv, run_bin, put1_some, xadd, run_ops_nil, run_nil, B0, reduceIte, reduceEqDiff]
      have e39 := some_inj hF34
      exact hN13 _ _ _ e39.symm ⟨by simp only [f21, B0, reduceIte, reduceEqDiff], by simp only [f22, B0, reduceIte, reduceEqDiff], by simp only [B0, reduceIte, reduceEqDiff], hS20⟩
    rw [iteF hc25] at hF10
    simp only [run_exit, out_code, out_nil, B0, reduceIte, reduceEqDiff]
    have e40 := some_inj hF10
    exact hK14 _ _ _ e40.symm ⟨by simp only [f21, B0, reduceIte, reduceEqDiff], by simp only [f22, B0, reduceIte, reduceEqDiff], by simp only [f23, B0, reduceIte, reduceEqDiff],
        hS20⟩
  rintro s42 fr43 h44 rfl ⟨f46, f47, f48, hS45⟩
  dsimp only [jnO] at hk9
  unfold laws_eqReaderS_j1 at hk9
  simp only [run_seq, run_reg, run_mv, run_ops_nil, run_ret, B0, reduceIte, reduceEqDiff]
  have he := some_inj hk9
  subst he
  simp only [end_ret1, B0, reduceIte, reduceEqDiff]
  exact rfl
theorem laws_eqReaders_x {W : Nat → Bool} {h : Heap} (hW : ∀ b,
    h.length ≤ b → W b = true) (k : Nat) (a_0 : Readers_) (b_1 : Readers_) (r : Bool) (hF : laws_eqReaders k a_0 b_1 = some r) : Ret E W 20 [.agg [.int .i64 a_0.Generation,
    lst Reader.cells a_0.Readers, lst cI a_0.Committed, lst cI a_0.Ends], .agg [.int .i64 b_1.Generation, lst Reader.cells b_1.Readers, lst cI b_1.Committed,
    lst cI b_1.Ends]] h (fun v h' => cut h.length h' E.sz false 9 v = some (.bool r)) := by
  refine Ret.of (fn := x20) rfl (Run.of ?_)
  unfold laws_eqReaders at hF
  have zf0 : argFr [.agg [.int .i64 a_0.Generation, lst Reader.cells a_0.Readers, lst cI a_0.Committed, lst cI a_0.Ends], .agg [.int .i64 b_1.Generation,
      lst Reader.cells b_1.Readers, lst cI b_1.Committed, lst cI b_1.Ends]] 0 = .agg [.int .i64 a_0.Generation, lst Reader.cells a_0.Readers, lst cI a_0.Committed,
      lst cI a_0.Ends] := rfl
  have zf1 : argFr [.agg [.int .i64 a_0.Generation, lst Reader.cells a_0.Readers, lst cI a_0.Committed, lst cI a_0.Ends], .agg [.int .i64 b_1.Generation,
      lst Reader.cells b_1.Readers, lst cI b_1.Committed, lst cI b_1.Ends]] 1 = .agg [.int .i64 b_1.Generation, lst Reader.cells b_1.Readers, lst cI b_1.Committed,
      lst cI b_1.Ends] := rfl
  generalize argFr [.agg [.int .i64 a_0.Generation, lst Reader.cells a_0.Readers, lst cI a_0.Committed, lst cI a_0.Ends], .agg [.int .i64 b_1.Generation,
      lst Reader.cells b_1.Readers, lst cI b_1.Committed, lst cI b_1.Ends]] = fr0 at zf0 zf1 ⊢
  have hS : Sep h h.length [] := Sep.nil h
  simp only [x20, run_seq, run_reg, run_box, zf0, B0, reduceIte, reduceEqDiff]
  refine put2_boxC (cs := [.int .i64 a_0.Generation, lst Reader.cells a_0.Readers, lst cI a_0.Committed, lst cI a_0.Ends]) hS rfl rfl rfl (fun b1 h2 hS3 => ?_)
  simp only [run_box, zf1, B0, reduceIte, reduceEqDiff]
  refine put2_boxC (cs := [.int .i64 b_1.Generation, lst Reader.cells b_1.Readers, lst cI b_1.Committed, lst cI b_1.Ends]) hS3 rfl rfl rfl (fun b5 h6 hS7 => ?_)
  simp only [run_mv, run_ops_nil, B0, reduceIte, reduceEqDiff]
  refine frz_stepC (Sep.m1 hS7) hW (by simp only [B0, reduceIte, reduceEqDiff]) (fun h9 hS10 => ?_)
  refine frz_stepC hS10 hW (by simp only [B0, reduceIte, reduceEqDiff]) (fun h11 hS12 => ?_)
  simp only [run_frz_nil, x20_4, run_seq, run_reg, run_fa, put1_some, Nat.reduceAdd, Nat.zero_add, Nat.add_zero, xfa_ref, run_ld, B0, reduceIte, reduceEqDiff]
  refine put1_eq (v := .int .i64 a_0.Generation) rfl ?_
  simp only [run_fa, put1_some, Nat.reduceAdd, Nat.zero_add, Nat.add_zero, xfa_ref, run_ld, B0, reduceIte, reduceEqDiff]
  refine put1_eq (v := .int .i64 b_1.Generation) rfl ?_
  simp only [run_bin, put1_some, xneq, run_ops_nil, run_cond, B0, reduceIte, reduceEqDiff]
  refine cond_split (t := (decide (a_0.Generation ≠ b_1.Generation))) (fun hc13 => ?_) (fun hc13 => ?_)
  · rw [iteT hc13] at hF
    simp only [run_seq, run_reg, run_mv, run_ops_nil, run_ret, B0, reduceIte, reduceEqDiff]
    have he := some_inj hF
    subst he
    simp only [end_ret1, B0, reduceIte, reduceEqDiff]
    exact rfl
  rw [iteF hc13] at hF
  simp only [run_skip, x20_3, run_seq, run_reg, run_fa, put1_some, Nat.reduceAdd, Nat.zero_add, Nat.add_zero, xfa_ref, run_ld, B0, reduceIte, reduceEqDiff]
  refine put1_eq (v := lst Reader.cells a_0.Readers) rfl ?_
  simp only [run_fa, put1_some, Nat.reduceAdd, Nat.zero_add, Nat.add_zero, xfa_ref, run_ld, B0, reduceIte, reduceEqDiff]
  refine put1_eq (v := lst Reader.cells b_1.Readers) rfl ?_
  obtain ⟨v14, hx15, hF16⟩ := bind_some' hF
  simp only [run_call, B0, reduceIte, reduceEqDiff]
  refine call1 rfl (mapM1 snap_lst (mapM1 snap_lst mapM0)) (laws_eqReaderS_x (fun b hb => decide_eq_true hb) k a_0.Readers b_1.Readers v14 hx15) ?_
  simp only [run_un, put1_some, xnot, run_ops_nil, run_cond, B0, reduceIte, reduceEqDiff]
  refine cond_split (t := (!v14)) (fun hc17 => ?_) (fun hc17 => ?_)
  · rw [iteT hc17] at hF16
    simp only [run_seq, run_reg, run_mv, run_ops_nil, run_ret, B0, reduceIte, reduceEqDiff]
    have he := some_inj hF16
    subst he
    simp only [end_ret1, B0, reduceIte, reduceEqDiff]
    exact rfl
  rw [iteF hc17] at hF16
  simp only [run_skip, x20_2, run_seq, run_reg, run_fa, put1_some, Nat.reduceAdd, Nat.zero_add, Nat.add_zero, xfa_ref, run_ld, B0, reduceIte, reduceEqDiff]
  refine put1_eq (v := lst cI a_0.Committed) rfl ?_
  simp only [run_fa, put1_some, Nat.reduceAdd, Nat.zero_add, Nat.add_zero, xfa_ref, run_ld, B0, reduceIte, reduceEqDiff]
  refine put1_eq (v := lst cI b_1.Committed) rfl ?_
  obtain ⟨v18, hx19, hF20⟩ := bind_some' hF16
  simp only [run_call, B0, reduceIte, reduceEqDiff]
  refine call1 rfl (mapM1 snap_lst (mapM1 snap_lst mapM0)) (laws_eqIntS_x (fun b hb => decide_eq_true hb) k a_0.Committed b_1.Committed v18 hx19) ?_
  simp only [run_un, put1_some, xnot, run_ops_nil, run_cond, B0, reduceIte, reduceEqDiff]
  refine cond_split (t := (!v18)) (fun hc21 => ?_) (fun hc21 => ?_)
  · rw [iteT hc21] at hF20
    simp only [run_seq, run_reg, run_mv, run_ops_nil, run_ret, B0, reduceIte, reduceEqDiff]
    have he := some_inj hF20
    subst he
    simp only [end_ret1, B0, reduceIte, reduceEqDiff]
    exact rfl
  rw [iteF hc21] at hF20
  simp only [run_skip, x20_1, run_seq, run_reg, run_fa, put1_some, Nat.reduceAdd, Nat.zero_add, Nat.add_zero, xfa_ref, run_ld, B0, reduceIte, reduceEqDiff]
  refine put1_eq (v := lst cI a_0.Ends) rfl ?_
  simp only [run_fa, put1_some, Nat.reduceAdd, Nat.zero_add, Nat.add_zero, xfa_ref, run_ld, B0, reduceIte, reduceEqDiff]
  refine put1_eq (v := lst cI b_1.Ends) rfl ?_
  obtain ⟨v22, hx23, hF24⟩ := bind_some' hF20
  simp only [run_call, B0, reduceIte, reduceEqDiff]
  refine call1 rfl (mapM1 snap_lst (mapM1 snap_lst mapM0)) (laws_eqIntS_x (fun b hb => decide_eq_true hb) k a_0.Ends b_1.Ends v22 hx23) ?_
  simp only [run_un, put1_some, xnot, run_ops_nil, run_cond, B0, reduceIte, reduceEqDiff]
  refine cond_split (t := (!v22)) (fun hc25 => ?_) (fun hc25 => ?_)
  · rw [iteT hc25] at hF24
    simp only [run_seq, run_reg, run_mv, run_ops_nil, run_ret, B0, reduceIte, reduceEqDiff]
    have he := some_inj hF24
    subst he
    simp only [end_ret1, B0, reduceIte, reduceEqDiff]
    exact rfl
  rw [iteF hc25] at hF24
  simp only [run_skip, run_seq, run_reg, run_mv, run_ops_nil, run_ret, B0, reduceIte, reduceEqDiff]
  have he := some_inj hF24
  subst he
  simp only [end_ret1, B0, reduceIte, reduceEqDiff]
  exact rfl
theorem laws_markIntS_x {W : Nat → Bool} {h : Heap} {lo : Nat} {S0 : List Obj} (hW : ∀ b,
    lo ≤ b → W b = true) (k : Nat) (pv0 : XV) (pc0 : List Obj) (a_0 : List Int) (ph0 : SlF cI 1 3 pv0 a_0 pc0) (k_1 : Int) (r : Int × (List Int))
    (hF : laws_markIntS k a_0 k_1 = some r) (hS : Sep h lo (pc0 ++ (S0))) : Ret E W 24 [pv0, .int .i64 k_1] h (fun v h' => ∃ ic0,
    v = .int .i64 r.1 ∧ SlF cI 1 3 pv0 r.2 ic0 ∧ Sep h' lo (ic0 ++ (S0))) := by
  refine Ret.of (fn := x24) rfl (Run.of ?_)
  unfold laws_markIntS at hF
  have zf0 : argFr [pv0, .int .i64 k_1] 0 = pv0 := rfl
  have zf1 : argFr [pv0, .int .i64 k_1] 1 = .int .i64 k_1 := rfl
  generalize argFr [pv0, .int .i64 k_1] = fr0 at zf0 zf1 ⊢
  simp only [x24, run_seq, run_reg, run_mv, run_ops_nil, x24_6, B0, reduceIte, reduceEqDiff]
  obtain ⟨oc13, hX15, hk16⟩ := jn_some hF
  simp only [x24_5]
  refine loopF_j (σ := Int × Int × (List Int)) (fun s45 => laws_markIntS_b1 s45.1 s45.2.1 s45.2.2) (fun s fr' h' => ∃ c9,
      fr' 0 = pv0 ∧ fr' 1 = .int .i64 s.1 ∧ fr' 5 = .int .i64 s.2.1 ∧ SlF cI 1 3 pv0 s.2.2 c9 ∧ Sep h' lo (c9 ++ (S0))) hX15 ⟨pc0, by simp only [zf0, B0, reduceIte, reduceEqDiff],
      by simp only [zf1, B0, reduceIte, reduceEqDiff], by simp only [B0, reduceIte, reduceEqDiff], ph0, hS⟩ (fun _ _ _ h => h) ?_ ?_
  · rintro ⟨s6, s7, s8⟩ fr25 h26 ⟨c9, f28, f29, f30, hv10, hS27⟩ oc14 hF17 hr18 Q19 hN20 hK21 hR22 hE23
    dsimp only at *
    unfold laws_markIntS_b1 at hF17
    simp only [x24_3, run_seq, run_reg, f30, run_mv, f28, run_len, put1_some, SlF.plen hv10, run_bin, xlss, run_ops_nil, run_cond, B0, reduceIte, reduceEqDiff]
    refine cond_split (t := (decide (s7 < (List.length s8 : Int)))) (fun hc32 => ?_) (fun hc32 => ?_)
    · rw [iteT hc32] at hF17
      obtain ⟨x33, hx34, hF35⟩ := bind_some' hF17
      simp only [run_skip, x24_2, run_seq, run_block, x24_1, run_reg, f28, run_mv, f30, f29, run_ia, B0, reduceIte, reduceEqDiff]
      obtain ⟨b36, hb37⟩ := SlF.isrow hv10 (geti_ne hx34)
      refine put1_eq (SlF.ia hv10 hb37 hx34) ?_
      simp only [run_st, B0, reduceIte, reduceEqDiff]
      refine put2_stF (f := cI) (x' := s6) (o := 0) hv10 hS27 hW hb37 hx34 (fun _ => rfl) rfl rfl (Nat.le_of_ble_eq_true rfl) rfl (fun c40 h38 hv41 hS39 => ?_)
      have hx42 := geti_set (x' := s6) hx34
      simp only [run_ops_nil, run_reg, f29, run_mv, run_bin, put1_some, xadd, run_blk, f30, run_nil, B0, reduceIte, reduceEqDiff]
      have e43 := some_inj hF35
      exact hN20 _ _ _ e43.symm ⟨c40, by simp only [f28, B0, reduceIte, reduceEqDiff], by simp only [B0, reduceIte, reduceEqDiff], by simp only [B0, reduceIte, reduceEqDiff],
          hv41, hS39⟩
    rw [iteF hc32] at hF17
    simp only [run_exit, out_code, out_nil, B0, reduceIte, reduceEqDiff]
    have e44 := some_inj hF17
    exact hK21 _ _ _ e44.symm ⟨c9, by simp only [f28, B0, reduceIte, reduceEqDiff], by simp only [f29, B0, reduceIte, reduceEqDiff], by simp only [f30, B0, reduceIte,
        reduceEqDiff], hv10, hS27⟩
  rintro ⟨s46, s47, s48⟩ fr51 h52 rfl ⟨c49, f54, f55, f56, hv50, hS53⟩
  dsimp only [jnO] at hk16
  dsimp only at *
  unfold laws_markIntS_j1 at hk16
  simp only [run_seq, run_reg, f55, run_mv, run_ops_nil, run_ret, B0, reduceIte, reduceEqDiff]
  have he := some_inj hk16
  subst he
  simp only [end_ret1, B0, reduceIte, reduceEqDiff]
  exact ⟨c49, by first | trivial | rfl, hv50, hS53⟩
theorem laws_markReaderS_x {W : Nat → Bool} {h : Heap} {lo : Nat} {S0 : List Obj} (hW : ∀ b,
    lo ≤ b → W b = true) (k : Nat) (pv0 : XV) (pc0 : List Obj) (a_0 : List Reader) (ph0 : SlN Reader.R 4 37 pv0 a_0 pc0) (k_1 : Int) (r : Int × (List Reader))
    (hF : laws_markReaderS k a_0 k_1 = some r) (hS : Sep h lo (pc0 ++ (S0))) : Ret E W 61 [pv0, .int .i64 k_1] h (fun v h' => ∃ ic0,
    v = .int .i64 r.1 ∧ SlN Reader.R 4 37 pv0 r.2 ic0 ∧ Sep h' lo (ic0 ++ (S0))) := by
  refine Ret.of (fn := x61) rfl (Run.of ?_)
  unfold laws_markReaderS at hF
  have zf0 : argFr [pv0, .int .i64 k_1] 0 = pv0 := rfl
  have zf1 : argFr [pv0, .int .i64 k_1] 1 = .int .i64 k_1 := rfl
  generalize argFr [pv0, .int .i64 k_1] = fr0 at zf0 zf1 ⊢
  simp only [x61, run_seq, run_reg, run_mv, run_ops_nil, x61_11, B0, reduceIte, reduceEqDiff]
  obtain ⟨oc13, hX15, hk16⟩ := jn_some hF
  simp only [x61_10]
  refine loopF_j (σ := Int × Int × (List Reader)) (fun s82 => laws_markReaderS_b1 k s82.1 s82.2.1 s82.2.2) (fun s fr' h' => ∃ c9,
      fr' 0 = pv0 ∧ fr' 1 = .int .i64 s.1 ∧ fr' 5 = .int .i64 s.2.1 ∧ SlN Reader.R 4 37 pv0 s.2.2 c9 ∧ Sep h' lo (c9 ++ (S0))) hX15 ⟨pc0, by simp only [zf0, B0, reduceIte,
      reduceEqDiff], by simp only [zf1, B0, reduceIte, reduceEqDiff], by simp only [B0, reduceIte, reduceEqDiff], ph0, hS⟩ (fun _ _ _ h => h) ?_ ?_
  · rintro ⟨s6, s7, s8⟩ fr25 h26 ⟨c9, f28, f29, f30, hv10, hS27⟩ oc14 hF17 hr18 Q19 hN20 hK21 hR22 hE23
    dsimp only at *
    unfold laws_markReaderS_b1 at hF17
    simp only [x61_8, run_seq, run_reg, f30, run_mv, f28, run_len, put1_some, SlN.len hv10, run_bin, xlss, run_ops_nil, run_cond, B0, reduceIte, reduceEqDiff]
    refine cond_split (t := (decide (s7 < (List.length s8 : Int)))) (fun hc32 => ?_) (fun hc32 => ?_)
    · rw [iteT hc32] at hF17
      obtain ⟨x33, hx34, hF35⟩ := bind_some' hF17
      simp only [run_skip, x61_7, run_seq, run_block, x61_6, run_reg, f28, run_mv, f30, f29, run_bin, put1_some, xrem_nz (n := 3) (by decide), xeql, run_ia, B0, reduceIte,
          reduceEqDiff]
      obtain ⟨b36, hb37⟩ := SlN.isrow hv10 (geti_ne hx34)
      refine put1_eq (SlN.ia hv10 hb37 hx34) ?_
      obtain ⟨c40, cs41, os42, hv43, hR44, hS45⟩ := SlG.opn (SlN.toG hv10 hb37 Reader.RO.len) hx34 hk_nil Reader.RO.len hS27
      obtain ⟨v47, c48, v51, c52, hv49, hv53, rfl, rfl⟩ := hR44
      have hS46 := Sep.no2 hS45
      simp only [run_fa, put1_some, Nat.reduceAdd, Nat.zero_add, Nat.add_zero, xfa_ptr, run_st, B0, reduceIte, reduceEqDiff]
      refine put2_stGx (us := [.bool (decide ((Int.tmod s6 3) = 0))]) (o := 0) (cs' := [.bool (decide ((Int.tmod s6 3) = 0)), .int .i64 x33.Generation, v47,
          v51]) rfl hv43 rfl hx34 hS46 hW rfl rfl (Nat.le_of_ble_eq_true rfl) rfl (fun c55 h38 hv56 hS39 => ?_)
      simp only [run_ops_nil, x61_5, run_seq, run_reg, f29, run_mv, run_bin, put1_some, xadd, x61_4, f28, f30, run_ia, B0, reduceIte, reduceEqDiff]
      refine put1_eq (SlG.ia hv56 hx34) ?_
      simp only [run_fa, put1_some, Nat.reduceAdd, Nat.zero_add, Nat.add_zero, xfa_ptr, run_st, B0, reduceIte, reduceEqDiff]
      refine put2_stGx (us := [.int .i64 (IntKind.wrap .i64 (s6 + 1))]) (o := 1) (cs' := [.bool (decide ((Int.tmod s6 3) = 0)), .int .i64 (IntKind.wrap .i64 (s6 + 1)), v47,
          v51]) rfl hv56 rfl hx34 hS39 hW rfl rfl (Nat.le_of_ble_eq_true rfl) rfl (fun c59 h57 hv60 hS58 => ?_)
      simp only [run_ops_nil, x61_3, run_seq, run_reg, run_mv, run_bin, put1_some, xadd, x61_2, f28, f30, run_ia, B0, reduceIte, reduceEqDiff]
      refine put1_eq (SlG.ia hv60 hx34) ?_
      simp only [run_fa, put1_some, Nat.reduceAdd, Nat.zero_add, Nat.add_zero, xfa_ptr, run_ld, B0, reduceIte, reduceEqDiff]
      refine put1_eq (v := v47) ((SlG.ld (o := 2) hv60 rfl hx34 hS58 (Nat.le_of_ble_eq_true rfl)).trans rfl) ?_
      obtain ⟨v61, hx62, hF63⟩ := bind_some' hF35
      simp only [run_mv, run_call, B0, reduceIte, reduceEqDiff]
      refine call0 rfl (laws_markIntS_x hW k v47 c48 x33.Share hv49 (IntKind.wrap .i64 ((IntKind.wrap .i64 (s6 + 1)) + 1)) v61 hx62 (Sep.m1 hS58)) ?_
      rintro _ h66 ⟨c64, rfl, hv65, hS67⟩
      simp only [run_mv, run_ops_nil, x61_1, run_reg, f28, f30, run_ia, B0, reduceIte, reduceEqDiff]
      refine put1_eq (SlG.ia hv60 hx34) ?_
      simp only [run_fa, put1_some, Nat.reduceAdd, Nat.zero_add, Nat.add_zero, xfa_ptr, run_ld, B0, reduceIte, reduceEqDiff]
      refine put1_eq (v := v51) ((SlG.ld (o := 3) hv60 rfl hx34 (Sep.m1 hS67) (Nat.le_of_ble_eq_true rfl)).trans rfl) ?_
      obtain ⟨v68, hx69, hF70⟩ := bind_some' hF63
      simp only [run_mv, run_call, B0, reduceIte, reduceEqDiff]
      refine call0 rfl (laws_markIntS_x hW k v51 c52 x33.Read hv53 v61.1 v68 hx69 (Sep.m2 hS67)) ?_
      rintro _ h73 ⟨c71, rfl, hv72, hS74⟩
      simp only [run_mv, run_ops_nil, run_blk, run_reg, f30, run_bin, put1_some, xadd, run_nil, B0, reduceIte, reduceEqDiff]
      obtain ⟨c75, hv76, hS77⟩ := SlG.cls (e' := (Reader.mk (decide ((Int.tmod s6 3) = 0)) (IntKind.wrap .i64 (s6 + 1)) v61.2 v68.2)) (c := c59) (os := c64 ++
          (c71)) hv60 rfl hx34 hk_nil (Reader.RI (x := (Reader.mk (decide ((Int.tmod s6 3) = 0)) (IntKind.wrap .i64 (s6 + 1)) v61.2 v68.2)) hv65 hv72) (Sep.ni2 (c1 := c64)
          (c2 := c71) (Sep.m2 (Sep.m1 hS74)))
      have hx78 := geti_set (x' := (Reader.mk (decide ((Int.tmod s6 3) = 0)) (IntKind.wrap .i64 (s6 + 1)) v61.2 v68.2)) hx34
      have hv79 := SlG.toN hv76
      have e80 := some_inj hF70
      exact hN20 _ _ _ e80.symm ⟨c75, by simp only [f28, B0, reduceIte, reduceEqDiff], by simp only [B0, reduceIte, reduceEqDiff], by simp only [B0, reduceIte, reduceEqDiff],
          hv79, hS77⟩
    rw [iteF hc32] at hF17
    simp only [run_exit, out_code, out_nil, B0, reduceIte, reduceEqDiff]
    have e81 := some_inj hF17
    exact hK21 _ _ _ e81.symm ⟨c9, by simp only [f28, B0, reduceIte, reduceEqDiff], by simp only [f29, B0, reduceIte, reduceEqDiff], by simp only [f30, B0, reduceIte,
        reduceEqDiff], hv10, hS27⟩
  rintro ⟨s83, s84, s85⟩ fr88 h89 rfl ⟨c86, f91, f92, f93, hv87, hS90⟩
  dsimp only [jnO] at hk16
  dsimp only at *
  unfold laws_markReaderS_j1 at hk16
  simp only [run_seq, run_reg, f92, run_mv, run_ops_nil, run_ret, B0, reduceIte, reduceEqDiff]
  have he := some_inj hk16
  subst he
  simp only [end_ret1, B0, reduceIte, reduceEqDiff]
  exact ⟨c86, by first | trivial | rfl, hv87, hS90⟩
theorem laws_markReaders_x {W : Nat → Bool} {h : Heap} {lo : Nat} {S0 : List Obj} (hW : ∀ b,
    lo ≤ b → W b = true) (k : Nat) (a_0 : Readers_) (pv0_1 : XV) (pc0_1 : List Obj) (ph0_1 : SlN Reader.R 4 37 pv0_1 a_0.Readers pc0_1) (pv0_2 : XV) (pc0_2 : List Obj)
    (ph0_2 : SlF cI 1 3 pv0_2 a_0.Committed pc0_2) (pv0_3 : XV) (pc0_3 : List Obj) (ph0_3 : SlF cI 1 3 pv0_3 a_0.Ends pc0_3) (k_1 : Int) (r : Int × Readers_)
    (hF : laws_markReaders k a_0 k_1 = some r) (hS : Sep h lo (pc0_1 ++ (pc0_2 ++ (pc0_3 ++ (S0))))) : Ret E W 26 [.agg [.int .i64 a_0.Generation, pv0_1, pv0_2, pv0_3],
    .int .i64 k_1] h (fun v h' => ∃ ic0_1 ic0_2 ic0_3,
    v = .int .i64 r.1 ∧ SlN Reader.R 4 37 pv0_1 r.2.Readers ic0_1 ∧ SlF cI 1 3 pv0_2 r.2.Committed ic0_2 ∧ SlF cI 1 3 pv0_3 r.2.Ends ic0_3 ∧ Sep h' lo (ic0_1 ++ (ic0_2 ++
    (ic0_3 ++ (S0))))) := by
  refine Ret.of (fn := x26) rfl (Run.of ?_)
  unfold laws_markReaders at hF
  have zf0 : argFr [.agg [.int .i64 a_0.Generation, pv0_1, pv0_2, pv0_3], .int .i64 k_1] 0 = .agg [.int .i64 a_0.Generation, pv0_1, pv0_2, pv0_3] := rfl
  have zf1 : argFr [.agg [.int .i64 a_0.Generation, pv0_1, pv0_2, pv0_3], .int .i64 k_1] 1 = .int .i64 k_1 := rfl
  generalize argFr [.agg [.int .i64 a_0.Generation, pv0_1, pv0_2, pv0_3], .int .i64 k_1] = fr0 at zf0 zf1 ⊢
  simp only [x26, run_seq, run_reg, run_box, zf0, B0, reduceIte, reduceEqDiff]
  refine put2_boxC (cs := [.int .i64 a_0.Generation, pv0_1, pv0_2,
      pv0_3]) hS rfl rfl (all_c rfl (all_c (SlN.one ph0_1) (all_c (SlF.one ph0_2) (all_c (SlF.one ph0_3) all_n)))) (fun b1 h2 hS3 => ?_)
  simp only [run_mv, run_ops_nil, B0, reduceIte, reduceEqDiff]
  refine frz_stepC hS3 hW (by simp only [B0, reduceIte, reduceEqDiff]) (fun h5 hS6 => ?_)
  simp only [run_frz_nil, x26_3, run_seq, run_reg, run_fa, put1_some, Nat.reduceAdd, Nat.zero_add, Nat.add_zero, xfa_ref, run_ld, B0, reduceIte, reduceEqDiff]
  refine put1_eq (v := pv0_1) rfl ?_
  obtain ⟨v7, hx8, hF9⟩ := bind_some' hF
  simp only [zf1, run_mv, run_call, B0, reduceIte, reduceEqDiff]
  refine call0 rfl (laws_markReaderS_x hW k pv0_1 pc0_1 a_0.Readers ph0_1 k_1 v7 hx8 hS6) ?_
  rintro _ h12 ⟨c10, rfl, hv11, hS13⟩
  simp only [run_mv, run_ops_nil, x26_2, run_seq, run_reg, run_fa, put1_some, Nat.reduceAdd, Nat.zero_add, Nat.add_zero, xfa_ref, run_ld, B0, reduceIte, reduceEqDiff]
  refine put1_eq (v := pv0_2) rfl ?_
  obtain ⟨v14, hx15, hF16⟩ := bind_some' hF9
  simp only [run_mv, run_call, B0, reduceIte, reduceEqDiff]
  refine call0 rfl (laws_markIntS_x hW k pv0_2 pc0_2 a_0.Committed ph0_2 v7.1 v14 hx15 (Sep.m1 hS13)) ?_
  rintro _ h19 ⟨c17, rfl, hv18, hS20⟩
  simp only [run_mv, run_ops_nil, x26_1, run_seq, run_reg, run_fa, put1_some, Nat.reduceAdd, Nat.zero_add, Nat.add_zero, xfa_ref, run_ld, B0, reduceIte, reduceEqDiff]
  refine put1_eq (v := pv0_3) rfl ?_
  obtain ⟨v21, hx22, hF23⟩ := bind_some' hF16
  simp only [run_mv, run_call, B0, reduceIte, reduceEqDiff]
  refine call0 rfl (laws_markIntS_x hW k pv0_3 pc0_3 a_0.Ends ph0_3 v14.1 v21 hx22 (Sep.m2 hS20)) ?_
  rintro _ h26 ⟨c24, rfl, hv25, hS27⟩
  simp only [run_mv, run_ops_nil, run_seq, run_reg, run_ret, B0, reduceIte, reduceEqDiff]
  have he := some_inj hF23
  subst he
  simp only [end_ret1, B0, reduceIte, reduceEqDiff]
  exact ⟨c10, c17, c24, by first | trivial | rfl, hv11, hv18, hv25, (Sep.m2 (Sep.m1 hS27))⟩
theorem laws_heldIntS_x {W : Nat → Bool} {h : Heap} (hW : ∀ b,
    h.length ≤ b → W b = true) (k : Nat) (a_0 : List Int) (k_1 : Int) (r : Int) (hF : laws_heldIntS k a_0 k_1 = some r) : Ret E W 63 [lst cI a_0,
    .int .i64 k_1] h (fun v h' => cut h.length h' E.sz false 9 v = some (.int .i64 r)) := by
  refine Ret.of (fn := x63) rfl (Run.of ?_)
  unfold laws_heldIntS at hF
  have zf0 : argFr [lst cI a_0, .int .i64 k_1] 0 = lst cI a_0 := rfl
  have zf1 : argFr [lst cI a_0, .int .i64 k_1] 1 = .int .i64 k_1 := rfl
  generalize argFr [lst cI a_0, .int .i64 k_1] = fr0 at zf0 zf1 ⊢
  have hS : Sep h h.length [] := Sep.nil h
  simp only [x63, run_seq, run_reg, run_mv, run_ops_nil, x63_6, B0, reduceIte, reduceEqDiff]
  obtain ⟨oc7, hX9, hk10⟩ := jn_some hF
  simp only [x63_5]
  refine loopF_j (σ := Int × Int) (fun s36 => laws_heldIntS_b1 a_0 s36.1 s36.2)
      (fun s fr' h' => fr' 0 = lst cI a_0 ∧ fr' 1 = .int .i64 s.1 ∧ fr' 5 = .int .i64 s.2 ∧ Sep h' h.length ([])) hX9 ⟨by simp only [zf0, B0, reduceIte, reduceEqDiff],
      by simp only [zf1, B0, reduceIte, reduceEqDiff], by simp only [B0, reduceIte, reduceEqDiff], hS⟩ (fun _ _ _ h => h) ?_ ?_
  · rintro ⟨s3, s4⟩ fr19 h20 ⟨f22, f23, f24, hS21⟩ oc8 hF11 hr12 Q13 hN14 hK15 hR16 hE17
    dsimp only at *
    unfold laws_heldIntS_b1 at hF11
    simp only [x63_3, run_seq, run_reg, f24, run_mv, f22, run_len, put1_some, xlen_lst, run_bin, xlss, run_ops_nil, run_cond, B0, reduceIte, reduceEqDiff]
    refine cond_split (t := (decide (s4 < (List.length a_0 : Int)))) (fun hc26 => ?_) (fun hc26 => ?_)
    · rw [iteT hc26] at hF11
      obtain ⟨x27, hx28, hF29⟩ := bind_some' hF11
      simp only [run_skip, x63_2, run_seq, run_block, x63_1, run_reg, f22, run_mv, f24, run_ia, B0, reduceIte, reduceEqDiff]
      refine put1_eq (v := .ref (cI x27) 0) (xia_lst hx28 rfl) ?_
      simp only [run_ld, B0, reduceIte, reduceEqDiff]
      refine put1_eq (v := .int .i64 x27) rfl ?_
      simp only [f23, run_mv, run_bin, put1_some, xneq, run_ops_nil, run_cond, B0, reduceIte, reduceEqDiff]
      refine cond_split (t := (decide (x27 ≠ s3))) (fun hc30 => ?_) (fun hc30 => ?_)
      · rw [iteT hc30] at hF29
        simp only [run_seq, run_reg, run_mv, run_ops_nil, run_ret, B0, reduceIte, reduceEqDiff]
        have e31 := some_inj hF29
        subst e31
        have ho32 := hr12 _ rfl
        have hk33 := hk10
        rw [ho32] at hk33
        dsimp only [jnO] at hk33
        apply hR16
        have he := some_inj hk33
        subst he
        simp only [end_ret1, B0, reduceIte, reduceEqDiff]
        exact rfl
      rw [iteF hc30] at hF29
      simp only [run_skip, run_reg, f23, run_mv, run_bin, put1_some, xadd, run_ops_nil, run_blk, f24, run_nil, B0, reduceIte, reduceEqDiff]
      have e34 := some_inj hF29
      exact hN14 _ _ _ e34.symm ⟨by simp only [f22, B0, reduceIte, reduceEqDiff], by simp only [B0, reduceIte, reduceEqDiff], by simp only [B0, reduceIte, reduceEqDiff], hS21⟩
    rw [iteF hc26] at hF11
    simp only [run_exit, out_code, out_nil, B0, reduceIte, reduceEqDiff]
    have e35 := some_inj hF11
    exact hK15 _ _ _ e35.symm ⟨by simp only [f22, B0, reduceIte, reduceEqDiff], by simp only [f23, B0, reduceIte, reduceEqDiff], by simp only [f24, B0, reduceIte, reduceEqDiff],
        hS21⟩
  rintro ⟨s37, s38⟩ fr39 h40 rfl ⟨f42, f43, f44, hS41⟩
  dsimp only [jnO] at hk10
  dsimp only at *
  unfold laws_heldIntS_j1 at hk10
  simp only [run_seq, run_reg, f43, run_mv, run_ops_nil, run_ret, B0, reduceIte, reduceEqDiff]
  have he := some_inj hk10
  subst he
  simp only [end_ret1, B0, reduceIte, reduceEqDiff]
  exact rfl
theorem laws_heldReaderS_x {W : Nat → Bool} {h : Heap} (hW : ∀ b,
    h.length ≤ b → W b = true) (k : Nat) (a_0 : List Reader) (k_1 : Int) (r : Int) (hF : laws_heldReaderS k a_0 k_1 = some r) : Ret E W 62 [lst Reader.cells a_0,
    .int .i64 k_1] h (fun v h' => cut h.length h' E.sz false 9 v = some (.int .i64 r)) := by
  refine Ret.of (fn := x62) rfl (Run.of ?_)
  unfold laws_heldReaderS at hF
  have zf0 : argFr [lst Reader.cells a_0, .int .i64 k_1] 0 = lst Reader.cells a_0 := rfl
  have zf1 : argFr [lst Reader.cells a_0, .int .i64 k_1] 1 = .int .i64 k_1 := rfl
  generalize argFr [lst Reader.cells a_0, .int .i64 k_1] = fr0 at zf0 zf1 ⊢
  have hS : Sep h h.length [] := Sep.nil h
  simp only [x62, run_seq, run_reg, run_mv, run_ops_nil, x62_13, B0, reduceIte, reduceEqDiff]
  obtain ⟨oc7, hX9, hk10⟩ := jn_some hF
  simp only [x62_12]
  refine loopF_j (σ := Int × Int) (fun s63 => laws_heldReaderS_b1 k a_0 s63.1 s63.2)
      (fun s fr' h' => fr' 0 = lst Reader.cells a_0 ∧ fr' 1 = .int .i64 s.1 ∧ fr' 5 = .int .i64 s.2 ∧ Sep h' h.length ([])) hX9 ⟨by simp only [zf0, B0, reduceIte, reduceEqDiff],
      by simp only [zf1, B0, reduceIte, reduceEqDiff], by simp only [B0, reduceIte, reduceEqDiff], hS⟩ (fun _ _ _ h => h) ?_ ?_
  · rintro ⟨s3, s4⟩ fr19 h20 ⟨f22, f23, f24, hS21⟩ oc8 hF11 hr12 Q13 hN14 hK15 hR16 hE17
    dsimp only at *
    unfold laws_heldReaderS_b1 at hF11
    simp only [x62_10, run_seq, run_reg, f24, run_mv, f22, run_len, put1_some, xlen_lst, run_bin, xlss, run_ops_nil, run_cond, B0, reduceIte, reduceEqDiff]
    refine cond_split (t := (decide (s4 < (List.length a_0 : Int)))) (fun hc26 => ?_) (fun hc26 => ?_)
    · rw [iteT hc26] at hF11
      obtain ⟨x27, hx28, hF29⟩ := bind_some' hF11
      simp only [run_skip, x62_9, run_seq, run_block, x62_8, run_reg, f22, run_mv, f24, run_ia, B0, reduceIte, reduceEqDiff]
      refine put1_eq (v := .ref (Reader.cells x27) 0) (xia_lst hx28 rfl) ?_
      simp only [run_fa, put1_some, Nat.reduceAdd, Nat.zero_add, Nat.add_zero, xfa_ref, run_ld, B0, reduceIte, reduceEqDiff]
      refine put1_eq (v := .bool x27.In) rfl ?_
      simp only [f23, run_mv, run_bin, put1_some, xrem_nz (n := 3) (by decide), xeql, run_eqb, xeqb_t, run_ops_nil, run_cond, B0, reduceIte, reduceEqDiff]
      refine cond_split (t := (!(x27.In == (decide ((Int.tmod s3 3) = 0))))) (fun hc30 => ?_) (fun hc30 => ?_)
      · rw [iteT hc30] at hF29
        simp only [run_seq, run_reg, run_mv, run_ops_nil, run_ret, B0, reduceIte, reduceEqDiff]
        have e31 := some_inj hF29
        subst e31
        have ho32 := hr12 _ rfl
        have hk33 := hk10
        rw [ho32] at hk33
        dsimp only [jnO] at hk33
        apply hR16
        have he := some_inj hk33
        subst he
        simp only [end_ret1, B0, reduceIte, reduceEqDiff]
        exact rfl
      rw [iteF hc30] at hF29
      obtain ⟨x34, hx35, hF36⟩ := bind_some' hF29
      simp only [run_skip, x62_7, run_seq, run_reg, f23, run_mv, run_bin, put1_some, xadd, run_ops_nil, x62_6, f22, f24, run_ia, B0, reduceIte, reduceEqDiff]
      refine put1_eq (v := .ref (Reader.cells x34) 0) (xia_lst hx35 rfl) ?_
      simp only [run_fa, put1_some, Nat.reduceAdd, Nat.zero_add, Nat.add_zero, xfa_ref, run_ld, B0, reduceIte, reduceEqDiff]
      refine put1_eq (v := .int .i64 x34.Generation) rfl ?_
      simp only [run_mv, run_bin, put1_some, xneq, run_ops_nil, run_cond, B0, reduceIte, reduceEqDiff]
      refine cond_split (t := (decide (x34.Generation ≠ (IntKind.wrap .i64 (s3 + 1))))) (fun hc37 => ?_) (fun hc37 => ?_)
      · rw [iteT hc37] at hF36
        simp only [run_seq, run_reg, run_mv, run_ops_nil, run_ret, B0, reduceIte, reduceEqDiff]
        have e38 := some_inj hF36
        subst e38
        have ho39 := hr12 _ rfl
        have hk40 := hk10
        rw [ho39] at hk40
        dsimp only [jnO] at hk40
        apply hR16
        have he := some_inj hk40
        subst he
        simp only [end_ret1, B0, reduceIte, reduceEqDiff]
        exact rfl
      rw [iteF hc37] at hF36
      obtain ⟨x41, hx42, hF43⟩ := bind_some' hF36
      simp only [run_skip, x62_5, run_seq, run_reg, run_mv, run_bin, put1_some, xadd, run_ops_nil, x62_4, f22, f24, run_ia, B0, reduceIte, reduceEqDiff]
      refine put1_eq (v := .ref (Reader.cells x41) 0) (xia_lst hx42 rfl) ?_
      simp only [run_fa, put1_some, Nat.reduceAdd, Nat.zero_add, Nat.add_zero, xfa_ref, run_ld, B0, reduceIte, reduceEqDiff]
      refine put1_eq (v := lst cI x41.Share) rfl ?_
      obtain ⟨v44, hx45, hF46⟩ := bind_some' hF43
      simp only [run_mv, run_call, B0, reduceIte, reduceEqDiff]
      refine call1 rfl (mapM1 snap_lst (mapM1 snap_int mapM0)) (laws_heldIntS_x (fun b hb => decide_eq_true hb) k x41.Share (IntKind.wrap .i64 ((IntKind.wrap .i64
          (s3 + 1)) + 1)) v44 hx45) ?_
      simp only [run_mv, run_ops_nil, x62_3, run_seq, run_reg, run_bin, put1_some, xlss, run_cond, B0, reduceIte, reduceEqDiff]
      refine cond_split (t := (decide (v44 < 0))) (fun hc47 => ?_) (fun hc47 => ?_)
      · rw [iteT hc47] at hF46
        simp only [run_seq, run_reg, run_mv, run_ops_nil, run_ret, B0, reduceIte, reduceEqDiff]
        have e48 := some_inj hF46
        subst e48
        have ho49 := hr12 _ rfl
        have hk50 := hk10
        rw [ho49] at hk50
        dsimp only [jnO] at hk50
        apply hR16
        have he := some_inj hk50
        subst he
        simp only [end_ret1, B0, reduceIte, reduceEqDiff]
        exact rfl
      rw [iteF hc47] at hF46
      obtain ⟨x51, hx52, hF53⟩ := bind_some' hF46
      simp only [run_skip, x62_2, run_seq, run_reg, f22, run_mv, f24, run_ia, B0, reduceIte, reduceEqDiff]
      refine put1_eq (v := .ref (Reader.cells x51) 0) (xia_lst hx52 rfl) ?_
      simp only [run_fa, put1_some, Nat.reduceAdd, Nat.zero_add, Nat.add_zero, xfa_ref, run_ld, B0, reduceIte, reduceEqDiff]
      refine put1_eq (v := lst cI x51.Read) rfl ?_
      obtain ⟨v54, hx55, hF56⟩ := bind_some' hF53
      simp only [run_mv, run_call, B0, reduceIte, reduceEqDiff]
      refine call1 rfl (mapM1 snap_lst (mapM1 snap_int mapM0)) (laws_heldIntS_x (fun b hb => decide_eq_true hb) k x51.Read v44 v54 hx55) ?_
      simp only [run_mv, run_ops_nil, x62_1, run_seq, run_reg, run_bin, put1_some, xlss, run_cond, B0, reduceIte, reduceEqDiff]
      refine cond_split (t := (decide (v54 < 0))) (fun hc57 => ?_) (fun hc57 => ?_)
      · rw [iteT hc57] at hF56
        simp only [run_seq, run_reg, run_mv, run_ops_nil, run_ret, B0, reduceIte, reduceEqDiff]
        have e58 := some_inj hF56
        subst e58
        have ho59 := hr12 _ rfl
        have hk60 := hk10
        rw [ho59] at hk60
        dsimp only [jnO] at hk60
        apply hR16
        have he := some_inj hk60
        subst he
        simp only [end_ret1, B0, reduceIte, reduceEqDiff]
        exact rfl
      rw [iteF hc57] at hF56
      simp only [run_skip, run_blk, run_reg, f24, run_mv, run_bin, put1_some, xadd, run_ops_nil, run_nil, B0, reduceIte, reduceEqDiff]
      have e61 := some_inj hF56
      exact hN14 _ _ _ e61.symm ⟨by simp only [f22, B0, reduceIte, reduceEqDiff], by simp only [B0, reduceIte, reduceEqDiff], by simp only [B0, reduceIte, reduceEqDiff], hS21⟩
    rw [iteF hc26] at hF11
    simp only [run_exit, out_code, out_nil, B0, reduceIte, reduceEqDiff]
    have e62 := some_inj hF11
    exact hK15 _ _ _ e62.symm ⟨by simp only [f22, B0, reduceIte, reduceEqDiff], by simp only [f23, B0, reduceIte, reduceEqDiff], by simp only [f24, B0, reduceIte, reduceEqDiff],
        hS21⟩
  rintro ⟨s64, s65⟩ fr66 h67 rfl ⟨f69, f70, f71, hS68⟩
  dsimp only [jnO] at hk10
  dsimp only at *
  unfold laws_heldReaderS_j1 at hk10
  simp only [run_seq, run_reg, f70, run_mv, run_ops_nil, run_ret, B0, reduceIte, reduceEqDiff]
  have he := some_inj hk10
  subst he
  simp only [end_ret1, B0, reduceIte, reduceEqDiff]
  exact rfl
theorem laws_heldReaders_x {W : Nat → Bool} {h : Heap} (hW : ∀ b,
    h.length ≤ b → W b = true) (k : Nat) (a_0 : Readers_) (k_1 : Int) (r : Int) (hF : laws_heldReaders k a_0 k_1 = some r) : Ret E W 28 [.agg [.int .i64 a_0.Generation,
    lst Reader.cells a_0.Readers, lst cI a_0.Committed, lst cI a_0.Ends], .int .i64 k_1] h (fun v h' => cut h.length h' E.sz false 9 v = some (.int .i64 r)) := by
  refine Ret.of (fn := x28) rfl (Run.of ?_)
  unfold laws_heldReaders at hF
  have zf0 : argFr [.agg [.int .i64 a_0.Generation, lst Reader.cells a_0.Readers, lst cI a_0.Committed, lst cI a_0.Ends], .int .i64 k_1] 0 = .agg [.int .i64 a_0.Generation,
      lst Reader.cells a_0.Readers, lst cI a_0.Committed, lst cI a_0.Ends] := rfl
  have zf1 : argFr [.agg [.int .i64 a_0.Generation, lst Reader.cells a_0.Readers, lst cI a_0.Committed, lst cI a_0.Ends], .int .i64 k_1] 1 = .int .i64 k_1 := rfl
  generalize argFr [.agg [.int .i64 a_0.Generation, lst Reader.cells a_0.Readers, lst cI a_0.Committed, lst cI a_0.Ends], .int .i64 k_1] = fr0 at zf0 zf1 ⊢
  have hS : Sep h h.length [] := Sep.nil h
  simp only [x28, run_seq, run_reg, run_box, zf0, B0, reduceIte, reduceEqDiff]
  refine put2_boxC (cs := [.int .i64 a_0.Generation, lst Reader.cells a_0.Readers, lst cI a_0.Committed, lst cI a_0.Ends]) hS rfl rfl rfl (fun b1 h2 hS3 => ?_)
  simp only [run_mv, run_ops_nil, B0, reduceIte, reduceEqDiff]
  refine frz_stepC hS3 hW (by simp only [B0, reduceIte, reduceEqDiff]) (fun h5 hS6 => ?_)
  simp only [run_frz_nil, x28_6, run_seq, run_reg, run_fa, put1_some, Nat.reduceAdd, Nat.zero_add, Nat.add_zero, xfa_ref, run_ld, B0, reduceIte, reduceEqDiff]
  refine put1_eq (v := lst Reader.cells a_0.Readers) rfl ?_
  obtain ⟨v7, hx8, hF9⟩ := bind_some' hF
  simp only [zf1, run_mv, run_call, B0, reduceIte, reduceEqDiff]
  refine call1 rfl (mapM1 snap_lst (mapM1 snap_int mapM0)) (laws_heldReaderS_x (fun b hb => decide_eq_true hb) k a_0.Readers k_1 v7 hx8) ?_
  simp only [run_mv, run_ops_nil, x28_5, run_seq, run_reg, run_bin, put1_some, xlss, run_cond, B0, reduceIte, reduceEqDiff]
  refine cond_split (t := (decide (v7 < 0))) (fun hc10 => ?_) (fun hc10 => ?_)
  · rw [iteT hc10] at hF9
    simp only [run_seq, run_reg, run_mv, run_ops_nil, run_ret, B0, reduceIte, reduceEqDiff]
    have he := some_inj hF9
    subst he
    simp only [end_ret1, B0, reduceIte, reduceEqDiff]
    exact rfl
  rw [iteF hc10] at hF9
  simp only [run_skip, x28_4, run_seq, run_reg, run_fa, put1_some, Nat.reduceAdd, Nat.zero_add, Nat.add_zero, xfa_ref, run_ld, B0, reduceIte, reduceEqDiff]
  refine put1_eq (v := lst cI a_0.Committed) rfl ?_
  obtain ⟨v11, hx12, hF13⟩ := bind_some' hF9
  simp only [run_mv, run_call, B0, reduceIte, reduceEqDiff]
  refine call1 rfl (mapM1 snap_lst (mapM1 snap_int mapM0)) (laws_heldIntS_x (fun b hb => decide_eq_true hb) k a_0.Committed v7 v11 hx12) ?_
  simp only [run_mv, run_ops_nil, x28_3, run_seq, run_reg, run_bin, put1_some, xlss, run_cond, B0, reduceIte, reduceEqDiff]
  refine cond_split (t := (decide (v11 < 0))) (fun hc14 => ?_) (fun hc14 => ?_)
  · rw [iteT hc14] at hF13
    simp only [run_seq, run_reg, run_mv, run_ops_nil, run_ret, B0, reduceIte, reduceEqDiff]
    have he := some_inj hF13
    subst he
    simp only [end_ret1, B0, reduceIte, reduceEqDiff]
    exact rfl
  rw [iteF hc14] at hF13
  simp only [run_skip, x28_2, run_seq, run_reg, run_fa, put1_some, Nat.reduceAdd, Nat.zero_add, Nat.add_zero, xfa_ref, run_ld, B0, reduceIte, reduceEqDiff]
  refine put1_eq (v := lst cI a_0.Ends) rfl ?_
  obtain ⟨v15, hx16, hF17⟩ := bind_some' hF13
  simp only [run_mv, run_call, B0, reduceIte, reduceEqDiff]
  refine call1 rfl (mapM1 snap_lst (mapM1 snap_int mapM0)) (laws_heldIntS_x (fun b hb => decide_eq_true hb) k a_0.Ends v11 v15 hx16) ?_
  simp only [run_mv, run_ops_nil, x28_1, run_seq, run_reg, run_bin, put1_some, xlss, run_cond, B0, reduceIte, reduceEqDiff]
  refine cond_split (t := (decide (v15 < 0))) (fun hc18 => ?_) (fun hc18 => ?_)
  · rw [iteT hc18] at hF17
    simp only [run_seq, run_reg, run_mv, run_ops_nil, run_ret, B0, reduceIte, reduceEqDiff]
    have he := some_inj hF17
    subst he
    simp only [end_ret1, B0, reduceIte, reduceEqDiff]
    exact rfl
  rw [iteF hc18] at hF17
  simp only [run_skip, run_seq, run_reg, run_mv, run_ops_nil, run_ret, B0, reduceIte, reduceEqDiff]
  have he := some_inj hF17
  subst he
  simp only [end_ret1, B0, reduceIte, reduceEqDiff]
  exact rfl
theorem laws_szIntS_x {W : Nat → Bool} {h : Heap} (hW : ∀ b,
    h.length ≤ b → W b = true) (a_0 : List Int) (left_1 : Int) (r : Int) (hF : laws_szIntS a_0 left_1 = some r) : Ret E W 65 [lst cI a_0,
    .int .i64 left_1] h (fun v h' => cut h.length h' E.sz false 9 v = some (.int .i64 r)) := by
  refine Ret.of (fn := x65) rfl (Run.of ?_)
  unfold laws_szIntS at hF
  have zf0 : argFr [lst cI a_0, .int .i64 left_1] 0 = lst cI a_0 := rfl
  have zf1 : argFr [lst cI a_0, .int .i64 left_1] 1 = .int .i64 left_1 := rfl
  generalize argFr [lst cI a_0, .int .i64 left_1] = fr0 at zf0 zf1 ⊢
  have hS : Sep h h.length [] := Sep.nil h
  simp only [x65, run_seq, run_reg, run_mv, run_ops_nil, x65_2, zf1, zf0, run_len, put1_some, xlen_lst, run_bin, xsub, x65_1, xlss, run_cond, B0, reduceIte, reduceEqDiff]
  refine cond_split (t := (decide ((IntKind.wrap .i64 (left_1 - (List.length a_0 : Int))) < 0))) (fun hc1 => ?_) (fun hc1 => ?_)
  · rw [iteT hc1] at hF
    simp only [run_seq, run_reg, run_mv, run_ops_nil, run_ret, B0, reduceIte, reduceEqDiff]
    have he := some_inj hF
    subst he
    simp only [end_ret1, B0, reduceIte, reduceEqDiff]
    exact rfl
  rw [iteF hc1] at hF
  simp only [run_skip, run_seq, run_reg, run_mv, run_ops_nil, run_ret, B0, reduceIte, reduceEqDiff]
  have he := some_inj hF
  subst he
  simp only [end_ret1, B0, reduceIte, reduceEqDiff]
  exact rfl
theorem laws_szReader_x {W : Nat → Bool} {h : Heap} (hW : ∀ b,
    h.length ≤ b → W b = true) (a_0 : Reader) (left_1 : Int) (r : Int) (hF : laws_szReader a_0 left_1 = some r) : Ret E W 85 [.agg [.bool a_0.In, .int .i64 a_0.Generation,
    lst cI a_0.Share, lst cI a_0.Read], .int .i64 left_1] h (fun v h' => cut h.length h' E.sz false 9 v = some (.int .i64 r)) := by
  refine Ret.of (fn := x85) rfl (Run.of ?_)
  unfold laws_szReader at hF
  have zf0 : argFr [.agg [.bool a_0.In, .int .i64 a_0.Generation, lst cI a_0.Share, lst cI a_0.Read], .int .i64 left_1] 0 = .agg [.bool a_0.In, .int .i64 a_0.Generation,
      lst cI a_0.Share, lst cI a_0.Read] := rfl
  have zf1 : argFr [.agg [.bool a_0.In, .int .i64 a_0.Generation, lst cI a_0.Share, lst cI a_0.Read], .int .i64 left_1] 1 = .int .i64 left_1 := rfl
  generalize argFr [.agg [.bool a_0.In, .int .i64 a_0.Generation, lst cI a_0.Share, lst cI a_0.Read], .int .i64 left_1] = fr0 at zf0 zf1 ⊢
  have hS : Sep h h.length [] := Sep.nil h
  simp only [x85, run_seq, run_reg, run_box, zf0, B0, reduceIte, reduceEqDiff]
  refine put2_boxC (cs := [.bool a_0.In, .int .i64 a_0.Generation, lst cI a_0.Share, lst cI a_0.Read]) hS rfl rfl rfl (fun b1 h2 hS3 => ?_)
  simp only [run_mv, run_ops_nil, B0, reduceIte, reduceEqDiff]
  refine frz_stepC hS3 hW (by simp only [B0, reduceIte, reduceEqDiff]) (fun h5 hS6 => ?_)
  simp only [run_frz_nil, x85_4, run_seq, run_reg, run_fa, put1_some, Nat.reduceAdd, Nat.zero_add, Nat.add_zero, xfa_ref, run_ld, B0, reduceIte, reduceEqDiff]
  refine put1_eq (v := lst cI a_0.Share) rfl ?_
  obtain ⟨v7, hx8, hF9⟩ := bind_some' hF
  simp only [zf1, run_mv, run_call, B0, reduceIte, reduceEqDiff]
  refine call1 rfl (mapM1 snap_lst (mapM1 snap_int mapM0)) (laws_szIntS_x (fun b hb => decide_eq_true hb) a_0.Share left_1 v7 hx8) ?_
  simp only [run_mv, run_ops_nil, x85_3, run_seq, run_reg, run_bin, put1_some, xlss, run_cond, B0, reduceIte, reduceEqDiff]
  refine cond_split (t := (decide (v7 < 0))) (fun hc10 => ?_) (fun hc10 => ?_)
  · rw [iteT hc10] at hF9
    simp only [run_seq, run_reg, run_mv, run_ops_nil, run_ret, B0, reduceIte, reduceEqDiff]
    have he := some_inj hF9
    subst he
    simp only [end_ret1, B0, reduceIte, reduceEqDiff]
    exact rfl
  rw [iteF hc10] at hF9
  simp only [run_skip, x85_2, run_seq, run_reg, run_fa, put1_some, Nat.reduceAdd, Nat.zero_add, Nat.add_zero, xfa_ref, run_ld, B0, reduceIte, reduceEqDiff]
  refine put1_eq (v := lst cI a_0.Read) rfl ?_
  obtain ⟨v11, hx12, hF13⟩ := bind_some' hF9
  simp only [run_mv, run_call, B0, reduceIte, reduceEqDiff]
  refine call1 rfl (mapM1 snap_lst (mapM1 snap_int mapM0)) (laws_szIntS_x (fun b hb => decide_eq_true hb) a_0.Read v7 v11 hx12) ?_
  simp only [run_mv, run_ops_nil, x85_1, run_seq, run_reg, run_bin, put1_some, xlss, run_cond, B0, reduceIte, reduceEqDiff]
  refine cond_split (t := (decide (v11 < 0))) (fun hc14 => ?_) (fun hc14 => ?_)
  · rw [iteT hc14] at hF13
    simp only [run_seq, run_reg, run_mv, run_ops_nil, run_ret, B0, reduceIte, reduceEqDiff]
    have he := some_inj hF13
    subst he
    simp only [end_ret1, B0, reduceIte, reduceEqDiff]
    exact rfl
  rw [iteF hc14] at hF13
  simp only [run_skip, run_seq, run_reg, run_mv, run_ops_nil, run_ret, B0, reduceIte, reduceEqDiff]
  have he := some_inj hF13
  subst he
  simp only [end_ret1, B0, reduceIte, reduceEqDiff]
  exact rfl
end Go.Proofs.Ytdhibknhejhfaaa.X
namespace Go.Proofs.Ytdhibknhejhfaaa.X
open Go
open Nat (reduceEqDiff)
theorem laws_szReaderS_x {W : Nat → Bool} {h : Heap} (hW : ∀ b,
    h.length ≤ b → W b = true) (k : Nat) (a_0 : List Reader) (left_1 : Int) (r : Int) (hF : laws_szReaderS k a_0 left_1 = some r) : Ret E W 64 [lst Reader.cells a_0,
    .int .i64 left_1] h (fun v h' => cut h.length h' E.sz false 9 v = some (.int .i64 r)) := by
  refine Ret.of (fn := x64) rfl (Run.of ?_)
  unfold laws_szReaderS at hF
  have zf0 : argFr [lst Reader.cells a_0, .int .i64 left_1] 0 = lst Reader.cells a_0 := rfl
  have zf1 : argFr [lst Reader.cells a_0, .int .i64 left_1] 1 = .int .i64 left_1 := rfl
  generalize argFr [lst Reader.cells a_0, .int .i64 left_1] = fr0 at zf0 zf1 ⊢
  have hS : Sep h h.length [] := Sep.nil h
  simp only [x64, run_seq, run_reg, run_mv, run_ops_nil, x64_9, zf1, zf0, run_len, put1_some, xlen_lst, run_bin, xsub, x64_8, xlss, run_cond, B0, reduceIte, reduceEqDiff]
  refine cond_split (t := (decide ((IntKind.wrap .i64 (left_1 - (List.length a_0 : Int))) < 0))) (fun hc1 => ?_) (fun hc1 => ?_)
  · rw [iteT hc1] at hF
    simp only [run_seq, run_reg, run_mv, run_ops_nil, run_ret, B0, reduceIte, reduceEqDiff]
    have he := some_inj hF
    subst he
    simp only [end_ret1, B0, reduceIte, reduceEqDiff]
    exact rfl
  rw [iteF hc1] at hF
  simp only [run_skip, x64_7, run_seq, run_reg, run_mv, run_ops_nil, B0, reduceIte, reduceEqDiff]
  obtain ⟨oc8, hX10, hk11⟩ := jn_some hF
  simp only [x64_6]
  refine loopF_j (σ := Int × Int) (fun s40 => laws_szReaderS_b1 a_0 s40.1 s40.2)
      (fun s fr' h' => fr' 0 = lst Reader.cells a_0 ∧ fr' 1 = .int .i64 s.1 ∧ fr' 5 = .int .i64 s.2 ∧ Sep h' h.length ([])) hX10 ⟨by simp only [zf0, B0, reduceIte, reduceEqDiff],
      by simp only [B0, reduceIte, reduceEqDiff], by simp only [B0, reduceIte, reduceEqDiff], hS⟩ (fun _ _ _ h => h) ?_ ?_
  · rintro ⟨s4, s5⟩ fr20 h21 ⟨f23, f24, f25, hS22⟩ oc9 hF12 hr13 Q14 hN15 hK16 hR17 hE18
    dsimp only at *
    unfold laws_szReaderS_b1 at hF12
    simp only [x64_4, run_seq, run_reg, f25, run_mv, f23, run_len, put1_some, xlen_lst, run_bin, xlss, run_ops_nil, run_cond, B0, reduceIte, reduceEqDiff]
    refine cond_split (t := (decide (s5 < (List.length a_0 : Int)))) (fun hc27 => ?_) (fun hc27 => ?_)
    · rw [iteT hc27] at hF12
      obtain ⟨x28, hx29, hF30⟩ := bind_some' hF12
      simp only [run_skip, x64_3, run_seq, run_block, x64_2, run_reg, f23, run_mv, f25, run_ia, B0, reduceIte, reduceEqDiff]
      refine put1_eq (v := .ref (Reader.cells x28) 0) (xia_lst hx29 rfl) ?_
      simp only [run_ld, B0, reduceIte, reduceEqDiff]
      refine put1_eq (v := .agg [.bool x28.In, .int .i64 x28.Generation, lst cI x28.Share, lst cI x28.Read]) rfl ?_
      obtain ⟨v31, hx32, hF33⟩ := bind_some' hF30
      simp only [f24, run_mv, run_call, B0, reduceIte, reduceEqDiff]
      refine call1 rfl (mapM1 (snap_agg (mapM1 snap_bool (mapM1 snap_int (mapM1 snap_lst (mapM1 snap_lst mapM0))))) (mapM1 snap_int mapM0)) (laws_szReader_x
          (fun b hb => decide_eq_true hb) x28 s4 v31 hx32) ?_
      simp only [run_mv, run_ops_nil, x64_1, run_seq, run_reg, run_bin, put1_some, xlss, run_cond, B0, reduceIte, reduceEqDiff]
      refine cond_split (t := (decide (v31 < 0))) (fun hc34 => ?_) (fun hc34 => ?_)
      · rw [iteT hc34] at hF33
        simp only [run_seq, run_reg, run_mv, run_ops_nil, run_ret, B0, reduceIte, reduceEqDiff]
        have e35 := some_inj hF33
        subst e35
        have ho36 := hr13 _ rfl
        have hk37 := hk11
        rw [ho36] at hk37
        dsimp only [jnO] at hk37
        apply hR17
        have he := some_inj hk37
        subst he
        simp only [end_ret1, B0, reduceIte, reduceEqDiff]
        exact rfl
      rw [iteF hc34] at hF33
      simp only [run_skip, run_blk, run_reg, f25, run_mv, run_bin, put1_some, xadd, run_ops_nil, run_nil, B0, reduceIte, reduceEqDiff]
      have e38 := some_inj hF33
      exact hN15 _ _ _ e38.symm ⟨by simp only [f23, B0, reduceIte, reduceEqDiff], by simp only [B0, reduceIte, reduceEqDiff], by simp only [B0, reduceIte, reduceEqDiff], hS22⟩
    rw [iteF hc27] at hF12
    simp only [run_exit, out_code, out_nil, B0, reduceIte, reduceEqDiff]
    have e39 := some_inj hF12
    exact hK16 _ _ _ e39.symm ⟨by simp only [f23, B0, reduceIte, reduceEqDiff], by simp only [f24, B0, reduceIte, reduceEqDiff], by simp only [f25, B0, reduceIte, reduceEqDiff],
        hS22⟩
  rintro ⟨s41, s42⟩ fr43 h44 rfl ⟨f46, f47, f48, hS45⟩
  dsimp only [jnO] at hk11
  dsimp only at *
  unfold laws_szReaderS_j1 at hk11
  simp only [run_seq, run_reg, f47, run_mv, run_ops_nil, run_ret, B0, reduceIte, reduceEqDiff]
  have he := some_inj hk11
  subst he
  simp only [end_ret1, B0, reduceIte, reduceEqDiff]
  exact rfl
theorem laws_szReaders_x {W : Nat → Bool} {h : Heap} (hW : ∀ b,
    h.length ≤ b → W b = true) (k : Nat) (a_0 : Readers_) (left_1 : Int) (r : Int) (hF : laws_szReaders k a_0 left_1 = some r) : Ret E W 30 [.agg [.int .i64 a_0.Generation,
    lst Reader.cells a_0.Readers, lst cI a_0.Committed, lst cI a_0.Ends], .int .i64 left_1] h (fun v h' => cut h.length h' E.sz false 9 v = some (.int .i64 r)) := by
  refine Ret.of (fn := x30) rfl (Run.of ?_)
  unfold laws_szReaders at hF
  have zf0 : argFr [.agg [.int .i64 a_0.Generation, lst Reader.cells a_0.Readers, lst cI a_0.Committed, lst cI a_0.Ends], .int .i64 left_1] 0 = .agg [.int .i64 a_0.Generation,
      lst Reader.cells a_0.Readers, lst cI a_0.Committed, lst cI a_0.Ends] := rfl
  have zf1 : argFr [.agg [.int .i64 a_0.Generation, lst Reader.cells a_0.Readers, lst cI a_0.Committed, lst cI a_0.Ends], .int .i64 left_1] 1 = .int .i64 left_1 := rfl
  generalize argFr [.agg [.int .i64 a_0.Generation, lst Reader.cells a_0.Readers, lst cI a_0.Committed, lst cI a_0.Ends], .int .i64 left_1] = fr0 at zf0 zf1 ⊢
  have hS : Sep h h.length [] := Sep.nil h
  simp only [x30, run_seq, run_reg, run_box, zf0, B0, reduceIte, reduceEqDiff]
  refine put2_boxC (cs := [.int .i64 a_0.Generation, lst Reader.cells a_0.Readers, lst cI a_0.Committed, lst cI a_0.Ends]) hS rfl rfl rfl (fun b1 h2 hS3 => ?_)
  simp only [run_mv, run_ops_nil, B0, reduceIte, reduceEqDiff]
  refine frz_stepC hS3 hW (by simp only [B0, reduceIte, reduceEqDiff]) (fun h5 hS6 => ?_)
  simp only [run_frz_nil, x30_6, run_seq, run_reg, run_fa, put1_some, Nat.reduceAdd, Nat.zero_add, Nat.add_zero, xfa_ref, run_ld, B0, reduceIte, reduceEqDiff]
  refine put1_eq (v := lst Reader.cells a_0.Readers) rfl ?_
  obtain ⟨v7, hx8, hF9⟩ := bind_some' hF
  simp only [zf1, run_mv, run_call, B0, reduceIte, reduceEqDiff]
  refine call1 rfl (mapM1 snap_lst (mapM1 snap_int mapM0)) (laws_szReaderS_x (fun b hb => decide_eq_true hb) k a_0.Readers left_1 v7 hx8) ?_
  simp only [run_mv, run_ops_nil, x30_5, run_seq, run_reg, run_bin, put1_some, xlss, run_cond, B0, reduceIte, reduceEqDiff]
  refine cond_split (t := (decide (v7 < 0))) (fun hc10 => ?_) (fun hc10 => ?_)
  · rw [iteT hc10] at hF9
    simp only [run_seq, run_reg, run_mv, run_ops_nil, run_ret, B0, reduceIte, reduceEqDiff]
    have he := some_inj hF9
    subst he
    simp only [end_ret1, B0, reduceIte, reduceEqDiff]
    exact rfl
  rw [iteF hc10] at hF9
  simp only [run_skip, x30_4, run_seq, run_reg, run_fa, put1_some, Nat.reduceAdd, Nat.zero_add, Nat.add_zero, xfa_ref, run_ld, B0, reduceIte, reduceEqDiff]
  refine put1_eq (v := lst cI a_0.Committed) rfl ?_
  obtain ⟨v11, hx12, hF13⟩ := bind_some' hF9
  simp only [run_mv, run_call, B0, reduceIte, reduceEqDiff]
  refine call1 rfl (mapM1 snap_lst (mapM1 snap_int mapM0)) (laws_szIntS_x (fun b hb => decide_eq_true hb) a_0.Committed v7 v11 hx12) ?_
  simp only [run_mv, run_ops_nil, x30_3, run_seq, run_reg, run_bin, put1_some, xlss, run_cond, B0, reduceIte, reduceEqDiff]
  refine cond_split (t := (decide (v11 < 0))) (fun hc14 => ?_) (fun hc14 => ?_)
  · rw [iteT hc14] at hF13
    simp only [run_seq, run_reg, run_mv, run_ops_nil, run_ret, B0, reduceIte, reduceEqDiff]
    have he := some_inj hF13
    subst he
    simp only [end_ret1, B0, reduceIte, reduceEqDiff]
    exact rfl
  rw [iteF hc14] at hF13
  simp only [run_skip, x30_2, run_seq, run_reg, run_fa, put1_some, Nat.reduceAdd, Nat.zero_add, Nat.add_zero, xfa_ref, run_ld, B0, reduceIte, reduceEqDiff]
  refine put1_eq (v := lst cI a_0.Ends) rfl ?_
  obtain ⟨v15, hx16, hF17⟩ := bind_some' hF13
  simp only [run_mv, run_call, B0, reduceIte, reduceEqDiff]
  refine call1 rfl (mapM1 snap_lst (mapM1 snap_int mapM0)) (laws_szIntS_x (fun b hb => decide_eq_true hb) a_0.Ends v11 v15 hx16) ?_
  simp only [run_mv, run_ops_nil, x30_1, run_seq, run_reg, run_bin, put1_some, xlss, run_cond, B0, reduceIte, reduceEqDiff]
  refine cond_split (t := (decide (v15 < 0))) (fun hc18 => ?_) (fun hc18 => ?_)
  · rw [iteT hc18] at hF17
    simp only [run_seq, run_reg, run_mv, run_ops_nil, run_ret, B0, reduceIte, reduceEqDiff]
    have he := some_inj hF17
    subst he
    simp only [end_ret1, B0, reduceIte, reduceEqDiff]
    exact rfl
  rw [iteF hc18] at hF17
  simp only [run_skip, run_seq, run_reg, run_mv, run_ops_nil, run_ret, B0, reduceIte, reduceEqDiff]
  have he := some_inj hF17
  subst he
  simp only [end_ret1, B0, reduceIte, reduceEqDiff]
  exact rfl
theorem spec_l1In_x {W : Nat → Bool} {h : Heap} (hW : ∀ b,
    h.length ≤ b → W b = true) (n_0 : Int) (lo_1 : Int) (hi_2 : Int) (r : Bool) (hF : some (spec_l1In n_0 lo_1 hi_2) = some r) : Ret E W 69 [.int .i64 n_0, .int .i64 lo_1,
    .int .i64 hi_2] h (fun v h' => cut h.length h' E.sz false 9 v = some (.bool r)) := by
  refine Ret.of (fn := x69) rfl (Run.of ?_)
  unfold spec_l1In at hF
  have zf0 : argFr [.int .i64 n_0, .int .i64 lo_1, .int .i64 hi_2] 0 = .int .i64 n_0 := rfl
  have zf1 : argFr [.int .i64 n_0, .int .i64 lo_1, .int .i64 hi_2] 1 = .int .i64 lo_1 := rfl
  have zf2 : argFr [.int .i64 n_0, .int .i64 lo_1, .int .i64 hi_2] 2 = .int .i64 hi_2 := rfl
  generalize argFr [.int .i64 n_0, .int .i64 lo_1, .int .i64 hi_2] = fr0 at zf0 zf1 zf2 ⊢
  have hS : Sep h h.length [] := Sep.nil h
  simp only [x69, run_seq, run_reg, run_mv, run_ops_nil, x69_1, zf0, zf1, run_bin, put1_some, xgeq, B0, reduceIte, reduceEqDiff]
  refine ops_j 4 (fun fr' h' => Sep h' h.length ([]) ∧ fr' 14 = .bool ((decide (lo_1 ≤ n_0)) && (decide (n_0 ≤ hi_2)))) (fun Q1 hN2 => ?_) ?_
  · simp only [List.take_succ_cons, List.take_zero]
    simp only [run_guard (g := 10), B0, reduceIte, reduceEqDiff]
    refine guard_split (t := (decide (lo_1 ≤ n_0))) (fun hg3 => ?_) (fun hg3 => ?_)
    · simp only [hg3, run_guard (g := 10), guard_true, zf0, run_mv, zf2, run_bin, put1_some, xleq, run_pick, xpick_t, run_ops_nil, run_nil, B0, reduceIte, reduceEqDiff]
      exact hN2 _ _ ⟨hS, by rw [andT hg3]; simp only [B0, reduceIte, reduceEqDiff]⟩
    · simp only [hg3, run_guard (g := 10), guard_off, run_pick, put1_some, xpick_f, run_ops_nil, run_nil, B0, reduceIte, reduceEqDiff]
      exact hN2 _ _ ⟨hS, by rw [andF hg3]; simp only [B0, reduceIte, reduceEqDiff]⟩
  rintro fr4 h6 ⟨hS7, f5⟩
  simp only [List.drop_succ_cons, List.drop_zero]
  simp only [f5, run_mv, run_ops_nil, run_ret, B0, reduceIte, reduceEqDiff]
  have he := some_inj hF
  subst he
  simp only [end_ret1, B0, reduceIte, reduceEqDiff]
  exact rfl
theorem spec_l14Share_x {W : Nat → Bool} {h : Heap} (hW : ∀ b,
    h.length ≤ b → W b = true) (r_0 : Readers_) (k_1 : Int) (r : List Int) (hF : spec_l14Share r_0 k_1 = some r) : Ret E W 73 [.agg [.int .i64 r_0.Generation,
    lst Reader.cells r_0.Readers, lst cI r_0.Committed, lst cI r_0.Ends], .int .i64 k_1] h (fun v h' => ∃ rv0 rc0,
    v = rv0 ∧ SlF cI 1 3 rv0 r rc0 ∧ Sep h' h.length (rc0 ++ ([]))) := by
  refine Ret.of (fn := x73) rfl (Run.of ?_)
  unfold spec_l14Share at hF
  have zf0 : argFr [.agg [.int .i64 r_0.Generation, lst Reader.cells r_0.Readers, lst cI r_0.Committed, lst cI r_0.Ends], .int .i64 k_1] 0 = .agg [.int .i64 r_0.Generation,
      lst Reader.cells r_0.Readers, lst cI r_0.Committed, lst cI r_0.Ends] := rfl
  have zf1 : argFr [.agg [.int .i64 r_0.Generation, lst Reader.cells r_0.Readers, lst cI r_0.Committed, lst cI r_0.Ends], .int .i64 k_1] 1 = .int .i64 k_1 := rfl
  generalize argFr [.agg [.int .i64 r_0.Generation, lst Reader.cells r_0.Readers, lst cI r_0.Committed, lst cI r_0.Ends], .int .i64 k_1] = fr0 at zf0 zf1 ⊢
  have hS : Sep h h.length [] := Sep.nil h
  simp only [x73, run_seq, run_reg, run_box, zf0, B0, reduceIte, reduceEqDiff]
  refine put2_boxC (cs := [.int .i64 r_0.Generation, lst Reader.cells r_0.Readers, lst cI r_0.Committed, lst cI r_0.Ends]) hS rfl rfl rfl (fun b1 h2 hS3 => ?_)
  simp only [run_mv, run_ops_nil, B0, reduceIte, reduceEqDiff]
  refine frz_stepC hS3 hW (by simp only [B0, reduceIte, reduceEqDiff]) (fun h5 hS6 => ?_)
  simp only [run_frz_nil, x73_18, run_seq, run_reg, run_mv, run_ops_nil, x73_17, x73_16, run_fa, put1_some, Nat.reduceAdd, Nat.zero_add, Nat.add_zero, xfa_ref, run_ld, B0,
      reduceIte, reduceEqDiff]
  refine put1_eq (v := lst Reader.cells r_0.Readers) rfl ?_
  simp only [run_len, put1_some, xlen_lst, run_mv, run_ops_nil, B0, reduceIte, reduceEqDiff]
  obtain ⟨oc14, hX16, hk17⟩ := jn_some hF
  simp only [x73_7]
  refine rangeL_j (σ := Int × Int) r_0.Readers (fun i12 x13 s71 => spec_l14Share_b1 k_1 i12 x13 s71.1 s71.2)
      (fun s fr' h' => fr' 1 = .int .i64 k_1 ∧ fr' 2 = .ref [.int .i64 r_0.Generation, lst Reader.cells r_0.Readers, lst cI r_0.Committed,
      lst cI r_0.Ends] 0 ∧ fr' 5 = .int .i64 s.1 ∧ fr' 6 = .int .i64 s.2 ∧ fr' 12 = lst Reader.cells r_0.Readers ∧ Sep h' h.length ([])) hX16 ⟨by simp only [zf1, B0, reduceIte,
      reduceEqDiff], by simp only [B0, reduceIte, reduceEqDiff], by simp only [B0, reduceIte, reduceEqDiff], by simp only [B0, reduceIte, reduceEqDiff], by simp only [B0,
      reduceIte, reduceEqDiff], hS6⟩ (by simp only [B0, reduceIte, reduceEqDiff]) (by simp only [B0, reduceIte,
      reduceEqDiff]) (fun _ _ _ h => h) rfl rfl (fun _ _ _ _ h => h) (fun _ _ _ _ h => h) (fun _ _ _ _ h => h) (by decide) ?_ ?_
  · rintro i12 x13 ⟨s10, s11⟩ fr26 h27 hx34 ⟨f29, f30, f31, f32, f33, hS28⟩ f35 f36 oc15 hF18 hr19 Q20 hN21 hB25 hK22 hR23 hE24
    dsimp only at *
    unfold spec_l14Share_b1 at hF18
    simp only [x73_5, run_seq, run_reg, f35, run_mv, f33, run_ia, B0, reduceIte, reduceEqDiff]
    refine put1_eq (v := .ref (Reader.cells x13) 0) (xia_lstN hx34 rfl) ?_
    simp only [run_ld, B0, reduceIte, reduceEqDiff]
    refine put1_eq (v := .agg [.bool x13.In, .int .i64 x13.Generation, lst cI x13.Share, lst cI x13.Read]) rfl ?_
    simp only [run_new, B0, reduceIte, reduceEqDiff]
    refine put2_newC hS28 (fun b37 h38 hS39 => ?_)
    simp only [run_mv, run_st, B0, reduceIte, reduceEqDiff]
    refine put2_stCx (us := [.bool x13.In, .int .i64 x13.Generation, lst cI x13.Share, lst cI x13.Read]) rfl (cs' := [.bool x13.In, .int .i64 x13.Generation, lst cI x13.Share,
        lst cI x13.Read]) hS39 hW rfl rfl (Nat.le_of_ble_eq_true rfl) rfl (fun h41 hS42 => ?_)
    simp only [run_ops_nil, B0, reduceIte, reduceEqDiff]
    refine frz_stepC hS42 hW (by simp only [B0, reduceIte, reduceEqDiff]) (fun h43 hS44 => ?_)
    simp only [run_frz_nil, x73_4, run_seq, run_reg, run_mv, f29, run_bin, put1_some, xeql, run_ops_nil, x73_1, run_cond, B0, reduceIte, reduceEqDiff]
    obtain ⟨s45, hX47, hk48⟩ := bind_some' hF18
    refine cond_j (t := (decide ((i12 : Int) = k_1))) (fun fr' h' => fr' 1 = .int .i64 k_1 ∧ fr' 2 = .ref [.int .i64 r_0.Generation, lst Reader.cells r_0.Readers,
        lst cI r_0.Committed, lst cI r_0.Ends] 0 ∧ fr' 5 = .int .i64 s10 ∧ fr' 6 = .int .i64 s45 ∧ fr' 8 = .ref [.bool x13.In, .int .i64 x13.Generation, lst cI x13.Share,
        lst cI x13.Read] 0 ∧ fr' 12 = lst Reader.cells r_0.Readers ∧ fr' 13 = .int .i64 (List.length r_0.Readers : Int) ∧ fr' 14 = .int .i64 (i12 : Int) ∧ Sep h' h.length ([]))
        (fun Q49 hN50 hR51 hE52 => ⟨fun hc53 => ?_, fun hc53 => ?_⟩) ?_
    · rw [iteT hc53] at hX47
      simp only [run_reg, f31, run_mv, run_ops_nil, run_nil, B0, reduceIte, reduceEqDiff]
      have e54 := some_inj hX47
      subst e54
      exact hN50 _ _ ⟨by simp only [f29, B0, reduceIte, reduceEqDiff], by simp only [f30, B0, reduceIte, reduceEqDiff], by simp only [f31, B0, reduceIte, reduceEqDiff],
          by simp only [B0, reduceIte, reduceEqDiff], by simp only [B0, reduceIte, reduceEqDiff], by simp only [f33, B0, reduceIte, reduceEqDiff], by simp only [f36, B0,
          reduceIte, reduceEqDiff], by simp only [f35, B0, reduceIte, reduceEqDiff], hS44⟩
    · rw [iteF hc53] at hX47
      simp only [run_skip, run_nil, B0, reduceIte, reduceEqDiff]
      have e55 := some_inj hX47
      subst e55
      exact hN50 _ _ ⟨by simp only [f29, B0, reduceIte, reduceEqDiff], by simp only [f30, B0, reduceIte, reduceEqDiff], by simp only [f31, B0, reduceIte, reduceEqDiff],
          by simp only [f32, B0, reduceIte, reduceEqDiff], by simp only [B0, reduceIte, reduceEqDiff], by simp only [f33, B0, reduceIte, reduceEqDiff], by simp only [f36, B0,
          reduceIte, reduceEqDiff], by simp only [f35, B0, reduceIte, reduceEqDiff], hS44⟩
    rintro fr56 h57 ⟨f59, f60, f61, f62, f63, f64, f65, f66, hS58⟩
    unfold spec_l14Share_j1 at hk48
    simp only [x73_3, run_seq, run_reg, f63, run_fa, put1_some, Nat.reduceAdd, Nat.zero_add, Nat.add_zero, xfa_ref, run_ld, B0, reduceIte, reduceEqDiff]
    refine put1_eq (v := .bool x13.In) rfl ?_
    simp only [run_ops_nil, x73_2, run_cond, B0, reduceIte, reduceEqDiff]
    refine cond_split (t := x13.In) (fun hc67 => ?_) (fun hc67 => ?_)
    · rw [iteT hc67] at hk48
      simp only [run_reg, f61, run_mv, run_bin, put1_some, xadd, run_ops_nil, run_nil, B0, reduceIte, reduceEqDiff]
      have e68 := some_inj hk48
      exact hN21 _ _ _ e68.symm ⟨by simp only [f59, B0, reduceIte, reduceEqDiff], by simp only [f60, B0, reduceIte, reduceEqDiff], by simp only [B0, reduceIte, reduceEqDiff],
          by simp only [f62, B0, reduceIte, reduceEqDiff], by simp only [f64, B0, reduceIte, reduceEqDiff], hS58⟩ (by simp only [f66, B0, reduceIte,
          reduceEqDiff]) (by simp only [f65, B0, reduceIte, reduceEqDiff])
    rw [iteF hc67] at hk48
    simp only [run_skip, run_nil, B0, reduceIte, reduceEqDiff]
    have e69 := some_inj hk48
    exact hN21 _ _ _ e69.symm ⟨by simp only [f59, B0, reduceIte, reduceEqDiff], by simp only [f60, B0, reduceIte, reduceEqDiff], by simp only [f61, B0, reduceIte, reduceEqDiff],
        by simp only [f62, B0, reduceIte, reduceEqDiff], by simp only [f64, B0, reduceIte, reduceEqDiff], hS58⟩ (by simp only [f66, B0, reduceIte,
        reduceEqDiff]) (by simp only [f65, B0, reduceIte, reduceEqDiff])
  rintro ⟨s72, s73⟩ fr74 h75 rfl ⟨f77, f78, f79, f80, f81, hS76⟩
  dsimp only [jnO] at hk17
  dsimp only at *
  unfold spec_l14Share_j3 at hk17
  simp only [x73_15, run_seq, run_reg, run_mv, run_ops_nil, x73_14, f78, run_fa, put1_some, Nat.reduceAdd, Nat.zero_add, Nat.add_zero, xfa_ref, run_ld, B0, reduceIte, reduceEqDiff]
  refine put1_eq (v := lst cI r_0.Ends) rfl ?_
  simp only [run_len, put1_some, xlen_lst, run_mv, run_ops_nil, B0, reduceIte, reduceEqDiff]
  obtain ⟨oc94, hX96, hk97⟩ := jn_some hk17
  simp only [x73_13]
  refine rangeN_j (σ := (List Int)) (fun i92 s153 => spec_l14Share_b2 s72 s73 i92 s153) (fun s fr' h' => ∃ v89 c90,
      fr' 5 = .int .i64 s72 ∧ fr' 6 = .int .i64 s73 ∧ fr' 9 = v89 ∧ SlF cI 1 3 v89 s c90 ∧ Sep h' h.length (c90 ++ ([]))) hX96 ⟨.nil, [], by simp only [f79, B0, reduceIte,
      reduceEqDiff], by simp only [f80, B0, reduceIte, reduceEqDiff], by simp only [B0, reduceIte, reduceEqDiff], SlF.nil, (hS76 : Sep _ h.length ([]))⟩ (by simp only [B0,
      reduceIte, reduceEqDiff]) (by simp only [B0, reduceIte,
      reduceEqDiff]) (fun _ _ _ h => h) rfl rfl (fun _ _ _ _ h => h) (fun _ _ _ _ h => h) (fun _ _ _ _ h => h) (by decide) ?_ ?_
  · rintro i92 s87 fr106 h107 hx112 ⟨v89, c90, f109, f110, f111, hv91, hS108⟩ f113 f114 oc95 hF98 hr99 Q100 hN101 hB105 hK102 hR103 hE104
    unfold spec_l14Share_b2 at hF98
    simp only [x73_11, run_seq, run_reg, f113, run_mv, run_ops_nil, x73_10, f109, run_bin, put1_some, xgtr, B0, reduceIte, reduceEqDiff]
    obtain ⟨v118, hx119, hF120⟩ := bind_some' hF98
    refine ops_j 6 (fun fr' h' => Sep h' h.length (c90 ++ ([])) ∧ fr' 42 = .bool v118 ∧ fr' 5 = .int .i64 s72 ∧ fr' 6 = .int .i64 s73 ∧ fr' 9 = v89 ∧ fr' 10 = .int .i64
        (i92 : Int) ∧ fr' 30 = .int .i64 (List.length r_0.Ends : Int) ∧ fr' 31 = .int .i64 (i92 : Int)) (fun Q115 hN116 => ?_) ?_
    · simp only [List.take_succ_cons, List.take_zero]
      simp only [run_guard (g := 36), B0, reduceIte, reduceEqDiff]
      refine guard_split (t := (decide ((0 : Int) < s72))) (fun hg117 => ?_) (fun hg117 => ?_)
      · rw [iteT hg117] at hx119
        obtain ⟨hp121, hF122⟩ := ck_some hx119
        simp only [hg117, run_guard (g := 36), guard_true, run_mv, f109, run_bin, put1_some, xrem_nz (n := s72) hp121, f110, xeql, run_pick, xpick_t, run_ops_nil, run_nil, B0,
            reduceIte, reduceEqDiff]
        have e123 := some_inj hF122
        exact hN116 _ _ ⟨hS108, by rw [← e123]; simp only [B0, reduceIte, reduceEqDiff], by simp only [f109, B0, reduceIte, reduceEqDiff], by simp only [f110, B0, reduceIte,
            reduceEqDiff], by simp only [f111, B0, reduceIte, reduceEqDiff], by simp only [B0, reduceIte, reduceEqDiff], by simp only [f114, B0, reduceIte, reduceEqDiff],
            by simp only [f113, B0, reduceIte, reduceEqDiff]⟩
      · rw [iteF hg117] at hx119
        simp only [hg117, run_guard (g := 36), guard_off, run_pick, put1_some, xpick_f, run_ops_nil, run_nil, B0, reduceIte, reduceEqDiff]
        have e124 := some_inj hx119
        exact hN116 _ _ ⟨hS108, by rw [← e124]; simp only [B0, reduceIte, reduceEqDiff], by simp only [f109, B0, reduceIte, reduceEqDiff], by simp only [f110, B0, reduceIte,
            reduceEqDiff], by simp only [f111, B0, reduceIte, reduceEqDiff], by simp only [B0, reduceIte, reduceEqDiff], by simp only [f114, B0, reduceIte, reduceEqDiff],
            by simp only [f113, B0, reduceIte, reduceEqDiff]⟩
    rintro fr125 h133 ⟨hS134, f126, f127, f128, f129, f130, f131, f132⟩
    simp only [List.drop_succ_cons, List.drop_zero]
    simp only [run_ops_nil, x73_9, f126, run_cond, B0, reduceIte, reduceEqDiff]
    refine cond_split (t := v118) (fun hc135 => ?_) (fun hc135 => ?_)
    · rw [iteT hc135] at hF120
      simp only [x73_8, run_reg, f129, run_mv, f130, run_buildS, evp, B0, reduceIte, reduceEqDiff]
      refine put2_buildSF (n := 1) (f := cI) [(i92 : Int)] hS134 rfl rfl (fun v136 c137 h138 hv139 hS140 => ?_)
      simp only [run_app, B0, reduceIte, reduceEqDiff]
      obtain ⟨l142, hx143, hF144⟩ := bind_some' hF120
      refine put2_appF (f := cI) hv91 (Sep.m1 hS140) hW (fun _ => rfl) (fun _ => rfl) (SlF.first hv139 hS140 (fun _ => rfl)) hx143 (fun v145 c146 h147 hv148 hS149 => ?_)
      simp only [run_mv, run_ops_nil, run_nil, B0, reduceIte, reduceEqDiff]
      have e151 := some_inj hF144
      exact hN101 _ _ _ e151.symm ⟨v145, c146, by simp only [f127, B0, reduceIte, reduceEqDiff], by simp only [f128, B0, reduceIte, reduceEqDiff], by simp only [B0, reduceIte,
          reduceEqDiff], hv148, (Sep.dc (Sep.m1 hS149))⟩ (by simp only [f132, B0, reduceIte, reduceEqDiff]) (by simp only [f131, B0, reduceIte, reduceEqDiff])
    rw [iteF hc135] at hF120
    simp only [run_skip, run_nil, B0, reduceIte, reduceEqDiff]
    have e152 := some_inj hF120
    exact hN101 _ _ _ e152.symm ⟨v89, c90, by simp only [f127, B0, reduceIte, reduceEqDiff], by simp only [f128, B0, reduceIte, reduceEqDiff], by simp only [f129, B0, reduceIte,
        reduceEqDiff], hv91, hS134⟩ (by simp only [f132, B0, reduceIte, reduceEqDiff]) (by simp only [f131, B0, reduceIte, reduceEqDiff])
  rintro s154 fr159 h160 rfl ⟨v156, c157, f162, f163, f164, hv158, hS161⟩
  dsimp only [jnO] at hk97
  unfold spec_l14Share_j2 at hk97
  simp only [run_seq, run_reg, f164, run_mv, run_ops_nil, run_ret, B0, reduceIte, reduceEqDiff]
  have he := some_inj hk97
  subst he
  simp only [end_ret1, B0, reduceIte, reduceEqDiff]
  exact ⟨v156, c157, by first | trivial | rfl, hv158, hS161⟩
theorem spec_l1Has_x {W : Nat → Bool} {h : Heap} (hW : ∀ b,
    h.length ≤ b → W b = true) (l_0 : List Int) (n_1 : Int) (r : Bool) (hF : spec_l1Has l_0 n_1 = some r) : Ret E W 74 [lst cI l_0,
    .int .i64 n_1] h (fun v h' => cut h.length h' E.sz false 9 v = some (.bool r)) := by
  refine Ret.of (fn := x74) rfl (Run.of ?_)
  unfold spec_l1Has at hF
  have zf0 : argFr [lst cI l_0, .int .i64 n_1] 0 = lst cI l_0 := rfl
  have zf1 : argFr [lst cI l_0, .int .i64 n_1] 1 = .int .i64 n_1 := rfl
  generalize argFr [lst cI l_0, .int .i64 n_1] = fr0 at zf0 zf1 ⊢
  have hS : Sep h h.length [] := Sep.nil h
  simp only [x74, run_seq, run_reg, run_mv, run_ops_nil, x74_5, zf0, run_len, put1_some, xlen_lst, B0, reduceIte, reduceEqDiff]
  obtain ⟨oc3, hX5, hk6⟩ := jn_some hF
  simp only [x74_4]
  refine rangeL_j (σ := Unit) l_0 (fun i1 x2 _ => spec_l1Has_b1 n_1 i1 x2 ) (fun s fr' h' => fr' 1 = .int .i64 n_1 ∧ fr' 7 = lst cI l_0 ∧ Sep h' h.length
      ([])) hX5 ⟨by simp only [zf1, B0, reduceIte, reduceEqDiff], by simp only [B0, reduceIte, reduceEqDiff], hS⟩ (by simp only [B0, reduceIte, reduceEqDiff]) (by simp only [B0,
      reduceIte, reduceEqDiff]) (fun _ _ _ h => h) rfl rfl (fun _ _ _ _ h => h) (fun _ _ _ _ h => h) (fun _ _ _ _ h => h) (by decide) ?_ ?_
  · rintro i1 x2 _ fr15 h16 hx20 ⟨f18, f19, hS17⟩ f21 f22 oc4 hF7 hr8 Q9 hN10 hB14 hK11 hR12 hE13
    unfold spec_l1Has_b1 at hF7
    simp only [x74_2, run_seq, run_reg, f19, f21, run_ia, B0, reduceIte, reduceEqDiff]
    refine put1_eq (v := .ref (cI x2) 0) (xia_lstN hx20 rfl) ?_
    simp only [run_ld, B0, reduceIte, reduceEqDiff]
    refine put1_eq (v := .int .i64 x2) rfl ?_
    simp only [run_mv, run_ops_nil, x74_1, run_seq, run_reg, f18, run_bin, put1_some, xeql, run_cond, B0, reduceIte, reduceEqDiff]
    refine cond_split (t := (decide (x2 = n_1))) (fun hc23 => ?_) (fun hc23 => ?_)
    · rw [iteT hc23] at hF7
      simp only [run_seq, run_reg, run_mv, run_ops_nil, run_ret, B0, reduceIte, reduceEqDiff]
      have e24 := some_inj hF7
      subst e24
      have ho25 := hr8 _ rfl
      have hk26 := hk6
      rw [ho25] at hk26
      dsimp only [jnO] at hk26
      apply hR12
      have he := some_inj hk26
      subst he
      simp only [end_ret1, B0, reduceIte, reduceEqDiff]
      exact rfl
    rw [iteF hc23] at hF7
    simp only [run_skip, run_nil, B0, reduceIte, reduceEqDiff]
    have e27 := some_inj hF7
    exact hN10 _ _ _ e27.symm ⟨by simp only [f18, B0, reduceIte, reduceEqDiff], by simp only [f19, B0, reduceIte, reduceEqDiff], hS17⟩ (by simp only [f21, B0, reduceIte,
        reduceEqDiff]) (by simp only [f22, B0, reduceIte, reduceEqDiff])
  rintro _ fr29 h30 rfl ⟨f32, f33, hS31⟩
  dsimp only [jnO] at hk6
  unfold spec_l1Has_j1 at hk6
  simp only [run_seq, run_reg, run_mv, run_ops_nil, run_ret, B0, reduceIte, reduceEqDiff]
  have he := some_inj hk6
  subst he
  simp only [end_ret1, B0, reduceIte, reduceEqDiff]
  exact rfl
theorem spec_l6Group_x {W : Nat → Bool} {h : Heap} (hW : ∀ b,
    h.length ≤ b → W b = true) (l_0 : List Int) (many_1 : Int) (r : Bool) (hF : spec_l6Group l_0 many_1 = some r) : Ret E W 87 [lst cI l_0,
    .int .i64 many_1] h (fun v h' => cut h.length h' E.sz false 9 v = some (.bool r)) := by
  refine Ret.of (fn := x87) rfl (Run.of ?_)
  unfold spec_l6Group at hF
  have zf0 : argFr [lst cI l_0, .int .i64 many_1] 0 = lst cI l_0 := rfl
  have zf1 : argFr [lst cI l_0, .int .i64 many_1] 1 = .int .i64 many_1 := rfl
  generalize argFr [lst cI l_0, .int .i64 many_1] = fr0 at zf0 zf1 ⊢
  have hS : Sep h h.length [] := Sep.nil h
  simp only [x87, run_seq, run_reg, run_mv, run_ops_nil, x87_5, zf0, run_len, put1_some, xlen_lst, B0, reduceIte, reduceEqDiff]
  obtain ⟨oc3, hX5, hk6⟩ := jn_some hF
  simp only [x87_4]
  refine rangeL_j (σ := Unit) l_0 (fun i1 x2 _ => spec_l6Group_b1 l_0 many_1 i1 x2 )
      (fun s fr' h' => fr' 0 = lst cI l_0 ∧ fr' 1 = .int .i64 many_1 ∧ fr' 7 = lst cI l_0 ∧ Sep h' h.length ([])) hX5 ⟨by simp only [zf0, B0, reduceIte, reduceEqDiff],
      by simp only [zf1, B0, reduceIte, reduceEqDiff], by simp only [B0, reduceIte, reduceEqDiff], hS⟩ (by simp only [B0, reduceIte, reduceEqDiff]) (by simp only [B0, reduceIte,
      reduceEqDiff]) (fun _ _ _ h => h) rfl rfl (fun _ _ _ _ h => h) (fun _ _ _ _ h => h) (fun _ _ _ _ h => h) (by decide) ?_ ?_
  · rintro i1 x2 _ fr15 h16 hx21 ⟨f18, f19, f20, hS17⟩ f22 f23 oc4 hF7 hr8 Q9 hN10 hB14 hK11 hR12 hE13
    unfold spec_l6Group_b1 at hF7
    simp only [x87_2, run_seq, run_reg, f22, run_mv, f20, run_ia, B0, reduceIte, reduceEqDiff]
    refine put1_eq (v := .ref (cI x2) 0) (xia_lstN hx21 rfl) ?_
    simp only [run_ld, B0, reduceIte, reduceEqDiff]
    refine put1_eq (v := .int .i64 x2) rfl ?_
    simp only [run_mv, run_ops_nil, x87_1, run_seq, run_reg, run_bin, put1_some, xlss, B0, reduceIte, reduceEqDiff]
    refine ops_j 4 (fun fr' h' => Sep h' h.length ([]) ∧ fr' 20 = .bool ((decide (x2 < 0)) || (decide
        (many_1 ≤ x2))) ∧ fr' 0 = lst cI l_0 ∧ fr' 1 = .int .i64 many_1 ∧ fr' 5 = .int .i64 (i1 : Int) ∧ fr' 6 = .int .i64 x2 ∧ fr' 7 = lst cI l_0 ∧ fr' 8 = .int .i64
        (List.length l_0 : Int) ∧ fr' 9 = .int .i64 (i1 : Int)) (fun Q24 hN25 => ?_) ?_
    · simp only [List.take_succ_cons, List.take_zero]
      simp only [run_guard (g := 16), B0, reduceIte, reduceEqDiff]
      refine guard_split (t := (decide (x2 < 0))) (fun hg26 => ?_) (fun hg26 => ?_)
      · simp only [hg26, run_guard (g := 16), guard_off', run_pick, put1_some, xpick_t, run_ops_nil, run_nil, B0, reduceIte, reduceEqDiff]
        exact hN25 _ _ ⟨hS17, by rw [orT hg26]; simp only [B0, reduceIte, reduceEqDiff], by simp only [f18, B0, reduceIte, reduceEqDiff], by simp only [f19, B0, reduceIte,
            reduceEqDiff], by simp only [B0, reduceIte, reduceEqDiff], by simp only [B0, reduceIte, reduceEqDiff], by simp only [f20, B0, reduceIte, reduceEqDiff],
            by simp only [f23, B0, reduceIte, reduceEqDiff], by simp only [f22, B0, reduceIte, reduceEqDiff]⟩
      · simp only [hg26, run_guard (g := 16), guard_false, run_mv, f19, run_bin, put1_some, xgeq, run_pick, xpick_f, run_ops_nil, run_nil, B0, reduceIte, reduceEqDiff]
        exact hN25 _ _ ⟨hS17, by rw [orF hg26]; simp only [B0, reduceIte, reduceEqDiff], by simp only [f18, B0, reduceIte, reduceEqDiff], by simp only [f19, B0, reduceIte,
            reduceEqDiff], by simp only [B0, reduceIte, reduceEqDiff], by simp only [B0, reduceIte, reduceEqDiff], by simp only [f20, B0, reduceIte, reduceEqDiff],
            by simp only [f23, B0, reduceIte, reduceEqDiff], by simp only [f22, B0, reduceIte, reduceEqDiff]⟩
    rintro fr27 h36 ⟨hS37, f28, f29, f30, f31, f32, f33, f34, f35⟩
    simp only [List.drop_succ_cons, List.drop_zero]
    simp only [f28, run_mv, B0, reduceIte, reduceEqDiff]
    obtain ⟨v41, hx42, hF43⟩ := bind_some' hF7
    refine ops_j 12 (fun fr' h' => Sep h' h.length ([]) ∧ fr' 33 = .bool v41 ∧ fr' 0 = lst cI l_0 ∧ fr' 1 = .int .i64 many_1 ∧ fr' 7 = lst cI l_0 ∧ fr' 8 = .int .i64
        (List.length l_0 : Int) ∧ fr' 9 = .int .i64 (i1 : Int)) (fun Q38 hN39 => ?_) ?_
    · simp only [List.take_succ_cons, List.take_zero]
      simp only [run_guard (g := 21), B0, reduceIte, reduceEqDiff]
      refine guard_split (t := ((decide (x2 < 0)) || (decide (many_1 ≤ x2)))) (fun hg40 => ?_) (fun hg40 => ?_)
      · rw [iteT hg40] at hx42
        simp only [hg40, run_guard (g := 21), guard_off', run_guard (g := 24), guard_tup, run_pick, put1_some, xpick_t, run_ops_nil, run_nil, B0, reduceIte, reduceEqDiff]
        have e44 := some_inj hx42
        exact hN39 _ _ ⟨hS37, by rw [← e44]; simp only [B0, reduceIte, reduceEqDiff], by simp only [f29, B0, reduceIte, reduceEqDiff], by simp only [f30, B0, reduceIte,
            reduceEqDiff], by simp only [f33, B0, reduceIte, reduceEqDiff], by simp only [f34, B0, reduceIte, reduceEqDiff], by simp only [f35, B0, reduceIte, reduceEqDiff]⟩
      · rw [iteF hg40] at hx42
        simp only [hg40, run_guard (g := 21), guard_false, f31, run_mv, run_bin, put1_some, xgtr, B0, reduceIte, reduceEqDiff]
        obtain ⟨v48, hx49, hF50⟩ := bind_some' hx42
        refine ops_j 8 (fun fr' h' => Sep h' h.length ([]) ∧ fr' 32 = .bool v48 ∧ fr' 0 = lst cI l_0 ∧ fr' 1 = .int .i64 many_1 ∧ fr' 7 = lst cI l_0 ∧ fr' 8 = .int .i64
            (List.length l_0 : Int) ∧ fr' 9 = .int .i64 (i1 : Int) ∧ fr' 21 = .bool ((decide (x2 < 0)) || (decide (many_1 ≤ x2)))) (fun Q45 hN46 => ?_) ?_
        · simp only [List.take_succ_cons, List.take_zero]
          simp only [run_guard (g := 24), B0, reduceIte, reduceEqDiff]
          refine guard_split (t := (decide ((0 : Int) < (i1 : Int)))) (fun hg47 => ?_) (fun hg47 => ?_)
          · rw [iteT hg47] at hx49
            obtain ⟨x51, hx52, hF53⟩ := bind_some' hx49
            simp only [hg47, run_guard (g := 24), guard_true, f29, run_mv, f31, run_bin, put1_some, xsub, run_ia, B0, reduceIte, reduceEqDiff]
            refine put1_eq (v := .ref (cI x51) 0) (xia_lst hx52 rfl) ?_
            simp only [hg47, run_guard (g := 24), guard_true, run_ld, B0, reduceIte, reduceEqDiff]
            refine put1_eq (v := .int .i64 x51) rfl ?_
            simp only [hg47, run_guard (g := 24), guard_true, f32, run_mv, run_bin, put1_some, xgeq, hg40, run_guard (g := 21), guard_false, run_pick, xpick_t, run_ops_nil,
                run_nil, B0, reduceIte, reduceEqDiff]
            have e54 := some_inj hF53
            exact hN46 _ _ ⟨hS37, by rw [← e54]; simp only [B0, reduceIte, reduceEqDiff], by simp only [f29, B0, reduceIte, reduceEqDiff], by simp only [f30, B0, reduceIte,
                reduceEqDiff], by simp only [f33, B0, reduceIte, reduceEqDiff], by simp only [f34, B0, reduceIte, reduceEqDiff], by simp only [f35, B0, reduceIte, reduceEqDiff],
                by simp only [hg40, B0, reduceIte, reduceEqDiff]⟩
          · rw [iteF hg47] at hx49
            simp only [hg47, run_guard (g := 24), guard_off, hg40, run_guard (g := 21), guard_false, run_pick, put1_some, xpick_f, run_ops_nil, run_nil, B0, reduceIte,
                reduceEqDiff]
            have e55 := some_inj hx49
            exact hN46 _ _ ⟨hS37, by rw [← e55]; simp only [B0, reduceIte, reduceEqDiff], by simp only [f29, B0, reduceIte, reduceEqDiff], by simp only [f30, B0, reduceIte,
                reduceEqDiff], by simp only [f33, B0, reduceIte, reduceEqDiff], by simp only [f34, B0, reduceIte, reduceEqDiff], by simp only [f35, B0, reduceIte, reduceEqDiff],
                by simp only [hg40, B0, reduceIte, reduceEqDiff]⟩
        rintro fr56 h64 ⟨hS65, f57, f58, f59, f60, f61, f62, f63⟩
        simp only [List.drop_succ_cons, List.drop_zero]
        simp only [f63, hg40, run_pick, put1_some, xpick_f, f57, run_ops_nil, run_nil, B0, reduceIte, reduceEqDiff]
        have e66 := some_inj hF50
        exact hN39 _ _ ⟨hS65, by rw [← e66]; simp only [B0, reduceIte, reduceEqDiff], by simp only [f58, B0, reduceIte, reduceEqDiff], by simp only [f59, B0, reduceIte,
            reduceEqDiff], by simp only [f60, B0, reduceIte, reduceEqDiff], by simp only [f61, B0, reduceIte, reduceEqDiff], by simp only [f62, B0, reduceIte, reduceEqDiff]⟩
    rintro fr67 h74 ⟨hS75, f68, f69, f70, f71, f72, f73⟩
    simp only [List.drop_succ_cons, List.drop_zero]
    simp only [run_ops_nil, f68, run_cond, B0, reduceIte, reduceEqDiff]
    refine cond_split (t := v41) (fun hc76 => ?_) (fun hc76 => ?_)
    · rw [iteT hc76] at hF43
      simp only [run_seq, run_reg, run_mv, run_ops_nil, run_ret, B0, reduceIte, reduceEqDiff]
      have e77 := some_inj hF43
      subst e77
      have ho78 := hr8 _ rfl
      have hk79 := hk6
      rw [ho78] at hk79
      dsimp only [jnO] at hk79
      apply hR12
      have he := some_inj hk79
      subst he
      simp only [end_ret1, B0, reduceIte, reduceEqDiff]
      exact rfl
    rw [iteF hc76] at hF43
    simp only [run_skip, run_nil, B0, reduceIte, reduceEqDiff]
    have e80 := some_inj hF43
    exact hN10 _ _ _ e80.symm ⟨by simp only [f69, B0, reduceIte, reduceEqDiff], by simp only [f70, B0, reduceIte, reduceEqDiff], by simp only [f71, B0, reduceIte, reduceEqDiff],
        hS75⟩ (by simp only [f73, B0, reduceIte, reduceEqDiff]) (by simp only [f72, B0, reduceIte, reduceEqDiff])
  rintro _ fr82 h83 rfl ⟨f85, f86, f87, hS84⟩
  dsimp only [jnO] at hk6
  unfold spec_l6Group_j1 at hk6
  simp only [run_seq, run_reg, run_mv, run_ops_nil, run_ret, B0, reduceIte, reduceEqDiff]
  have he := some_inj hk6
  subst he
  simp only [end_ret1, B0, reduceIte, reduceEqDiff]
  exact rfl
theorem spec_l6Has_x {W : Nat → Bool} {h : Heap} (hW : ∀ b,
    h.length ≤ b → W b = true) (a_0 : List Int) (b_1 : List Int) (r : Bool) (hF : spec_l6Has a_0 b_1 = some r) : Ret E W 90 [lst cI a_0,
    lst cI b_1] h (fun v h' => cut h.length h' E.sz false 9 v = some (.bool r)) := by
  refine Ret.of (fn := x90) rfl (Run.of ?_)
  unfold spec_l6Has at hF
  have zf0 : argFr [lst cI a_0, lst cI b_1] 0 = lst cI a_0 := rfl
  have zf1 : argFr [lst cI a_0, lst cI b_1] 1 = lst cI b_1 := rfl
  generalize argFr [lst cI a_0, lst cI b_1] = fr0 at zf0 zf1 ⊢
  have hS : Sep h h.length [] := Sep.nil h
  simp only [x90, run_seq, run_reg, run_mv, run_ops_nil, x90_5, zf1, run_len, put1_some, xlen_lst, B0, reduceIte, reduceEqDiff]
  obtain ⟨oc3, hX5, hk6⟩ := jn_some hF
  simp only [x90_4]
  refine rangeL_j (σ := Unit) b_1 (fun i1 x2 _ => spec_l6Has_b1 a_0 i1 x2 ) (fun s fr' h' => fr' 0 = lst cI a_0 ∧ fr' 7 = lst cI b_1 ∧ Sep h' h.length
      ([])) hX5 ⟨by simp only [zf0, B0, reduceIte, reduceEqDiff], by simp only [B0, reduceIte, reduceEqDiff], hS⟩ (by simp only [B0, reduceIte, reduceEqDiff]) (by simp only [B0,
      reduceIte, reduceEqDiff]) (fun _ _ _ h => h) rfl rfl (fun _ _ _ _ h => h) (fun _ _ _ _ h => h) (fun _ _ _ _ h => h) (by decide) ?_ ?_
  · rintro i1 x2 _ fr15 h16 hx20 ⟨f18, f19, hS17⟩ f21 f22 oc4 hF7 hr8 Q9 hN10 hB14 hK11 hR12 hE13
    unfold spec_l6Has_b1 at hF7
    simp only [x90_2, run_seq, run_reg, f19, f21, run_ia, B0, reduceIte, reduceEqDiff]
    refine put1_eq (v := .ref (cI x2) 0) (xia_lstN hx20 rfl) ?_
    simp only [run_ld, B0, reduceIte, reduceEqDiff]
    refine put1_eq (v := .int .i64 x2) rfl ?_
    obtain ⟨v23, hx24, hF25⟩ := bind_some' hF7
    simp only [run_mv, run_ops_nil, x90_1, run_seq, run_reg, f18, run_call, B0, reduceIte, reduceEqDiff]
    refine call1 rfl (mapM1 snap_lst (mapM1 snap_int mapM0)) (spec_l1Has_x (fun b hb => decide_eq_true hb) a_0 x2 v23 hx24) ?_
    simp only [run_un, put1_some, xnot, run_ops_nil, run_cond, B0, reduceIte, reduceEqDiff]
    refine cond_split (t := (!v23)) (fun hc26 => ?_) (fun hc26 => ?_)
    · rw [iteT hc26] at hF25
      simp only [run_seq, run_reg, run_mv, run_ops_nil, run_ret, B0, reduceIte, reduceEqDiff]
      have e27 := some_inj hF25
      subst e27
      have ho28 := hr8 _ rfl
      have hk29 := hk6
      rw [ho28] at hk29
      dsimp only [jnO] at hk29
      apply hR12
      have he := some_inj hk29
      subst he
      simp only [end_ret1, B0, reduceIte, reduceEqDiff]
      exact rfl
    rw [iteF hc26] at hF25
    simp only [run_skip, run_nil, B0, reduceIte, reduceEqDiff]
    have e30 := some_inj hF25
    exact hN10 _ _ _ e30.symm ⟨by simp only [f18, B0, reduceIte, reduceEqDiff], by simp only [f19, B0, reduceIte, reduceEqDiff], hS17⟩ (by simp only [f21, B0, reduceIte,
        reduceEqDiff]) (by simp only [f22, B0, reduceIte, reduceEqDiff])
  rintro _ fr32 h33 rfl ⟨f35, f36, hS34⟩
  dsimp only [jnO] at hk6
  unfold spec_l6Has_j1 at hk6
  simp only [run_seq, run_reg, run_mv, run_ops_nil, run_ret, B0, reduceIte, reduceEqDiff]
  have he := some_inj hk6
  subst he
  simp only [end_ret1, B0, reduceIte, reduceEqDiff]
  exact rfl
theorem spec_l14Same_x {W : Nat → Bool} {h : Heap} (hW : ∀ b,
    h.length ≤ b → W b = true) (a_0 : List Int) (b_1 : List Int) (r : Bool) (hF : spec_l14Same a_0 b_1 = some r) : Ret E W 88 [lst cI a_0,
    lst cI b_1] h (fun v h' => cut h.length h' E.sz false 9 v = some (.bool r)) := by
  refine Ret.of (fn := x88) rfl (Run.of ?_)
  unfold spec_l14Same at hF
  have zf0 : argFr [lst cI a_0, lst cI b_1] 0 = lst cI a_0 := rfl
  have zf1 : argFr [lst cI a_0, lst cI b_1] 1 = lst cI b_1 := rfl
  generalize argFr [lst cI a_0, lst cI b_1] = fr0 at zf0 zf1 ⊢
  have hS : Sep h h.length [] := Sep.nil h
  obtain ⟨v1, hx2, hF3⟩ := bind_some' hF
  simp only [x88, run_seq, run_reg, run_mv, run_ops_nil, x88_1, zf0, zf1, run_call, B0, reduceIte, reduceEqDiff]
  refine call1 rfl (mapM1 snap_lst (mapM1 snap_lst mapM0)) (spec_l6Has_x (fun b hb => decide_eq_true hb) a_0 b_1 v1 hx2) ?_
  simp only [run_mv, B0, reduceIte, reduceEqDiff]
  refine ops_j 6 (fun fr' h' => Sep h' h.length ([]) ∧ fr' 14 = .bool (v1 && (decide ((List.length a_0 : Int) = (List.length b_1 : Int))))) (fun Q4 hN5 => ?_) ?_
  · simp only [List.take_succ_cons, List.take_zero]
    simp only [run_guard (g := 8), B0, reduceIte, reduceEqDiff]
    refine guard_split (t := v1) (fun hg6 => ?_) (fun hg6 => ?_)
    · simp only [hg6, run_guard (g := 8), guard_true, zf0, run_mv, run_len, put1_some, xlen_lst, zf1, run_bin, xeql, run_pick, xpick_t, run_ops_nil, run_nil, B0, reduceIte,
        reduceEqDiff]
      exact hN5 _ _ ⟨hS, by rw [andT hg6]; simp only [B0, reduceIte, reduceEqDiff]⟩
    · simp only [hg6, run_guard (g := 8), guard_off, run_pick, put1_some, xpick_f, run_ops_nil, run_nil, B0, reduceIte, reduceEqDiff]
      exact hN5 _ _ ⟨hS, by rw [andF hg6]; simp only [B0, reduceIte, reduceEqDiff]⟩
  rintro fr7 h9 ⟨hS10, f8⟩
  simp only [List.drop_succ_cons, List.drop_zero]
  simp only [f8, run_mv, run_ops_nil, run_ret, B0, reduceIte, reduceEqDiff]
  have he := some_inj hF3
  subst he
  simp only [end_ret1, B0, reduceIte, reduceEqDiff]
  exact rfl
end Go.Proofs.Ytdhibknhejhfaaa.X
