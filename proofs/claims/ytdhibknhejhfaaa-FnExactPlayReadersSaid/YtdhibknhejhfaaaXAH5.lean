/- The functions' code comes to what the plain functions say (5). -/
import Derived.Test.YtdhibknhejhfaaaXAH4
set_option linter.unusedVariables false
set_option linter.unusedSimpArgs false
set_option maxRecDepth 100000
namespace Go.Proofs.Ytdhibknhejhfaaa.X
open Go
theorem laws_markReaderS_x {W : Nat → Bool} {h : Heap} {lo : Nat} {S0 : List Obj} (hW : ∀ b,
    lo ≤ b → W b = true) (k : Nat) (pv0 : XV) (pc0 : List Obj) (a_0 : List Reader) (ph0 : SlN Reader.R 4 37 pv0 a_0 pc0) (k_1 : Int) (r : Int × (List Reader))
    (hF : laws_markReaderS k a_0 k_1 = some r) (hS : Sep h lo (pc0 ++ (S0))) : Ret E W 61 [pv0, .int .i64 k_1] h (fun v h' => ∃ ic0,
    v = .int .i64 r.1 ∧ SlN Reader.R 4 37 pv0 r.2 ic0 ∧ Sep h' lo (ic0 ++ (S0))) := by
  refine Ret.of (fn := x61) rfl (Run.of ?_)
  unfold laws_markReaderS at hF
  have zf0 : argFr [pv0, .int .i64 k_1] 0 = pv0 := rfl
  have zf1 : argFr [pv0, .int .i64 k_1] 1 = .int .i64 k_1 := rfl
  generalize argFr [pv0, .int .i64 k_1] = fr0 at zf0 zf1 ⊢
  simp only [x61, run_seq, run_reg, run_mv, run_ops_nil, x61_11, put_at, put_no, ev_t, ev_c, reduceIte, Nat.reduceEqDiff, List.map_cons, List.map_nil]
  obtain ⟨oc13, hX15, hk16⟩ := jn_some hF
  simp only [x61_10]
  refine loopF_j (σ := Int × Int × (List Reader)) (fun s82 => laws_markReaderS_b1 k s82.1 s82.2.1 s82.2.2) (fun s fr' h' => ∃ c9,
      fr' 0 = pv0 ∧ fr' 1 = .int .i64 s.1 ∧ fr' 5 = .int .i64 s.2.1 ∧ SlN Reader.R 4 37 pv0 s.2.2 c9 ∧ Sep h' lo (c9 ++ (S0))) hX15 ⟨pc0, by simp only [zf0, put_at, put_no, ev_t,
      ev_c, reduceIte, Nat.reduceEqDiff, List.map_cons, List.map_nil], by simp only [zf1, put_at, put_no, ev_t, ev_c, reduceIte, Nat.reduceEqDiff, List.map_cons, List.map_nil],
      by simp only [put_at, put_no, ev_t, ev_c, reduceIte, Nat.reduceEqDiff, List.map_cons, List.map_nil], ph0, hS⟩ (fun _ _ _ h => h) ?_ ?_
  · rintro ⟨s6, s7, s8⟩ fr25 h26 ⟨c9, f28, f29, f30, hv10, hS27⟩ oc14 hF17 hr18 Q19 hN20 hK21 hR22 hE23
    dsimp only at *
    unfold laws_markReaderS_b1 at hF17
    simp only [x61_8, run_seq, run_reg, f30, run_mv, f28, run_len, put1_some, SlN.len hv10, run_bin, xlss, run_ops_nil, run_cond, put_at, put_no, ev_t, ev_c, reduceIte,
        Nat.reduceEqDiff, List.map_cons, List.map_nil]
    refine cond_split (t := (decide (s7 < (List.length s8 : Int)))) (fun hc32 => ?_) (fun hc32 => ?_)
    · rw [iteT hc32] at hF17
      obtain ⟨x33, hx34, hF35⟩ := bind_some' hF17
      simp only [run_skip, x61_7, run_seq, run_block, x61_6, run_reg, f28, run_mv, f30, f29, run_bin, put1_some, xrem_nz (n := 3) (by decide), xeql, run_ia, put_at, put_no, ev_t,
          ev_c, reduceIte, Nat.reduceEqDiff, List.map_cons, List.map_nil]
      obtain ⟨b36, hb37⟩ := SlN.isrow hv10 (geti_ne hx34)
      refine put1_eq (SlN.ia hv10 hb37 hx34) ?_
      obtain ⟨c40, cs41, os42, hv43, hR44, hS45⟩ := SlG.opn (SlN.toG hv10 hb37 Reader.RO.len) hx34 hk_nil Reader.RO.len hS27
      obtain ⟨v47, c48, v51, c52, hv49, hv53, rfl, rfl⟩ := hR44
      have hS46 := Sep.no2 hS45
      simp only [run_fa, put1_some, Nat.reduceAdd, Nat.zero_add, Nat.add_zero, xfa_ptr, run_st, put_at, put_no, ev_t, ev_c, reduceIte, Nat.reduceEqDiff, List.map_cons,
          List.map_nil]
      refine put2_stGx (us := [.bool (decide ((Int.tmod s6 3) = 0))]) (o := 0) (cs' := [.bool (decide ((Int.tmod s6 3) = 0)), .int .i64 x33.Generation, v47,
          v51]) rfl hv43 rfl hx34 hS46 hW rfl rfl (Nat.le_of_ble_eq_true rfl) rfl (fun c55 h38 hv56 hS39 => ?_)
      simp only [put_no, run_ops_nil, x61_5, run_seq, run_reg, f29, run_mv, run_bin, put1_some, xadd, x61_4, f28, f30, run_ia, put_at, ev_t, ev_c, reduceIte, Nat.reduceEqDiff,
          List.map_cons, List.map_nil]
      refine put1_eq (SlG.ia hv56 hx34) ?_
      simp only [run_fa, put1_some, Nat.reduceAdd, Nat.zero_add, Nat.add_zero, xfa_ptr, run_st, put_at, put_no, ev_t, ev_c, reduceIte, Nat.reduceEqDiff, List.map_cons,
          List.map_nil]
      refine put2_stGx (us := [.int .i64 (IntKind.wrap .i64 (s6 + 1))]) (o := 1) (cs' := [.bool (decide ((Int.tmod s6 3) = 0)), .int .i64 (IntKind.wrap .i64 (s6 + 1)), v47,
          v51]) rfl hv56 rfl hx34 hS39 hW rfl rfl (Nat.le_of_ble_eq_true rfl) rfl (fun c59 h57 hv60 hS58 => ?_)
      simp only [put_no, run_ops_nil, x61_3, run_seq, run_reg, run_mv, run_bin, put1_some, xadd, x61_2, f28, f30, run_ia, put_at, ev_t, ev_c, reduceIte, Nat.reduceEqDiff,
          List.map_cons, List.map_nil]
      refine put1_eq (SlG.ia hv60 hx34) ?_
      simp only [run_fa, put1_some, Nat.reduceAdd, Nat.zero_add, Nat.add_zero, xfa_ptr, run_ld, put_at, put_no, ev_t, ev_c, reduceIte, Nat.reduceEqDiff, List.map_cons,
          List.map_nil]
      refine put1_eq (v := v47) ((SlG.ld (o := 2) hv60 rfl hx34 hS58 (Nat.le_of_ble_eq_true rfl)).trans rfl) ?_
      obtain ⟨v61, hx62, hF63⟩ := bind_some' hF35
      simp only [run_mv, run_call, put_at, put_no, ev_t, ev_c, reduceIte, Nat.reduceEqDiff, List.map_cons, List.map_nil]
      refine call0 rfl (laws_markIntS_x hW k v47 c48 x33.Share hv49 (IntKind.wrap .i64 ((IntKind.wrap .i64 (s6 + 1)) + 1)) v61 hx62 (Sep.m1 hS58)) ?_
      rintro _ h66 ⟨c64, rfl, hv65, hS67⟩
      simp only [run_mv, run_ops_nil, x61_1, run_reg, f28, f30, run_ia, put_at, put_no, ev_t, ev_c, reduceIte, Nat.reduceEqDiff, List.map_cons, List.map_nil]
      refine put1_eq (SlG.ia hv60 hx34) ?_
      simp only [run_fa, put1_some, Nat.reduceAdd, Nat.zero_add, Nat.add_zero, xfa_ptr, run_ld, put_at, put_no, ev_t, ev_c, reduceIte, Nat.reduceEqDiff, List.map_cons,
          List.map_nil]
      refine put1_eq (v := v51) ((SlG.ld (o := 3) hv60 rfl hx34 (Sep.m1 hS67) (Nat.le_of_ble_eq_true rfl)).trans rfl) ?_
      obtain ⟨v68, hx69, hF70⟩ := bind_some' hF63
      simp only [run_mv, run_call, put_at, put_no, ev_t, ev_c, reduceIte, Nat.reduceEqDiff, List.map_cons, List.map_nil]
      refine call0 rfl (laws_markIntS_x hW k v51 c52 x33.Read hv53 v61.1 v68 hx69 (Sep.m2 hS67)) ?_
      rintro _ h73 ⟨c71, rfl, hv72, hS74⟩
      simp only [run_mv, run_ops_nil, run_blk, run_reg, f30, run_bin, put1_some, xadd, run_nil, put_at, put_no, ev_t, ev_c, reduceIte, Nat.reduceEqDiff, List.map_cons,
          List.map_nil]
      obtain ⟨c75, hv76, hS77⟩ := SlG.cls (e' := (Reader.mk (decide ((Int.tmod s6 3) = 0)) (IntKind.wrap .i64 (s6 + 1)) v61.2 v68.2)) (c := c59) (os := c64 ++
          (c71)) hv60 rfl hx34 hk_nil (Reader.RI (x := (Reader.mk (decide ((Int.tmod s6 3) = 0)) (IntKind.wrap .i64 (s6 + 1)) v61.2 v68.2)) hv65 hv72) (Sep.ni2 (c1 := c64)
          (c2 := c71) (Sep.m2 (Sep.m1 hS74)))
      have hx78 := geti_set (x' := (Reader.mk (decide ((Int.tmod s6 3) = 0)) (IntKind.wrap .i64 (s6 + 1)) v61.2 v68.2)) hx34
      have hv79 := SlG.toN hv76
      have e80 := some_inj hF70
      exact hN20 _ _ _ e80.symm ⟨c75, by simp only [f28, put_at, put_no, ev_t, ev_c, reduceIte, Nat.reduceEqDiff, List.map_cons, List.map_nil], by simp only [put_at, put_no, ev_t,
          ev_c, reduceIte, Nat.reduceEqDiff, List.map_cons, List.map_nil], by simp only [put_at, put_no, ev_t, ev_c, reduceIte, Nat.reduceEqDiff, List.map_cons, List.map_nil],
          hv79, hS77⟩
    · rw [iteF hc32] at hF17
      simp only [run_exit, out_code, out_nil, put_at, put_no, ev_t, ev_c, reduceIte, Nat.reduceEqDiff, List.map_cons, List.map_nil]
      have e81 := some_inj hF17
      exact hK21 _ _ _ e81.symm ⟨c9, by simp only [f28, put_at, put_no, ev_t, ev_c, reduceIte, Nat.reduceEqDiff, List.map_cons, List.map_nil], by simp only [f29, put_at, put_no,
          ev_t, ev_c, reduceIte, Nat.reduceEqDiff, List.map_cons, List.map_nil], by simp only [f30, put_at, put_no, ev_t, ev_c, reduceIte, Nat.reduceEqDiff, List.map_cons,
          List.map_nil], hv10, hS27⟩
  · rintro ⟨s83, s84, s85⟩ fr88 h89 rfl ⟨c86, f91, f92, f93, hv87, hS90⟩
    dsimp only [jnO] at hk16
    dsimp only at *
    unfold laws_markReaderS_j1 at hk16
    simp only [run_seq, run_reg, f92, run_mv, run_ops_nil, run_ret, put_at, put_no, ev_t, ev_c, reduceIte, Nat.reduceEqDiff, List.map_cons, List.map_nil]
    have he := some_inj hk16
    subst he
    simp only [end_ret1, put_at, put_no, ev_t, ev_c, reduceIte, Nat.reduceEqDiff, List.map_cons, List.map_nil]
    exact ⟨c86, by first | trivial | rfl, hv87, hS90⟩
theorem laws_markReaders_x {W : Nat → Bool} {h : Heap} {lo : Nat} {S0 : List Obj} (hW : ∀ b,
    lo ≤ b → W b = true) (k : Nat) (a_0 : Readers_) (pv0_1 : XV) (pc0_1 : List Obj) (ph0_1 : SlN Reader.R 4 37 pv0_1 a_0.Readers pc0_1) (pv0_2 : XV) (pc0_2 : List Obj)
    (ph0_2 : SlF cI 1 3 pv0_2 a_0.Committed pc0_2) (pv0_3 : XV) (pc0_3 : List Obj) (ph0_3 : SlF cI 1 3 pv0_3 a_0.Ends pc0_3) (k_1 : Int) (r : Int × Readers_)
    (hF : laws_markReaders k a_0 k_1 = some r) (hS : Sep h lo (pc0_1 ++ (pc0_2 ++ (pc0_3 ++ (S0))))) : Ret E W 26 [.agg [.int .i64 a_0.Generation, pv0_1, pv0_2, pv0_3],
    .int .i64 k_1] h (fun v h' => ∃ ic0_1 ic0_2 ic0_3,
    v = .int .i64 r.1 ∧ SlN Reader.R 4 37 pv0_1 r.2.Readers ic0_1 ∧ SlF cI 1 3 pv0_2 r.2.Committed ic0_2 ∧ SlF cI 1 3 pv0_3 r.2.Ends ic0_3 ∧ Sep h' lo (ic0_1 ++ (ic0_2 ++
    (ic0_3 ++ (S0))))) := by
  refine Ret.of (fn := x26) rfl (Run.of ?_)
  unfold laws_markReaders at hF
  have zf0 : argFr [.agg [.int .i64 a_0.Generation, pv0_1, pv0_2, pv0_3], .int .i64 k_1] 0 = .agg [.int .i64 a_0.Generation, pv0_1, pv0_2, pv0_3] := rfl
  have zf1 : argFr [.agg [.int .i64 a_0.Generation, pv0_1, pv0_2, pv0_3], .int .i64 k_1] 1 = .int .i64 k_1 := rfl
  generalize argFr [.agg [.int .i64 a_0.Generation, pv0_1, pv0_2, pv0_3], .int .i64 k_1] = fr0 at zf0 zf1 ⊢
  simp only [x26, run_seq, run_reg, run_box, zf0, put_at, put_no, ev_t, ev_c, reduceIte, Nat.reduceEqDiff, List.map_cons, List.map_nil]
  refine put2_boxC (cs := [.int .i64 a_0.Generation, pv0_1, pv0_2,
      pv0_3]) hS rfl rfl (all_c rfl (all_c (SlN.one ph0_1) (all_c (SlF.one ph0_2) (all_c (SlF.one ph0_3) all_n)))) (fun b1 h2 hS3 => ?_)
  simp only [run_mv, run_ops_nil, put_at, put_no, ev_t, ev_c, reduceIte, Nat.reduceEqDiff, List.map_cons, List.map_nil]
  refine frz_stepC hS3 hW (by simp only [put_at, put_no, ev_t, ev_c, reduceIte, Nat.reduceEqDiff, List.map_cons, List.map_nil]) (fun h5 hS6 => ?_)
  simp only [run_frz_nil, x26_3, run_seq, run_reg, run_fa, put1_some, Nat.reduceAdd, Nat.zero_add, Nat.add_zero, xfa_ref, run_ld, put_at, put_no, ev_t, ev_c, reduceIte,
      Nat.reduceEqDiff, List.map_cons, List.map_nil]
  refine put1_eq (v := pv0_1) rfl ?_
  obtain ⟨v7, hx8, hF9⟩ := bind_some' hF
  simp only [zf1, run_mv, run_call, put_at, put_no, ev_t, ev_c, reduceIte, Nat.reduceEqDiff, List.map_cons, List.map_nil]
  refine call0 rfl (laws_markReaderS_x hW k pv0_1 pc0_1 a_0.Readers ph0_1 k_1 v7 hx8 hS6) ?_
  rintro _ h12 ⟨c10, rfl, hv11, hS13⟩
  simp only [run_mv, run_ops_nil, x26_2, run_seq, run_reg, run_fa, put1_some, Nat.reduceAdd, Nat.zero_add, Nat.add_zero, xfa_ref, run_ld, put_at, put_no, ev_t, ev_c, reduceIte,
      Nat.reduceEqDiff, List.map_cons, List.map_nil]
  refine put1_eq (v := pv0_2) rfl ?_
  obtain ⟨v14, hx15, hF16⟩ := bind_some' hF9
  simp only [run_mv, run_call, put_at, put_no, ev_t, ev_c, reduceIte, Nat.reduceEqDiff, List.map_cons, List.map_nil]
  refine call0 rfl (laws_markIntS_x hW k pv0_2 pc0_2 a_0.Committed ph0_2 v7.1 v14 hx15 (Sep.m1 hS13)) ?_
  rintro _ h19 ⟨c17, rfl, hv18, hS20⟩
  simp only [run_mv, run_ops_nil, x26_1, run_seq, run_reg, run_fa, put1_some, Nat.reduceAdd, Nat.zero_add, Nat.add_zero, xfa_ref, run_ld, put_at, put_no, ev_t, ev_c, reduceIte,
      Nat.reduceEqDiff, List.map_cons, List.map_nil]
  refine put1_eq (v := pv0_3) rfl ?_
  obtain ⟨v21, hx22, hF23⟩ := bind_some' hF16
  simp only [run_mv, run_call, put_at, put_no, ev_t, ev_c, reduceIte, Nat.reduceEqDiff, List.map_cons, List.map_nil]
  refine call0 rfl (laws_markIntS_x hW k pv0_3 pc0_3 a_0.Ends ph0_3 v14.1 v21 hx22 (Sep.m2 hS20)) ?_
  rintro _ h26 ⟨c24, rfl, hv25, hS27⟩
  simp only [run_mv, run_ops_nil, run_seq, run_reg, run_ret, put_at, put_no, ev_t, ev_c, reduceIte, Nat.reduceEqDiff, List.map_cons, List.map_nil]
  have he := some_inj hF23
  subst he
  simp only [end_ret1, put_at, put_no, ev_t, ev_c, reduceIte, Nat.reduceEqDiff, List.map_cons, List.map_nil]
  exact ⟨c10, c17, c24, by first | trivial | rfl, hv11, hv18, hv25, (Sep.m2 (Sep.m1 hS27))⟩
theorem laws_markBoolS_x {W : Nat → Bool} {h : Heap} {lo : Nat} {S0 : List Obj} (hW : ∀ b,
    lo ≤ b → W b = true) (k : Nat) (pv0 : XV) (pc0 : List Obj) (a_0 : List Bool) (ph0 : SlF cB 1 4 pv0 a_0 pc0) (k_1 : Int) (r : Int × (List Bool))
    (hF : laws_markBoolS k a_0 k_1 = some r) (hS : Sep h lo (pc0 ++ (S0))) : Ret E W 27 [pv0, .int .i64 k_1] h (fun v h' => ∃ ic0,
    v = .int .i64 r.1 ∧ SlF cB 1 4 pv0 r.2 ic0 ∧ Sep h' lo (ic0 ++ (S0))) := by
  refine Ret.of (fn := x27) rfl (Run.of ?_)
  unfold laws_markBoolS at hF
  have zf0 : argFr [pv0, .int .i64 k_1] 0 = pv0 := rfl
  have zf1 : argFr [pv0, .int .i64 k_1] 1 = .int .i64 k_1 := rfl
  generalize argFr [pv0, .int .i64 k_1] = fr0 at zf0 zf1 ⊢
  simp only [x27, run_seq, run_reg, run_mv, run_ops_nil, x27_6, put_at, put_no, ev_t, ev_c, reduceIte, Nat.reduceEqDiff, List.map_cons, List.map_nil]
  obtain ⟨oc13, hX15, hk16⟩ := jn_some hF
  simp only [x27_5]
  refine loopF_j (σ := Int × Int × (List Bool)) (fun s45 => laws_markBoolS_b1 s45.1 s45.2.1 s45.2.2) (fun s fr' h' => ∃ c9,
      fr' 0 = pv0 ∧ fr' 1 = .int .i64 s.1 ∧ fr' 5 = .int .i64 s.2.1 ∧ SlF cB 1 4 pv0 s.2.2 c9 ∧ Sep h' lo (c9 ++ (S0))) hX15 ⟨pc0, by simp only [zf0, put_at, put_no, ev_t, ev_c,
      reduceIte, Nat.reduceEqDiff, List.map_cons, List.map_nil], by simp only [zf1, put_at, put_no, ev_t, ev_c, reduceIte, Nat.reduceEqDiff, List.map_cons, List.map_nil],
      by simp only [put_at, put_no, ev_t, ev_c, reduceIte, Nat.reduceEqDiff, List.map_cons, List.map_nil], ph0, hS⟩ (fun _ _ _ h => h) ?_ ?_
  · rintro ⟨s6, s7, s8⟩ fr25 h26 ⟨c9, f28, f29, f30, hv10, hS27⟩ oc14 hF17 hr18 Q19 hN20 hK21 hR22 hE23
    dsimp only at *
    unfold laws_markBoolS_b1 at hF17
    simp only [x27_3, run_seq, run_reg, f30, run_mv, f28, run_len, put1_some, SlF.plen hv10, run_bin, xlss, run_ops_nil, run_cond, put_at, put_no, ev_t, ev_c, reduceIte,
        Nat.reduceEqDiff, List.map_cons, List.map_nil]
    refine cond_split (t := (decide (s7 < (List.length s8 : Int)))) (fun hc32 => ?_) (fun hc32 => ?_)
    · rw [iteT hc32] at hF17
      obtain ⟨x33, hx34, hF35⟩ := bind_some' hF17
      simp only [run_skip, x27_2, run_seq, run_block, x27_1, run_reg, f28, run_mv, f30, f29, run_bin, put1_some, xrem_nz (n := 3) (by decide), xeql, run_ia, put_at, put_no, ev_t,
          ev_c, reduceIte, Nat.reduceEqDiff, List.map_cons, List.map_nil]
      obtain ⟨b36, hb37⟩ := SlF.isrow hv10 (geti_ne hx34)
      refine put1_eq (SlF.ia hv10 hb37 hx34) ?_
      simp only [run_st, put_at, put_no, ev_t, ev_c, reduceIte, Nat.reduceEqDiff, List.map_cons, List.map_nil]
      refine put2_stF (f := cB) (x' := (decide ((Int.tmod s6 3) = 0))) (o := 0) hv10 hS27 hW hb37 hx34 (fun _ => rfl) rfl rfl (Nat.le_of_ble_eq_true rfl) rfl
          (fun c40 h38 hv41 hS39 => ?_)
      have hx42 := geti_set (x' := (decide ((Int.tmod s6 3) = 0))) hx34
      simp only [put_no, run_ops_nil, run_reg, f29, run_mv, run_bin, put1_some, xadd, run_blk, f30, run_nil, put_at, ev_t, ev_c, reduceIte, Nat.reduceEqDiff, List.map_cons,
          List.map_nil]
      have e43 := some_inj hF35
      exact hN20 _ _ _ e43.symm ⟨c40, by simp only [f28, put_at, put_no, ev_t, ev_c, reduceIte, Nat.reduceEqDiff, List.map_cons, List.map_nil], by simp only [put_at, put_no, ev_t,
          ev_c, reduceIte, Nat.reduceEqDiff, List.map_cons, List.map_nil], by simp only [put_at, put_no, ev_t, ev_c, reduceIte, Nat.reduceEqDiff, List.map_cons, List.map_nil],
          hv41, hS39⟩
    · rw [iteF hc32] at hF17
      simp only [run_exit, out_code, out_nil, put_at, put_no, ev_t, ev_c, reduceIte, Nat.reduceEqDiff, List.map_cons, List.map_nil]
      have e44 := some_inj hF17
      exact hK21 _ _ _ e44.symm ⟨c9, by simp only [f28, put_at, put_no, ev_t, ev_c, reduceIte, Nat.reduceEqDiff, List.map_cons, List.map_nil], by simp only [f29, put_at, put_no,
          ev_t, ev_c, reduceIte, Nat.reduceEqDiff, List.map_cons, List.map_nil], by simp only [f30, put_at, put_no, ev_t, ev_c, reduceIte, Nat.reduceEqDiff, List.map_cons,
          List.map_nil], hv10, hS27⟩
  · rintro ⟨s46, s47, s48⟩ fr51 h52 rfl ⟨c49, f54, f55, f56, hv50, hS53⟩
    dsimp only [jnO] at hk16
    dsimp only at *
    unfold laws_markBoolS_j1 at hk16
    simp only [run_seq, run_reg, f55, run_mv, run_ops_nil, run_ret, put_at, put_no, ev_t, ev_c, reduceIte, Nat.reduceEqDiff, List.map_cons, List.map_nil]
    have he := some_inj hk16
    subst he
    simp only [end_ret1, put_at, put_no, ev_t, ev_c, reduceIte, Nat.reduceEqDiff, List.map_cons, List.map_nil]
    exact ⟨c49, by first | trivial | rfl, hv50, hS53⟩
theorem laws_heldIntS_x {W : Nat → Bool} {h : Heap} (hW : ∀ b,
    h.length ≤ b → W b = true) (k : Nat) (a_0 : List Int) (k_1 : Int) (r : Int) (hF : laws_heldIntS k a_0 k_1 = some r) : Ret E W 63 [lst cI a_0,
    .int .i64 k_1] h (fun v h' => cut h.length h' E.sz false 9 v = some (.int .i64 r)) := by
  refine Ret.of (fn := x63) rfl (Run.of ?_)
  unfold laws_heldIntS at hF
  have zf0 : argFr [lst cI a_0, .int .i64 k_1] 0 = lst cI a_0 := rfl
  have zf1 : argFr [lst cI a_0, .int .i64 k_1] 1 = .int .i64 k_1 := rfl
  generalize argFr [lst cI a_0, .int .i64 k_1] = fr0 at zf0 zf1 ⊢
  have hS : Sep h h.length [] := Sep.nil h
  simp only [x63, run_seq, run_reg, run_mv, run_ops_nil, x63_6, put_at, put_no, ev_t, ev_c, reduceIte, Nat.reduceEqDiff, List.map_cons, List.map_nil]
  obtain ⟨oc7, hX9, hk10⟩ := jn_some hF
  simp only [x63_5]
  refine loopF_j (σ := Int × Int) (fun s36 => laws_heldIntS_b1 a_0 s36.1 s36.2)
      (fun s fr' h' => fr' 0 = lst cI a_0 ∧ fr' 1 = .int .i64 s.1 ∧ fr' 5 = .int .i64 s.2 ∧ Sep h' h.length ([])) hX9 ⟨by simp only [zf0, put_at, put_no, ev_t, ev_c, reduceIte,
      Nat.reduceEqDiff, List.map_cons, List.map_nil], by simp only [zf1, put_at, put_no, ev_t, ev_c, reduceIte, Nat.reduceEqDiff, List.map_cons, List.map_nil],
      by simp only [put_at, put_no, ev_t, ev_c, reduceIte, Nat.reduceEqDiff, List.map_cons, List.map_nil], hS⟩ (fun _ _ _ h => h) ?_ ?_
  · rintro ⟨s3, s4⟩ fr19 h20 ⟨f22, f23, f24, hS21⟩ oc8 hF11 hr12 Q13 hN14 hK15 hR16 hE17
    dsimp only at *
    unfold laws_heldIntS_b1 at hF11
    simp only [x63_3, run_seq, run_reg, f24, run_mv, f22, run_len, put1_some, xlen_lst, run_bin, xlss, run_ops_nil, run_cond, put_at, put_no, ev_t, ev_c, reduceIte,
        Nat.reduceEqDiff, List.map_cons, List.map_nil]
    refine cond_split (t := (decide (s4 < (List.length a_0 : Int)))) (fun hc26 => ?_) (fun hc26 => ?_)
    · rw [iteT hc26] at hF11
      obtain ⟨x27, hx28, hF29⟩ := bind_some' hF11
      simp only [run_skip, x63_2, run_seq, run_block, x63_1, run_reg, f22, run_mv, f24, run_ia, put_at, put_no, ev_t, ev_c, reduceIte, Nat.reduceEqDiff, List.map_cons,
          List.map_nil]
      refine put1_eq (v := .ref (cI x27) 0) (xia_lst hx28 rfl) ?_
      simp only [run_ld, put_at, put_no, ev_t, ev_c, reduceIte, Nat.reduceEqDiff, List.map_cons, List.map_nil]
      refine put1_eq (v := .int .i64 x27) rfl ?_
      simp only [f23, run_mv, run_bin, put1_some, xneq, run_ops_nil, run_cond, put_at, put_no, ev_t, ev_c, reduceIte, Nat.reduceEqDiff, List.map_cons, List.map_nil]
      refine cond_split (t := (decide (x27 ≠ s3))) (fun hc30 => ?_) (fun hc30 => ?_)
      · rw [iteT hc30] at hF29
        simp only [run_seq, run_reg, run_mv, run_ops_nil, run_ret, put_at, put_no, ev_t, ev_c, reduceIte, Nat.reduceEqDiff, List.map_cons, List.map_nil]
        have e31 := some_inj hF29
        subst e31
        have ho32 := hr12 _ rfl
        have hk33 := hk10
        rw [ho32] at hk33
        dsimp only [jnO] at hk33
        apply hR16
        have he := some_inj hk33
        subst he
        simp only [end_ret1, put_at, put_no, ev_t, ev_c, reduceIte, Nat.reduceEqDiff, List.map_cons, List.map_nil]
        exact rfl
      · rw [iteF hc30] at hF29
        simp only [run_skip, run_reg, f23, run_mv, run_bin, put1_some, xadd, run_ops_nil, run_blk, f24, run_nil, put_at, put_no, ev_t, ev_c, reduceIte, Nat.reduceEqDiff,
            List.map_cons, List.map_nil]
        have e34 := some_inj hF29
        exact hN14 _ _ _ e34.symm ⟨by simp only [f22, put_at, put_no, ev_t, ev_c, reduceIte, Nat.reduceEqDiff, List.map_cons, List.map_nil], by simp only [put_at, put_no, ev_t,
            ev_c, reduceIte, Nat.reduceEqDiff, List.map_cons, List.map_nil], by simp only [put_at, put_no, ev_t, ev_c, reduceIte, Nat.reduceEqDiff, List.map_cons, List.map_nil],
            hS21⟩
    · rw [iteF hc26] at hF11
      simp only [run_exit, out_code, out_nil, put_at, put_no, ev_t, ev_c, reduceIte, Nat.reduceEqDiff, List.map_cons, List.map_nil]
      have e35 := some_inj hF11
      exact hK15 _ _ _ e35.symm ⟨by simp only [f22, put_at, put_no, ev_t, ev_c, reduceIte, Nat.reduceEqDiff, List.map_cons, List.map_nil], by simp only [f23, put_at, put_no, ev_t,
          ev_c, reduceIte, Nat.reduceEqDiff, List.map_cons, List.map_nil], by simp only [f24, put_at, put_no, ev_t, ev_c, reduceIte, Nat.reduceEqDiff, List.map_cons,
          List.map_nil], hS21⟩
  · rintro ⟨s37, s38⟩ fr39 h40 rfl ⟨f42, f43, f44, hS41⟩
    dsimp only [jnO] at hk10
    dsimp only at *
    unfold laws_heldIntS_j1 at hk10
    simp only [run_seq, run_reg, f43, run_mv, run_ops_nil, run_ret, put_at, put_no, ev_t, ev_c, reduceIte, Nat.reduceEqDiff, List.map_cons, List.map_nil]
    have he := some_inj hk10
    subst he
    simp only [end_ret1, put_at, put_no, ev_t, ev_c, reduceIte, Nat.reduceEqDiff, List.map_cons, List.map_nil]
    exact rfl
theorem laws_heldReaderS_x {W : Nat → Bool} {h : Heap} (hW : ∀ b,
    h.length ≤ b → W b = true) (k : Nat) (a_0 : List Reader) (k_1 : Int) (r : Int) (hF : laws_heldReaderS k a_0 k_1 = some r) : Ret E W 62 [lst Reader.cells a_0,
    .int .i64 k_1] h (fun v h' => cut h.length h' E.sz false 9 v = some (.int .i64 r)) := by
  refine Ret.of (fn := x62) rfl (Run.of ?_)
  unfold laws_heldReaderS at hF
  have zf0 : argFr [lst Reader.cells a_0, .int .i64 k_1] 0 = lst Reader.cells a_0 := rfl
  have zf1 : argFr [lst Reader.cells a_0, .int .i64 k_1] 1 = .int .i64 k_1 := rfl
  generalize argFr [lst Reader.cells a_0, .int .i64 k_1] = fr0 at zf0 zf1 ⊢
  have hS : Sep h h.length [] := Sep.nil h
  simp only [x62, run_seq, run_reg, run_mv, run_ops_nil, x62_13, put_at, put_no, ev_t, ev_c, reduceIte, Nat.reduceEqDiff, List.map_cons, List.map_nil]
  obtain ⟨oc7, hX9, hk10⟩ := jn_some hF
  simp only [x62_12]
  refine loopF_j (σ := Int × Int) (fun s63 => laws_heldReaderS_b1 k a_0 s63.1 s63.2)
      (fun s fr' h' => fr' 0 = lst Reader.cells a_0 ∧ fr' 1 = .int .i64 s.1 ∧ fr' 5 = .int .i64 s.2 ∧ Sep h' h.length ([])) hX9 ⟨by simp only [zf0, put_at, put_no, ev_t, ev_c,
      reduceIte, Nat.reduceEqDiff, List.map_cons, List.map_nil], by simp only [zf1, put_at, put_no, ev_t, ev_c, reduceIte, Nat.reduceEqDiff, List.map_cons, List.map_nil],
      by simp only [put_at, put_no, ev_t, ev_c, reduceIte, Nat.reduceEqDiff, List.map_cons, List.map_nil], hS⟩ (fun _ _ _ h => h) ?_ ?_
  · rintro ⟨s3, s4⟩ fr19 h20 ⟨f22, f23, f24, hS21⟩ oc8 hF11 hr12 Q13 hN14 hK15 hR16 hE17
    dsimp only at *
    unfold laws_heldReaderS_b1 at hF11
    simp only [x62_10, run_seq, run_reg, f24, run_mv, f22, run_len, put1_some, xlen_lst, run_bin, xlss, run_ops_nil, run_cond, put_at, put_no, ev_t, ev_c, reduceIte,
        Nat.reduceEqDiff, List.map_cons, List.map_nil]
    refine cond_split (t := (decide (s4 < (List.length a_0 : Int)))) (fun hc26 => ?_) (fun hc26 => ?_)
    · rw [iteT hc26] at hF11
      obtain ⟨x27, hx28, hF29⟩ := bind_some' hF11
      simp only [run_skip, x62_9, run_seq, run_block, x62_8, run_reg, f22, run_mv, f24, run_ia, put_at, put_no, ev_t, ev_c, reduceIte, Nat.reduceEqDiff, List.map_cons,
          List.map_nil]
      refine put1_eq (v := .ref (Reader.cells x27) 0) (xia_lst hx28 rfl) ?_
      simp only [run_fa, put1_some, Nat.reduceAdd, Nat.zero_add, Nat.add_zero, xfa_ref, run_ld, put_at, put_no, ev_t, ev_c, reduceIte, Nat.reduceEqDiff, List.map_cons,
          List.map_nil]
      refine put1_eq (v := .bool x27.In) rfl ?_
      simp only [f23, run_mv, run_bin, put1_some, xrem_nz (n := 3) (by decide), xeql, run_eqb, xeqb_t, run_ops_nil, run_cond, put_at, put_no, ev_t, ev_c, reduceIte,
          Nat.reduceEqDiff, List.map_cons, List.map_nil]
      refine cond_split (t := (!(x27.In == (decide ((Int.tmod s3 3) = 0))))) (fun hc30 => ?_) (fun hc30 => ?_)
      · rw [iteT hc30] at hF29
        simp only [run_seq, run_reg, run_mv, run_ops_nil, run_ret, put_at, put_no, ev_t, ev_c, reduceIte, Nat.reduceEqDiff, List.map_cons, List.map_nil]
        have e31 := some_inj hF29
        subst e31
        have ho32 := hr12 _ rfl
        have hk33 := hk10
        rw [ho32] at hk33
        dsimp only [jnO] at hk33
        apply hR16
        have he := some_inj hk33
        subst he
        simp only [end_ret1, put_at, put_no, ev_t, ev_c, reduceIte, Nat.reduceEqDiff, List.map_cons, List.map_nil]
        exact rfl
      · rw [iteF hc30] at hF29
        obtain ⟨x34, hx35, hF36⟩ := bind_some' hF29
        simp only [run_skip, x62_7, run_seq, run_reg, f23, run_mv, run_bin, put1_some, xadd, run_ops_nil, x62_6, f22, f24, run_ia, put_at, put_no, ev_t, ev_c, reduceIte,
            Nat.reduceEqDiff, List.map_cons, List.map_nil]
        refine put1_eq (v := .ref (Reader.cells x34) 0) (xia_lst hx35 rfl) ?_
        simp only [run_fa, put1_some, Nat.reduceAdd, Nat.zero_add, Nat.add_zero, xfa_ref, run_ld, put_at, put_no, ev_t, ev_c, reduceIte, Nat.reduceEqDiff, List.map_cons,
            List.map_nil]
        refine put1_eq (v := .int .i64 x34.Generation) rfl ?_
        simp only [run_mv, run_bin, put1_some, xneq, run_ops_nil, run_cond, put_at, put_no, ev_t, ev_c, reduceIte, Nat.reduceEqDiff, List.map_cons, List.map_nil]
        refine cond_split (t := (decide (x34.Generation ≠ (IntKind.wrap .i64 (s3 + 1))))) (fun hc37 => ?_) (fun hc37 => ?_)
        · rw [iteT hc37] at hF36
          simp only [run_seq, run_reg, run_mv, run_ops_nil, run_ret, put_at, put_no, ev_t, ev_c, reduceIte, Nat.reduceEqDiff, List.map_cons, List.map_nil]
          have e38 := some_inj hF36
          subst e38
          have ho39 := hr12 _ rfl
          have hk40 := hk10
          rw [ho39] at hk40
          dsimp only [jnO] at hk40
          apply hR16
          have he := some_inj hk40
          subst he
          simp only [end_ret1, put_at, put_no, ev_t, ev_c, reduceIte, Nat.reduceEqDiff, List.map_cons, List.map_nil]
          exact rfl
        · rw [iteF hc37] at hF36
          obtain ⟨x41, hx42, hF43⟩ := bind_some' hF36
          simp only [run_skip, x62_5, run_seq, run_reg, run_mv, run_bin, put1_some, xadd, run_ops_nil, x62_4, f22, f24, run_ia, put_at, put_no, ev_t, ev_c, reduceIte,
              Nat.reduceEqDiff, List.map_cons, List.map_nil]
          refine put1_eq (v := .ref (Reader.cells x41) 0) (xia_lst hx42 rfl) ?_
          simp only [run_fa, put1_some, Nat.reduceAdd, Nat.zero_add, Nat.add_zero, xfa_ref, run_ld, put_at, put_no, ev_t, ev_c, reduceIte, Nat.reduceEqDiff, List.map_cons,
              List.map_nil]
          refine put1_eq (v := lst cI x41.Share) rfl ?_
          obtain ⟨v44, hx45, hF46⟩ := bind_some' hF43
          simp only [run_mv, run_call, put_at, put_no, ev_t, ev_c, reduceIte, Nat.reduceEqDiff, List.map_cons, List.map_nil]
          refine call1 rfl (mapM1 snap_lst (mapM1 snap_int mapM0)) (laws_heldIntS_x (fun b hb => decide_eq_true hb) k x41.Share (IntKind.wrap .i64 ((IntKind.wrap .i64
              (s3 + 1)) + 1)) v44 hx45) ?_
          simp only [run_mv, run_ops_nil, x62_3, run_seq, run_reg, run_bin, put1_some, xlss, run_cond, put_at, put_no, ev_t, ev_c, reduceIte, Nat.reduceEqDiff, List.map_cons,
              List.map_nil]
          refine cond_split (t := (decide (v44 < 0))) (fun hc47 => ?_) (fun hc47 => ?_)
          · rw [iteT hc47] at hF46
            simp only [run_seq, run_reg, run_mv, run_ops_nil, run_ret, put_at, put_no, ev_t, ev_c, reduceIte, Nat.reduceEqDiff, List.map_cons, List.map_nil]
            have e48 := some_inj hF46
            subst e48
            have ho49 := hr12 _ rfl
            have hk50 := hk10
            rw [ho49] at hk50
            dsimp only [jnO] at hk50
            apply hR16
            have he := some_inj hk50
            subst he
            simp only [end_ret1, put_at, put_no, ev_t, ev_c, reduceIte, Nat.reduceEqDiff, List.map_cons, List.map_nil]
            exact rfl
          · rw [iteF hc47] at hF46
            obtain ⟨x51, hx52, hF53⟩ := bind_some' hF46
            simp only [run_skip, x62_2, run_seq, run_reg, f22, run_mv, f24, run_ia, put_at, put_no, ev_t, ev_c, reduceIte, Nat.reduceEqDiff, List.map_cons, List.map_nil]
            refine put1_eq (v := .ref (Reader.cells x51) 0) (xia_lst hx52 rfl) ?_
            simp only [run_fa, put1_some, Nat.reduceAdd, Nat.zero_add, Nat.add_zero, xfa_ref, run_ld, put_at, put_no, ev_t, ev_c, reduceIte, Nat.reduceEqDiff, List.map_cons,
                List.map_nil]
            refine put1_eq (v := lst cI x51.Read) rfl ?_
            obtain ⟨v54, hx55, hF56⟩ := bind_some' hF53
            simp only [run_mv, run_call, put_at, put_no, ev_t, ev_c, reduceIte, Nat.reduceEqDiff, List.map_cons, List.map_nil]
            refine call1 rfl (mapM1 snap_lst (mapM1 snap_int mapM0)) (laws_heldIntS_x (fun b hb => decide_eq_true hb) k x51.Read v44 v54 hx55) ?_
            simp only [run_mv, run_ops_nil, x62_1, run_seq, run_reg, run_bin, put1_some, xlss, run_cond, put_at, put_no, ev_t, ev_c, reduceIte, Nat.reduceEqDiff, List.map_cons,
                List.map_nil]
            refine cond_split (t := (decide (v54 < 0))) (fun hc57 => ?_) (fun hc57 => ?_)
            · rw [iteT hc57] at hF56
              simp only [run_seq, run_reg, run_mv, run_ops_nil, run_ret, put_at, put_no, ev_t, ev_c, reduceIte, Nat.reduceEqDiff, List.map_cons, List.map_nil]
              have e58 := some_inj hF56
              subst e58
              have ho59 := hr12 _ rfl
              have hk60 := hk10
              rw [ho59] at hk60
              dsimp only [jnO] at hk60
              apply hR16
              have he := some_inj hk60
              subst he
              simp only [end_ret1, put_at, put_no, ev_t, ev_c, reduceIte, Nat.reduceEqDiff, List.map_cons, List.map_nil]
              exact rfl
            · rw [iteF hc57] at hF56
              simp only [run_skip, run_blk, run_reg, f24, run_mv, run_bin, put1_some, xadd, run_ops_nil, run_nil, put_at, put_no, ev_t, ev_c, reduceIte, Nat.reduceEqDiff,
                  List.map_cons, List.map_nil]
              have e61 := some_inj hF56
              exact hN14 _ _ _ e61.symm ⟨by simp only [f22, put_at, put_no, ev_t, ev_c, reduceIte, Nat.reduceEqDiff, List.map_cons, List.map_nil], by simp only [put_at, put_no,
                  ev_t, ev_c, reduceIte, Nat.reduceEqDiff, List.map_cons, List.map_nil], by simp only [put_at, put_no, ev_t, ev_c, reduceIte, Nat.reduceEqDiff, List.map_cons,
                  List.map_nil], hS21⟩
    · rw [iteF hc26] at hF11
      simp only [run_exit, out_code, out_nil, put_at, put_no, ev_t, ev_c, reduceIte, Nat.reduceEqDiff, List.map_cons, List.map_nil]
      have e62 := some_inj hF11
      exact hK15 _ _ _ e62.symm ⟨by simp only [f22, put_at, put_no, ev_t, ev_c, reduceIte, Nat.reduceEqDiff, List.map_cons, List.map_nil], by simp only [f23, put_at, put_no, ev_t,
          ev_c, reduceIte, Nat.reduceEqDiff, List.map_cons, List.map_nil], by simp only [f24, put_at, put_no, ev_t, ev_c, reduceIte, Nat.reduceEqDiff, List.map_cons,
          List.map_nil], hS21⟩
  · rintro ⟨s64, s65⟩ fr66 h67 rfl ⟨f69, f70, f71, hS68⟩
    dsimp only [jnO] at hk10
    dsimp only at *
    unfold laws_heldReaderS_j1 at hk10
    simp only [run_seq, run_reg, f70, run_mv, run_ops_nil, run_ret, put_at, put_no, ev_t, ev_c, reduceIte, Nat.reduceEqDiff, List.map_cons, List.map_nil]
    have he := some_inj hk10
    subst he
    simp only [end_ret1, put_at, put_no, ev_t, ev_c, reduceIte, Nat.reduceEqDiff, List.map_cons, List.map_nil]
    exact rfl
theorem laws_heldReaders_x {W : Nat → Bool} {h : Heap} (hW : ∀ b,
    h.length ≤ b → W b = true) (k : Nat) (a_0 : Readers_) (k_1 : Int) (r : Int) (hF : laws_heldReaders k a_0 k_1 = some r) : Ret E W 28 [.agg [.int .i64 a_0.Generation,
    lst Reader.cells a_0.Readers, lst cI a_0.Committed, lst cI a_0.Ends], .int .i64 k_1] h (fun v h' => cut h.length h' E.sz false 9 v = some (.int .i64 r)) := by
  refine Ret.of (fn := x28) rfl (Run.of ?_)
  unfold laws_heldReaders at hF
  have zf0 : argFr [.agg [.int .i64 a_0.Generation, lst Reader.cells a_0.Readers, lst cI a_0.Committed, lst cI a_0.Ends], .int .i64 k_1] 0 = .agg [.int .i64 a_0.Generation,
      lst Reader.cells a_0.Readers, lst cI a_0.Committed, lst cI a_0.Ends] := rfl
  have zf1 : argFr [.agg [.int .i64 a_0.Generation, lst Reader.cells a_0.Readers, lst cI a_0.Committed, lst cI a_0.Ends], .int .i64 k_1] 1 = .int .i64 k_1 := rfl
  generalize argFr [.agg [.int .i64 a_0.Generation, lst Reader.cells a_0.Readers, lst cI a_0.Committed, lst cI a_0.Ends], .int .i64 k_1] = fr0 at zf0 zf1 ⊢
  have hS : Sep h h.length [] := Sep.nil h
  simp only [x28, run_seq, run_reg, run_box, zf0, put_at, put_no, ev_t, ev_c, reduceIte, Nat.reduceEqDiff, List.map_cons, List.map_nil]
  refine put2_boxC (cs := [.int .i64 a_0.Generation, lst Reader.cells a_0.Readers, lst cI a_0.Committed, lst cI a_0.Ends]) hS rfl rfl rfl (fun b1 h2 hS3 => ?_)
  simp only [run_mv, run_ops_nil, put_at, put_no, ev_t, ev_c, reduceIte, Nat.reduceEqDiff, List.map_cons, List.map_nil]
  refine frz_stepC hS3 hW (by simp only [put_at, put_no, ev_t, ev_c, reduceIte, Nat.reduceEqDiff, List.map_cons, List.map_nil]) (fun h5 hS6 => ?_)
  simp only [run_frz_nil, x28_6, run_seq, run_reg, run_fa, put1_some, Nat.reduceAdd, Nat.zero_add, Nat.add_zero, xfa_ref, run_ld, put_at, put_no, ev_t, ev_c, reduceIte,
      Nat.reduceEqDiff, List.map_cons, List.map_nil]
  refine put1_eq (v := lst Reader.cells a_0.Readers) rfl ?_
  obtain ⟨v7, hx8, hF9⟩ := bind_some' hF
  simp only [zf1, run_mv, run_call, put_at, put_no, ev_t, ev_c, reduceIte, Nat.reduceEqDiff, List.map_cons, List.map_nil]
  refine call1 rfl (mapM1 snap_lst (mapM1 snap_int mapM0)) (laws_heldReaderS_x (fun b hb => decide_eq_true hb) k a_0.Readers k_1 v7 hx8) ?_
  simp only [run_mv, run_ops_nil, x28_5, run_seq, run_reg, run_bin, put1_some, xlss, run_cond, put_at, put_no, ev_t, ev_c, reduceIte, Nat.reduceEqDiff, List.map_cons, List.map_nil]
  refine cond_split (t := (decide (v7 < 0))) (fun hc10 => ?_) (fun hc10 => ?_)
  · rw [iteT hc10] at hF9
    simp only [run_seq, run_reg, run_mv, run_ops_nil, run_ret, put_at, put_no, ev_t, ev_c, reduceIte, Nat.reduceEqDiff, List.map_cons, List.map_nil]
    have he := some_inj hF9
    subst he
    simp only [end_ret1, put_at, put_no, ev_t, ev_c, reduceIte, Nat.reduceEqDiff, List.map_cons, List.map_nil]
    exact rfl
  · rw [iteF hc10] at hF9
    simp only [run_skip, x28_4, run_seq, run_reg, run_fa, put1_some, Nat.reduceAdd, Nat.zero_add, Nat.add_zero, xfa_ref, run_ld, put_at, put_no, ev_t, ev_c, reduceIte,
        Nat.reduceEqDiff, List.map_cons, List.map_nil]
    refine put1_eq (v := lst cI a_0.Committed) rfl ?_
    obtain ⟨v11, hx12, hF13⟩ := bind_some' hF9
    simp only [run_mv, run_call, put_at, put_no, ev_t, ev_c, reduceIte, Nat.reduceEqDiff, List.map_cons, List.map_nil]
    refine call1 rfl (mapM1 snap_lst (mapM1 snap_int mapM0)) (laws_heldIntS_x (fun b hb => decide_eq_true hb) k a_0.Committed v7 v11 hx12) ?_
    simp only [run_mv, run_ops_nil, x28_3, run_seq, run_reg, run_bin, put1_some, xlss, run_cond, put_at, put_no, ev_t, ev_c, reduceIte, Nat.reduceEqDiff, List.map_cons,
        List.map_nil]
    refine cond_split (t := (decide (v11 < 0))) (fun hc14 => ?_) (fun hc14 => ?_)
    · rw [iteT hc14] at hF13
      simp only [run_seq, run_reg, run_mv, run_ops_nil, run_ret, put_at, put_no, ev_t, ev_c, reduceIte, Nat.reduceEqDiff, List.map_cons, List.map_nil]
      have he := some_inj hF13
      subst he
      simp only [end_ret1, put_at, put_no, ev_t, ev_c, reduceIte, Nat.reduceEqDiff, List.map_cons, List.map_nil]
      exact rfl
    · rw [iteF hc14] at hF13
      simp only [run_skip, x28_2, run_seq, run_reg, run_fa, put1_some, Nat.reduceAdd, Nat.zero_add, Nat.add_zero, xfa_ref, run_ld, put_at, put_no, ev_t, ev_c, reduceIte,
          Nat.reduceEqDiff, List.map_cons, List.map_nil]
      refine put1_eq (v := lst cI a_0.Ends) rfl ?_
      obtain ⟨v15, hx16, hF17⟩ := bind_some' hF13
      simp only [run_mv, run_call, put_at, put_no, ev_t, ev_c, reduceIte, Nat.reduceEqDiff, List.map_cons, List.map_nil]
      refine call1 rfl (mapM1 snap_lst (mapM1 snap_int mapM0)) (laws_heldIntS_x (fun b hb => decide_eq_true hb) k a_0.Ends v11 v15 hx16) ?_
      simp only [run_mv, run_ops_nil, x28_1, run_seq, run_reg, run_bin, put1_some, xlss, run_cond, put_at, put_no, ev_t, ev_c, reduceIte, Nat.reduceEqDiff, List.map_cons,
          List.map_nil]
      refine cond_split (t := (decide (v15 < 0))) (fun hc18 => ?_) (fun hc18 => ?_)
      · rw [iteT hc18] at hF17
        simp only [run_seq, run_reg, run_mv, run_ops_nil, run_ret, put_at, put_no, ev_t, ev_c, reduceIte, Nat.reduceEqDiff, List.map_cons, List.map_nil]
        have he := some_inj hF17
        subst he
        simp only [end_ret1, put_at, put_no, ev_t, ev_c, reduceIte, Nat.reduceEqDiff, List.map_cons, List.map_nil]
        exact rfl
      · rw [iteF hc18] at hF17
        simp only [run_skip, run_seq, run_reg, run_mv, run_ops_nil, run_ret, put_at, put_no, ev_t, ev_c, reduceIte, Nat.reduceEqDiff, List.map_cons, List.map_nil]
        have he := some_inj hF17
        subst he
        simp only [end_ret1, put_at, put_no, ev_t, ev_c, reduceIte, Nat.reduceEqDiff, List.map_cons, List.map_nil]
        exact rfl
theorem laws_heldBoolS_x {W : Nat → Bool} {h : Heap} (hW : ∀ b,
    h.length ≤ b → W b = true) (k : Nat) (a_0 : List Bool) (k_1 : Int) (r : Int) (hF : laws_heldBoolS k a_0 k_1 = some r) : Ret E W 29 [lst cB a_0,
    .int .i64 k_1] h (fun v h' => cut h.length h' E.sz false 9 v = some (.int .i64 r)) := by
  refine Ret.of (fn := x29) rfl (Run.of ?_)
  unfold laws_heldBoolS at hF
  have zf0 : argFr [lst cB a_0, .int .i64 k_1] 0 = lst cB a_0 := rfl
  have zf1 : argFr [lst cB a_0, .int .i64 k_1] 1 = .int .i64 k_1 := rfl
  generalize argFr [lst cB a_0, .int .i64 k_1] = fr0 at zf0 zf1 ⊢
  have hS : Sep h h.length [] := Sep.nil h
  simp only [x29, run_seq, run_reg, run_mv, run_ops_nil, x29_6, put_at, put_no, ev_t, ev_c, reduceIte, Nat.reduceEqDiff, List.map_cons, List.map_nil]
  obtain ⟨oc7, hX9, hk10⟩ := jn_some hF
  simp only [x29_5]
  refine loopF_j (σ := Int × Int) (fun s36 => laws_heldBoolS_b1 a_0 s36.1 s36.2)
      (fun s fr' h' => fr' 0 = lst cB a_0 ∧ fr' 1 = .int .i64 s.1 ∧ fr' 5 = .int .i64 s.2 ∧ Sep h' h.length ([])) hX9 ⟨by simp only [zf0, put_at, put_no, ev_t, ev_c, reduceIte,
      Nat.reduceEqDiff, List.map_cons, List.map_nil], by simp only [zf1, put_at, put_no, ev_t, ev_c, reduceIte, Nat.reduceEqDiff, List.map_cons, List.map_nil],
      by simp only [put_at, put_no, ev_t, ev_c, reduceIte, Nat.reduceEqDiff, List.map_cons, List.map_nil], hS⟩ (fun _ _ _ h => h) ?_ ?_
  · rintro ⟨s3, s4⟩ fr19 h20 ⟨f22, f23, f24, hS21⟩ oc8 hF11 hr12 Q13 hN14 hK15 hR16 hE17
    dsimp only at *
    unfold laws_heldBoolS_b1 at hF11
    simp only [x29_3, run_seq, run_reg, f24, run_mv, f22, run_len, put1_some, xlen_lst, run_bin, xlss, run_ops_nil, run_cond, put_at, put_no, ev_t, ev_c, reduceIte,
        Nat.reduceEqDiff, List.map_cons, List.map_nil]
    refine cond_split (t := (decide (s4 < (List.length a_0 : Int)))) (fun hc26 => ?_) (fun hc26 => ?_)
    · rw [iteT hc26] at hF11
      obtain ⟨x27, hx28, hF29⟩ := bind_some' hF11
      simp only [run_skip, x29_2, run_seq, run_block, x29_1, run_reg, f22, run_mv, f24, run_ia, put_at, put_no, ev_t, ev_c, reduceIte, Nat.reduceEqDiff, List.map_cons,
          List.map_nil]
      refine put1_eq (v := .ref (cB x27) 0) (xia_lst hx28 rfl) ?_
      simp only [run_ld, put_at, put_no, ev_t, ev_c, reduceIte, Nat.reduceEqDiff, List.map_cons, List.map_nil]
      refine put1_eq (v := .bool x27) rfl ?_
      simp only [f23, run_mv, run_bin, put1_some, xrem_nz (n := 3) (by decide), xeql, run_eqb, xeqb_t, run_ops_nil, run_cond, put_at, put_no, ev_t, ev_c, reduceIte,
          Nat.reduceEqDiff, List.map_cons, List.map_nil]
      refine cond_split (t := (!(x27 == (decide ((Int.tmod s3 3) = 0))))) (fun hc30 => ?_) (fun hc30 => ?_)
      · rw [iteT hc30] at hF29
        simp only [run_seq, run_reg, run_mv, run_ops_nil, run_ret, put_at, put_no, ev_t, ev_c, reduceIte, Nat.reduceEqDiff, List.map_cons, List.map_nil]
        have e31 := some_inj hF29
        subst e31
        have ho32 := hr12 _ rfl
        have hk33 := hk10
        rw [ho32] at hk33
        dsimp only [jnO] at hk33
        apply hR16
        have he := some_inj hk33
        subst he
        simp only [end_ret1, put_at, put_no, ev_t, ev_c, reduceIte, Nat.reduceEqDiff, List.map_cons, List.map_nil]
        exact rfl
      · rw [iteF hc30] at hF29
        simp only [run_skip, run_reg, f23, run_mv, run_bin, put1_some, xadd, run_ops_nil, run_blk, f24, run_nil, put_at, put_no, ev_t, ev_c, reduceIte, Nat.reduceEqDiff,
            List.map_cons, List.map_nil]
        have e34 := some_inj hF29
        exact hN14 _ _ _ e34.symm ⟨by simp only [f22, put_at, put_no, ev_t, ev_c, reduceIte, Nat.reduceEqDiff, List.map_cons, List.map_nil], by simp only [put_at, put_no, ev_t,
            ev_c, reduceIte, Nat.reduceEqDiff, List.map_cons, List.map_nil], by simp only [put_at, put_no, ev_t, ev_c, reduceIte, Nat.reduceEqDiff, List.map_cons, List.map_nil],
            hS21⟩
    · rw [iteF hc26] at hF11
      simp only [run_exit, out_code, out_nil, put_at, put_no, ev_t, ev_c, reduceIte, Nat.reduceEqDiff, List.map_cons, List.map_nil]
      have e35 := some_inj hF11
      exact hK15 _ _ _ e35.symm ⟨by simp only [f22, put_at, put_no, ev_t, ev_c, reduceIte, Nat.reduceEqDiff, List.map_cons, List.map_nil], by simp only [f23, put_at, put_no, ev_t,
          ev_c, reduceIte, Nat.reduceEqDiff, List.map_cons, List.map_nil], by simp only [f24, put_at, put_no, ev_t, ev_c, reduceIte, Nat.reduceEqDiff, List.map_cons,
          List.map_nil], hS21⟩
  · rintro ⟨s37, s38⟩ fr39 h40 rfl ⟨f42, f43, f44, hS41⟩
    dsimp only [jnO] at hk10
    dsimp only at *
    unfold laws_heldBoolS_j1 at hk10
    simp only [run_seq, run_reg, f43, run_mv, run_ops_nil, run_ret, put_at, put_no, ev_t, ev_c, reduceIte, Nat.reduceEqDiff, List.map_cons, List.map_nil]
    have he := some_inj hk10
    subst he
    simp only [end_ret1, put_at, put_no, ev_t, ev_c, reduceIte, Nat.reduceEqDiff, List.map_cons, List.map_nil]
    exact rfl
end Go.Proofs.Ytdhibknhejhfaaa.X
namespace Go.Proofs.Ytdhibknhejhfaaa.X
open Go
theorem laws_FnExactPlayReaders_x {W : Nat → Bool} {h : Heap} (hW : ∀ b,
    h.length ≤ b → W b = true) (k : Nat) (v_0 : Int) (v_1 : List Int) (v_2 : List GroupStep) (r : Bool)
    (hF : laws_FnExactPlayReaders k v_0 v_1 v_2 = some r) : Ret E W 4 [.int .i64 v_0, lst cI v_1,
    lst GroupStep.cells v_2] h (fun v h' => cut h.length h' E.sz false 9 v = some (.bool r)) := by
  refine Ret.of (fn := x4) rfl (Run.of ?_)
  unfold laws_FnExactPlayReaders at hF
  have zf0 : argFr [.int .i64 v_0, lst cI v_1, lst GroupStep.cells v_2] 0 = .int .i64 v_0 := rfl
  have zf1 : argFr [.int .i64 v_0, lst cI v_1, lst GroupStep.cells v_2] 1 = lst cI v_1 := rfl
  have zf2 : argFr [.int .i64 v_0, lst cI v_1, lst GroupStep.cells v_2] 2 = lst GroupStep.cells v_2 := rfl
  generalize argFr [.int .i64 v_0, lst cI v_1, lst GroupStep.cells v_2] = fr0 at zf0 zf1 zf2 ⊢
  have hS : Sep h h.length [] := Sep.nil h
  simp only [x4, run_seq, run_reg, run_mv, run_ops_nil, x4_32, zf1, run_len, put1_some, xlen_lst, run_bin, xgtr, run_cond, put_at, put_no, ev_t, ev_c, reduceIte, Nat.reduceEqDiff,
      List.map_cons, List.map_nil]
  refine cond_split (t := (decide ((1048576 : Int) < (List.length v_1 : Int)))) (fun hc1 => ?_) (fun hc1 => ?_)
  · rw [iteT hc1] at hF
    simp only [run_seq, run_reg, run_mv, run_ops_nil, run_ret, put_at, put_no, ev_t, ev_c, reduceIte, Nat.reduceEqDiff, List.map_cons, List.map_nil]
    have he := some_inj hF
    subst he
    simp only [end_ret1, put_at, put_no, ev_t, ev_c, reduceIte, Nat.reduceEqDiff, List.map_cons, List.map_nil]
    exact rfl
  · rw [iteF hc1] at hF
    obtain ⟨v2, hx3, hF4⟩ := bind_some' hF
    simp only [run_skip, x4_31, run_seq, run_reg, run_mv, run_ops_nil, x4_30, zf2, run_call, put_at, put_no, ev_t, ev_c, reduceIte, Nat.reduceEqDiff, List.map_cons, List.map_nil]
    refine call1 rfl (mapM1 snap_lst (mapM1 snap_int mapM0)) (laws_szGroupStepS_x (fun b hb => decide_eq_true hb) v_2 1048576 v2 hx3) ?_
    simp only [run_mv, run_ops_nil, x4_29, run_seq, run_reg, run_bin, put1_some, xlss, run_cond, put_at, put_no, ev_t, ev_c, reduceIte, Nat.reduceEqDiff, List.map_cons,
        List.map_nil]
    refine cond_split (t := (decide (v2 < 0))) (fun hc5 => ?_) (fun hc5 => ?_)
    · rw [iteT hc5] at hF4
      simp only [run_seq, run_reg, run_mv, run_ops_nil, run_ret, put_at, put_no, ev_t, ev_c, reduceIte, Nat.reduceEqDiff, List.map_cons, List.map_nil]
      have he := some_inj hF4
      subst he
      simp only [end_ret1, put_at, put_no, ev_t, ev_c, reduceIte, Nat.reduceEqDiff, List.map_cons, List.map_nil]
      exact rfl
    · rw [iteF hc5] at hF4
      obtain ⟨v6, hx7, hF8⟩ := bind_some' hF4
      simp only [run_skip, x4_28, run_seq, run_reg, zf0, run_mv, zf1, run_call, put_at, put_no, ev_t, ev_c, reduceIte, Nat.reduceEqDiff, List.map_cons, List.map_nil]
      refine call2 rfl hS (mapM1 snap_lst mapM0) (laws_toIntS_x (fun b hb => decide_eq_true hb) k v_1 v6 hx7) ?_
      rintro v9 h13 ⟨_, c10, rfl, hv11, hS14⟩
      refine ⟨_, free_1 (SlF.free1 hv11), hS14, (pf_app (SlF.pf hv11 (fun _ => rfl)) pf_nil), fun h15 hS16 => ?_⟩
      have hS17 : Sep h15 h.length (c10 ++ ([])) := by simpa only [List.append_assoc, List.nil_append] using hS16
      obtain ⟨v18, hx19, hF20⟩ := bind_some' hF8
      simp only [zf2, run_mv, run_call, put_at, put_no, ev_t, ev_c, reduceIte, Nat.reduceEqDiff, List.map_cons, List.map_nil]
      refine call2 rfl hS17 (mapM1 snap_lst mapM0) (laws_toGroupStepS_x (fun b hb => decide_eq_true hb) k v_2 v18 hx19) ?_
      rintro v21 h25 ⟨_, c22, rfl, hv23, hS26⟩
      refine ⟨_, free_1 (SlF.free1 hv23), hS26, (pf_app (SlF.pf hv23 (fun _ => rfl)) pf_nil), fun h27 hS28 => ?_⟩
      have hS29 : Sep h27 h.length (c22 ++ (c10 ++ ([]))) := by simpa only [List.append_assoc, List.nil_append] using hS28
      obtain ⟨v30, hx31, hF32⟩ := bind_some' hF20
      simp only [run_call, put_at, put_no, ev_t, ev_c, reduceIte, Nat.reduceEqDiff, List.map_cons, List.map_nil]
      refine call2 rfl hS29 (mapM1 snap_int (mapM1 (SlF.snap hv11 (Sep.m1 hS29) rfl (fun _ => rfl) (fun _ => rfl)) (mapM1 (SlF.snap hv23 hS29 rfl (fun _ => rfl)
          (fun _ => rfl)) mapM0))) (spec_PlayReaders_x (fun b hb => decide_eq_true hb) k v_0 v6 v18 v30 hx31) ?_
      rintro _ h49 ⟨v33, c34, v37, c38, v41, c42, v45, c46, rfl, hv35, hv39, hv43, hv47, hS50⟩
      refine ⟨_, free_t (all_c (free2_a (all_c rfl (all_c (SlN.free1 hv35) (all_c (SlF.free1 hv39) (all_c (SlF.free1 hv43) all_n))))) (all_c (free2_1 (SlF.free1 hv47))
          (all_c rfl all_n))), hS50, (pf_app (SlN.pf hv35 Reader.RO) (pf_app (SlF.pf hv39 (fun _ => rfl)) (pf_app (SlF.pf hv43 (fun _ => rfl)) (pf_app (SlF.pf hv47
          (fun _ => rfl)) pf_nil)))), fun h51 hS52 => ?_⟩
      have hS53 : Sep h51 h.length (c34 ++ (c38 ++ (c42 ++ (c46 ++ (c22 ++ (c10 ++ ([]))))))) := by simpa only [List.append_assoc, List.nil_append] using hS52
      simp only [run_mv, run_ext, put1_some, xext_0, xext_1, xext_2, run_new, put_at, put_no, ev_t, ev_c, reduceIte, Nat.reduceEqDiff, List.map_cons, List.map_nil]
      refine put2_newC hS53 (fun b54 h55 hS56 => ?_)
      simp only [run_st, put_at, put_no, ev_t, ev_c, reduceIte, Nat.reduceEqDiff, List.map_cons, List.map_nil]
      refine put2_stCx (us := [.int .i64 v30.1.Generation, v33, v37, v41]) rfl (cs' := [.int .i64 v30.1.Generation, v33, v37,
          v41]) hS56 hW rfl (all_c rfl (all_c (SlN.one hv35) (all_c (SlF.one hv39) (all_c (SlF.one hv43) all_n)))) (Nat.le_of_ble_eq_true rfl) rfl (fun h58 hS59 => ?_)
      simp only [put_no, run_mv, run_ops_nil, put_at, ev_t, ev_c, reduceIte, Nat.reduceEqDiff, List.map_cons, List.map_nil]
      refine frz_stepC hS59 hW (by simp only [put_at, put_no, ev_t, ev_c, reduceIte, Nat.reduceEqDiff, List.map_cons, List.map_nil]) (fun h60 hS61 => ?_)
      obtain ⟨v62, hx63, hF64⟩ := bind_some' hF32
      simp only [run_frz_nil, x4_27, run_seq, run_reg, zf1, run_mv, run_call, put_at, put_no, ev_t, ev_c, reduceIte, Nat.reduceEqDiff, List.map_cons, List.map_nil]
      refine call2 rfl hS61 (mapM1 snap_lst mapM0) (laws_toIntS_x (fun b hb => decide_eq_true hb) k v_1 v62 hx63) ?_
      rintro v65 h69 ⟨_, c66, rfl, hv67, hS70⟩
      refine ⟨_, free_1 (SlF.free1 hv67), hS70, (pf_app (SlF.pf hv67 (fun _ => rfl)) pf_nil), fun h71 hS72 => ?_⟩
      have hS73 : Sep h71 h.length (c66 ++ (c34 ++ (c38 ++ (c42 ++ (c46 ++ (c22 ++ (c10 ++ ([])))))))) := by simpa only [List.append_assoc, List.nil_append] using hS72
      obtain ⟨v74, hx75, hF76⟩ := bind_some' hF64
      simp only [run_mv, run_ops_nil, x4_26, run_seq, run_reg, zf2, run_call, put_at, put_no, ev_t, ev_c, reduceIte, Nat.reduceEqDiff, List.map_cons, List.map_nil]
      refine call2 rfl hS73 (mapM1 snap_lst mapM0) (laws_toGroupStepS_x (fun b hb => decide_eq_true hb) k v_2 v74 hx75) ?_
      rintro v77 h81 ⟨_, c78, rfl, hv79, hS82⟩
      refine ⟨_, free_1 (SlF.free1 hv79), hS82, (pf_app (SlF.pf hv79 (fun _ => rfl)) pf_nil), fun h83 hS84 => ?_⟩
      have hS85 : Sep h83 h.length (c78 ++ (c66 ++ (c34 ++ (c38 ++ (c42 ++ (c46 ++ (c22 ++ (c10 ++ ([]))))))))) := by simpa only [List.append_assoc, List.nil_append] using hS84
      obtain ⟨v86, hx87, hF88⟩ := bind_some' hF76
      simp only [run_mv, run_ops_nil, x4_25, run_seq, run_reg, zf0, run_call, put_at, put_no, ev_t, ev_c, reduceIte, Nat.reduceEqDiff, List.map_cons, List.map_nil]
      refine call2 rfl hS85 (mapM1 snap_int (mapM1 (SlF.snap hv67 (Sep.m1 hS85) rfl (fun _ => rfl) (fun _ => rfl)) (mapM1 (SlF.snap hv79 hS85 rfl (fun _ => rfl)
          (fun _ => rfl)) mapM0))) (impl_PlayReaders_x (fun b hb => decide_eq_true hb) v_0 v62 v74 v86 hx87) ?_
      rintro _ h105 ⟨v89, c90, v93, c94, v97, c98, v101, c102, rfl, hv91, hv95, hv99, hv103, hS106⟩
      refine ⟨_, free_t (all_c (free2_a (all_c rfl (all_c (SlN.free1 hv91) (all_c (SlF.free1 hv95) (all_c (SlF.free1 hv99) all_n))))) (all_c (free2_1 (SlF.free1 hv103))
          (all_c rfl all_n))), hS106, (pf_app (SlN.pf hv91 Reader.RO) (pf_app (SlF.pf hv95 (fun _ => rfl)) (pf_app (SlF.pf hv99 (fun _ => rfl)) (pf_app (SlF.pf hv103
          (fun _ => rfl)) pf_nil)))), fun h107 hS108 => ?_⟩
      have hS109 : Sep h107 h.length (c90 ++ (c94 ++ (c98 ++ (c102 ++ (c78 ++ (c66 ++ (c34 ++ (c38 ++ (c42 ++ (c46 ++ (c22 ++ (c10 ++
          ([]))))))))))))) := by simpa only [List.append_assoc, List.nil_append] using hS108
      simp only [run_mv, run_ext, put1_some, xext_0, xext_1, xext_2, run_new, put_at, put_no, ev_t, ev_c, reduceIte, Nat.reduceEqDiff, List.map_cons, List.map_nil]
      refine put2_newC hS109 (fun b110 h111 hS112 => ?_)
      simp only [run_st, put_at, put_no, ev_t, ev_c, reduceIte, Nat.reduceEqDiff, List.map_cons, List.map_nil]
      refine put2_stCx (us := [.int .i64 v86.1.Generation, v89, v93, v97]) rfl (cs' := [.int .i64 v86.1.Generation, v89, v93,
          v97]) hS112 hW rfl (all_c rfl (all_c (SlN.one hv91) (all_c (SlF.one hv95) (all_c (SlF.one hv99) all_n)))) (Nat.le_of_ble_eq_true rfl) rfl (fun h114 hS115 => ?_)
      simp only [put_no, run_mv, run_ops_nil, put_at, ev_t, ev_c, reduceIte, Nat.reduceEqDiff, List.map_cons, List.map_nil]
      refine frz_stepC hS115 hW (by simp only [put_at, put_no, ev_t, ev_c, reduceIte, Nat.reduceEqDiff, List.map_cons, List.map_nil]) (fun h116 hS117 => ?_)
      simp only [run_frz_nil, x4_24, run_seq, run_reg, run_ld, put_at, put_no, ev_t, ev_c, reduceIte, Nat.reduceEqDiff, List.map_cons, List.map_nil]
      refine put1_eq (v := .agg [.int .i64 v86.1.Generation, v89, v93, v97]) rfl ?_
      simp only [run_ld, put_at, put_no, ev_t, ev_c, reduceIte, Nat.reduceEqDiff, List.map_cons, List.map_nil]
      refine put1_eq (v := .agg [.int .i64 v30.1.Generation, v33, v37, v41]) rfl ?_
      obtain ⟨v118, hx119, hF120⟩ := bind_some' hF88
      simp only [run_call, put_at, put_no, ev_t, ev_c, reduceIte, Nat.reduceEqDiff, List.map_cons, List.map_nil]
      refine call1 rfl (mapM1 (snap_agg (mapM1 snap_int (mapM1 (SlN.snap hv91 _ hS117 rfl Reader.RO) (mapM1 (SlF.snap hv95 (Sep.m1 hS117) rfl (fun _ => rfl) (fun _ => rfl))
          (mapM1 (SlF.snap hv99 (Sep.m2 hS117) rfl (fun _ => rfl) (fun _ => rfl)) mapM0))))) (mapM1 (snap_agg (mapM1 snap_int (mapM1 (SlN.snap hv35 _
          (Sep.m6 hS117) rfl Reader.RO) (mapM1 (SlF.snap hv39 (Sep.m7 hS117) rfl (fun _ => rfl) (fun _ => rfl)) (mapM1 (SlF.snap hv43 (Sep.m8 hS117) rfl (fun _ => rfl)
          (fun _ => rfl)) mapM0))))) mapM0)) (laws_eqReaders_x (fun b hb => decide_eq_true hb) k v86.1 v30.1 v118 hx119) ?_
      simp only [run_un, put1_some, xnot, run_mv, put_at, put_no, ev_t, ev_c, reduceIte, Nat.reduceEqDiff, List.map_cons, List.map_nil]
      obtain ⟨v124, hx125, hF126⟩ := bind_some' hF120
      refine ops_j 5 (fun fr' h' => Sep h' h.length (c34 ++ (c38 ++ (c42 ++ (c46 ++ (c66 ++ (c78 ++ (c90 ++ (c94 ++ (c98 ++ (c102 ++
          ([]))))))))))) ∧ fr' 61 = .bool v124 ∧ fr' 0 = .int .i64 v_0 ∧ fr' 1 = lst cI v_1 ∧ fr' 2 = lst GroupStep.cells v_2 ∧ fr' 8 = .ref [.int .i64 v30.1.Generation, v33, v37,
          v41] 0 ∧ fr' 9 = v45 ∧ fr' 10 = .bool v30.2.2 ∧ fr' 11 = v65 ∧ fr' 12 = v77 ∧ fr' 13 = .ref [.int .i64 v86.1.Generation, v89, v93,
          v97] 0 ∧ fr' 14 = v101 ∧ fr' 15 = .bool v86.2.2) (fun Q121 hN122 => ?_) ?_
      · simp only [List.take_succ_cons, List.take_zero]
        simp only [run_guard (g := 56), put_at, put_no, ev_t, ev_c, reduceIte, Nat.reduceEqDiff, List.map_cons, List.map_nil]
        refine guard_split (t := (!v118)) (fun hg123 => ?_) (fun hg123 => ?_)
        · rw [iteT hg123] at hx125
          simp only [hg123, run_guard (g := 56), guard_off', run_pick, put1_some, xpick_t, run_ops_nil, run_nil, put_at, put_no, ev_t, ev_c, reduceIte, Nat.reduceEqDiff,
              List.map_cons, List.map_nil]
          have e127 := some_inj hx125
          exact hN122 _ _ ⟨(Sep.m9 (Sep.m9 (Sep.m9 (Sep.m9 (Sep.m5 (Sep.m4 (Sep.m3 (Sep.m3 (Sep.m3 (Sep.m3 (Sep.dc (Sep.m10 (Sep.dc (Sep.m10 hS117)))))))))))))),
              by rw [← e127]; simp only [put_at, put_no, ev_t, ev_c, reduceIte, Nat.reduceEqDiff, List.map_cons, List.map_nil], by simp only [zf0, put_at, put_no, ev_t, ev_c,
              reduceIte, Nat.reduceEqDiff, List.map_cons, List.map_nil], by simp only [zf1, put_at, put_no, ev_t, ev_c, reduceIte, Nat.reduceEqDiff, List.map_cons, List.map_nil],
              by simp only [zf2, put_at, put_no, ev_t, ev_c, reduceIte, Nat.reduceEqDiff, List.map_cons, List.map_nil], by simp only [put_at, put_no, ev_t, ev_c, reduceIte,
              Nat.reduceEqDiff, List.map_cons, List.map_nil], by simp only [put_at, put_no, ev_t, ev_c, reduceIte, Nat.reduceEqDiff, List.map_cons, List.map_nil],
              by simp only [put_at, put_no, ev_t, ev_c, reduceIte, Nat.reduceEqDiff, List.map_cons, List.map_nil], by simp only [put_at, put_no, ev_t, ev_c, reduceIte,
              Nat.reduceEqDiff, List.map_cons, List.map_nil], by simp only [put_at, put_no, ev_t, ev_c, reduceIte, Nat.reduceEqDiff, List.map_cons, List.map_nil],
              by simp only [put_at, put_no, ev_t, ev_c, reduceIte, Nat.reduceEqDiff, List.map_cons, List.map_nil], by simp only [put_at, put_no, ev_t, ev_c, reduceIte,
              Nat.reduceEqDiff, List.map_cons, List.map_nil], by simp only [put_at, put_no, ev_t, ev_c, reduceIte, Nat.reduceEqDiff, List.map_cons, List.map_nil]⟩
        · rw [iteF hg123] at hx125
          obtain ⟨v128, hx129, hF130⟩ := bind_some' hx125
          simp only [hg123, run_guard (g := 56), guard_false, run_mv, run_call, put_at, put_no, ev_t, ev_c, reduceIte, Nat.reduceEqDiff, List.map_cons, List.map_nil]
          refine call1 rfl (mapM1 (SlF.snap hv103 (Sep.m3 hS117) rfl (fun _ => rfl) (fun _ => rfl)) (mapM1 (SlF.snap hv47 (Sep.m9 hS117) rfl (fun _ => rfl)
              (fun _ => rfl)) mapM0)) (laws_eqBoolS_x (fun b hb => decide_eq_true hb) k v86.2.1 v30.2.1 v128 hx129) ?_
          simp only [hg123, run_guard (g := 56), guard_false, run_un, put1_some, xnot, run_pick, xpick_f, run_ops_nil, run_nil, put_at, put_no, ev_t, ev_c, reduceIte,
              Nat.reduceEqDiff, List.map_cons, List.map_nil]
          have e131 := some_inj hF130
          exact hN122 _ _ ⟨(Sep.m9 (Sep.m9 (Sep.m9 (Sep.m9 (Sep.m5 (Sep.m4 (Sep.m3 (Sep.m3 (Sep.m3 (Sep.m3 (Sep.dc (Sep.m10 (Sep.dc (Sep.m10 hS117)))))))))))))),
              by rw [← e131]; simp only [put_at, put_no, ev_t, ev_c, reduceIte, Nat.reduceEqDiff, List.map_cons, List.map_nil], by simp only [zf0, put_at, put_no, ev_t, ev_c,
              reduceIte, Nat.reduceEqDiff, List.map_cons, List.map_nil], by simp only [zf1, put_at, put_no, ev_t, ev_c, reduceIte, Nat.reduceEqDiff, List.map_cons, List.map_nil],
              by simp only [zf2, put_at, put_no, ev_t, ev_c, reduceIte, Nat.reduceEqDiff, List.map_cons, List.map_nil], by simp only [put_at, put_no, ev_t, ev_c, reduceIte,
              Nat.reduceEqDiff, List.map_cons, List.map_nil], by simp only [put_at, put_no, ev_t, ev_c, reduceIte, Nat.reduceEqDiff, List.map_cons, List.map_nil],
              by simp only [put_at, put_no, ev_t, ev_c, reduceIte, Nat.reduceEqDiff, List.map_cons, List.map_nil], by simp only [put_at, put_no, ev_t, ev_c, reduceIte,
              Nat.reduceEqDiff, List.map_cons, List.map_nil], by simp only [put_at, put_no, ev_t, ev_c, reduceIte, Nat.reduceEqDiff, List.map_cons, List.map_nil],
              by simp only [put_at, put_no, ev_t, ev_c, reduceIte, Nat.reduceEqDiff, List.map_cons, List.map_nil], by simp only [put_at, put_no, ev_t, ev_c, reduceIte,
              Nat.reduceEqDiff, List.map_cons, List.map_nil], by simp only [put_at, put_no, ev_t, ev_c, reduceIte, Nat.reduceEqDiff, List.map_cons, List.map_nil]⟩
      · rintro fr132 h145 ⟨hS146, f133, f134, f135, f136, f137, f138, f139, f140, f141, f142, f143, f144⟩
        simp only [List.drop_succ_cons, List.drop_zero]
        simp only [f133, run_mv, put_at, put_no, ev_t, ev_c, reduceIte, Nat.reduceEqDiff, List.map_cons, List.map_nil]
        refine ops_j 4 (fun fr' h' => Sep h' h.length (c34 ++ (c38 ++ (c42 ++ (c46 ++ (c66 ++ (c78 ++ (c90 ++ (c94 ++ (c98 ++ (c102 ++ ([]))))))))))) ∧ fr' 66 = .bool (v124 ||
            (!(v86.2.2 == v30.2.2))) ∧ fr' 0 = .int .i64 v_0 ∧ fr' 1 = lst cI v_1 ∧ fr' 2 = lst GroupStep.cells v_2 ∧ fr' 8 = .ref [.int .i64 v30.1.Generation, v33, v37,
            v41] 0 ∧ fr' 9 = v45 ∧ fr' 10 = .bool v30.2.2 ∧ fr' 11 = v65 ∧ fr' 12 = v77 ∧ fr' 13 = .ref [.int .i64 v86.1.Generation, v89, v93,
            v97] 0 ∧ fr' 14 = v101 ∧ fr' 15 = .bool v86.2.2) (fun Q147 hN148 => ?_) ?_
        · simp only [List.take_succ_cons, List.take_zero]
          simp only [run_guard (g := 62), put_at, put_no, ev_t, ev_c, reduceIte, Nat.reduceEqDiff, List.map_cons, List.map_nil]
          refine guard_split (t := v124) (fun hg149 => ?_) (fun hg149 => ?_)
          · simp only [hg149, run_guard (g := 62), guard_off', run_pick, put1_some, xpick_t, run_ops_nil, run_nil, put_at, put_no, ev_t, ev_c, reduceIte, Nat.reduceEqDiff,
              List.map_cons, List.map_nil]
            exact hN148 _ _ ⟨(Sep.m9 (Sep.m9 (Sep.m9 (Sep.m9 (Sep.m9 (Sep.m9 (Sep.m9 (Sep.m9 (Sep.m9 (Sep.m9 hS146)))))))))), by rw [orT hg149]; simp only [put_at, put_no, ev_t,
                ev_c, reduceIte, Nat.reduceEqDiff, List.map_cons, List.map_nil], by simp only [f134, put_at, put_no, ev_t, ev_c, reduceIte, Nat.reduceEqDiff, List.map_cons,
                List.map_nil], by simp only [f135, put_at, put_no, ev_t, ev_c, reduceIte, Nat.reduceEqDiff, List.map_cons, List.map_nil], by simp only [f136, put_at, put_no, ev_t,
                ev_c, reduceIte, Nat.reduceEqDiff, List.map_cons, List.map_nil], by simp only [f137, put_at, put_no, ev_t, ev_c, reduceIte, Nat.reduceEqDiff, List.map_cons,
                List.map_nil], by simp only [f138, put_at, put_no, ev_t, ev_c, reduceIte, Nat.reduceEqDiff, List.map_cons, List.map_nil], by simp only [f139, put_at, put_no, ev_t,
                ev_c, reduceIte, Nat.reduceEqDiff, List.map_cons, List.map_nil], by simp only [f140, put_at, put_no, ev_t, ev_c, reduceIte, Nat.reduceEqDiff, List.map_cons,
                List.map_nil], by simp only [f141, put_at, put_no, ev_t, ev_c, reduceIte, Nat.reduceEqDiff, List.map_cons, List.map_nil], by simp only [f142, put_at, put_no, ev_t,
                ev_c, reduceIte, Nat.reduceEqDiff, List.map_cons, List.map_nil], by simp only [f143, put_at, put_no, ev_t, ev_c, reduceIte, Nat.reduceEqDiff, List.map_cons,
                List.map_nil], by simp only [f144, put_at, put_no, ev_t, ev_c, reduceIte, Nat.reduceEqDiff, List.map_cons, List.map_nil]⟩
          · simp only [hg149, run_guard (g := 62), guard_false, f144, run_mv, f139, run_eqb, put1_some, xeqb_t, run_pick, xpick_f, run_ops_nil, run_nil, put_at, put_no, ev_t,
              ev_c, reduceIte, Nat.reduceEqDiff, List.map_cons, List.map_nil]
            exact hN148 _ _ ⟨(Sep.m9 (Sep.m9 (Sep.m9 (Sep.m9 (Sep.m9 (Sep.m9 (Sep.m9 (Sep.m9 (Sep.m9 (Sep.m9 hS146)))))))))), by rw [orF hg149]; simp only [put_at, put_no, ev_t,
                ev_c, reduceIte, Nat.reduceEqDiff, List.map_cons, List.map_nil], by simp only [f134, put_at, put_no, ev_t, ev_c, reduceIte, Nat.reduceEqDiff, List.map_cons,
                List.map_nil], by simp only [f135, put_at, put_no, ev_t, ev_c, reduceIte, Nat.reduceEqDiff, List.map_cons, List.map_nil], by simp only [f136, put_at, put_no, ev_t,
                ev_c, reduceIte, Nat.reduceEqDiff, List.map_cons, List.map_nil], by simp only [f137, put_at, put_no, ev_t, ev_c, reduceIte, Nat.reduceEqDiff, List.map_cons,
                List.map_nil], by simp only [f138, put_at, put_no, ev_t, ev_c, reduceIte, Nat.reduceEqDiff, List.map_cons, List.map_nil], by simp only [f139, put_at, put_no, ev_t,
                ev_c, reduceIte, Nat.reduceEqDiff, List.map_cons, List.map_nil], by simp only [f140, put_at, put_no, ev_t, ev_c, reduceIte, Nat.reduceEqDiff, List.map_cons,
                List.map_nil], by simp only [f141, put_at, put_no, ev_t, ev_c, reduceIte, Nat.reduceEqDiff, List.map_cons, List.map_nil], by simp only [f142, put_at, put_no, ev_t,
                ev_c, reduceIte, Nat.reduceEqDiff, List.map_cons, List.map_nil], by simp only [f143, put_at, put_no, ev_t, ev_c, reduceIte, Nat.reduceEqDiff, List.map_cons,
                List.map_nil], by simp only [f144, put_at, put_no, ev_t, ev_c, reduceIte, Nat.reduceEqDiff, List.map_cons, List.map_nil]⟩
        · rintro fr150 h163 ⟨hS164, f151, f152, f153, f154, f155, f156, f157, f158, f159, f160, f161, f162⟩
          simp only [List.drop_succ_cons, List.drop_zero]
          simp only [run_ops_nil, f151, run_cond, put_at, put_no, ev_t, ev_c, reduceIte, Nat.reduceEqDiff, List.map_cons, List.map_nil]
          refine cond_split (t := (v124 || (!(v86.2.2 == v30.2.2)))) (fun hc165 => ?_) (fun hc165 => ?_)
          · rw [iteT hc165] at hF126
            simp only [run_seq, run_reg, run_mv, run_ops_nil, run_ret, put_at, put_no, ev_t, ev_c, reduceIte, Nat.reduceEqDiff, List.map_cons, List.map_nil]
            have he := some_inj hF126
            subst he
            simp only [end_ret1, put_at, put_no, ev_t, ev_c, reduceIte, Nat.reduceEqDiff, List.map_cons, List.map_nil]
            exact rfl
          · rw [iteF hc165] at hF126
            obtain ⟨v166, hx167, hF168⟩ := bind_some' hF126
            simp only [run_skip, x4_23, run_seq, run_reg, f158, run_mv, f153, run_call, put_at, put_no, ev_t, ev_c, reduceIte, Nat.reduceEqDiff, List.map_cons, List.map_nil]
            refine call2 rfl hS164 (mapM1 snap_lst mapM0) (laws_toIntS_x (fun b hb => decide_eq_true hb) k v_1 v166 hx167) ?_
            rintro v169 h173 ⟨_, c170, rfl, hv171, hS174⟩
            refine ⟨_, free_1 (SlF.free1 hv171), hS174, (pf_app (SlF.pf hv171 (fun _ => rfl)) pf_nil), fun h175 hS176 => ?_⟩
            have hS177 : Sep h175 h.length (c170 ++ (c34 ++ (c38 ++ (c42 ++ (c46 ++ (c66 ++ (c78 ++ (c90 ++ (c94 ++ (c98 ++ (c102 ++
                ([])))))))))))) := by simpa only [List.append_assoc, List.nil_append] using hS176
            obtain ⟨v178, hx179, hF180⟩ := bind_some' hF168
            simp only [run_call, put_at, put_no, ev_t, ev_c, reduceIte, Nat.reduceEqDiff, List.map_cons, List.map_nil]
            refine call1 rfl (mapM1 (SlF.snap hv67 (Sep.m5 hS177) rfl (fun _ => rfl) (fun _ => rfl)) (mapM1 (SlF.snap hv171 hS177 rfl (fun _ => rfl) (fun _ => rfl)) mapM0))
                (laws_eqIntS_x (fun b hb => decide_eq_true hb) k v62 v166 v178 hx179) ?_
            simp only [run_un, put1_some, xnot, run_ops_nil, run_cond, put_at, put_no, ev_t, ev_c, reduceIte, Nat.reduceEqDiff, List.map_cons, List.map_nil]
            refine cond_split (t := (!v178)) (fun hc181 => ?_) (fun hc181 => ?_)
            · rw [iteT hc181] at hF180
              simp only [run_seq, run_reg, run_mv, run_ops_nil, run_ret, put_at, put_no, ev_t, ev_c, reduceIte, Nat.reduceEqDiff, List.map_cons, List.map_nil]
              have he := some_inj hF180
              subst he
              simp only [end_ret1, put_at, put_no, ev_t, ev_c, reduceIte, Nat.reduceEqDiff, List.map_cons, List.map_nil]
              exact rfl
            · rw [iteF hc181] at hF180
              obtain ⟨v182, hx183, hF184⟩ := bind_some' hF180
              simp only [run_skip, x4_22, run_seq, run_reg, f159, run_mv, f154, run_call, put_at, put_no, ev_t, ev_c, reduceIte, Nat.reduceEqDiff, List.map_cons, List.map_nil]
              refine call2 rfl hS177 (mapM1 snap_lst mapM0) (laws_toGroupStepS_x (fun b hb => decide_eq_true hb) k v_2 v182 hx183) ?_
              rintro v185 h189 ⟨_, c186, rfl, hv187, hS190⟩
              refine ⟨_, free_1 (SlF.free1 hv187), hS190, (pf_app (SlF.pf hv187 (fun _ => rfl)) pf_nil), fun h191 hS192 => ?_⟩
              have hS193 : Sep h191 h.length (c186 ++ (c170 ++ (c34 ++ (c38 ++ (c42 ++ (c46 ++ (c66 ++ (c78 ++ (c90 ++ (c94 ++ (c98 ++ (c102 ++
                  ([]))))))))))))) := by simpa only [List.append_assoc, List.nil_append] using hS192
              obtain ⟨v194, hx195, hF196⟩ := bind_some' hF184
              simp only [run_call, put_at, put_no, ev_t, ev_c, reduceIte, Nat.reduceEqDiff, List.map_cons, List.map_nil]
              refine call1 rfl (mapM1 (SlF.snap hv79 (Sep.m7 hS193) rfl (fun _ => rfl) (fun _ => rfl)) (mapM1 (SlF.snap hv187 hS193 rfl (fun _ => rfl) (fun _ => rfl)) mapM0))
                  (laws_eqGroupStepS_x (fun b hb => decide_eq_true hb) k v74 v182 v194 hx195) ?_
              simp only [run_un, put1_some, xnot, run_ops_nil, run_cond, put_at, put_no, ev_t, ev_c, reduceIte, Nat.reduceEqDiff, List.map_cons, List.map_nil]
              refine cond_split (t := (!v194)) (fun hc197 => ?_) (fun hc197 => ?_)
              · rw [iteT hc197] at hF196
                simp only [run_seq, run_reg, run_mv, run_ops_nil, run_ret, put_at, put_no, ev_t, ev_c, reduceIte, Nat.reduceEqDiff, List.map_cons, List.map_nil]
                have he := some_inj hF196
                subst he
                simp only [end_ret1, put_at, put_no, ev_t, ev_c, reduceIte, Nat.reduceEqDiff, List.map_cons, List.map_nil]
                exact rfl
              · rw [iteF hc197] at hF196
                obtain ⟨v198, hx199, hF200⟩ := bind_some' hF196
                simp only [run_skip, x4_21, run_seq, run_reg, run_mv, run_ops_nil, x4_20, f158, run_call, put_at, put_no, ev_t, ev_c, reduceIte, Nat.reduceEqDiff, List.map_cons,
                    List.map_nil]
                refine call0 rfl (laws_markIntS_x hW k v65 c66 v62 hv67 1 v198 hx199 (Sep.m6 hS193)) ?_
                rintro _ h203 ⟨c201, rfl, hv202, hS204⟩
                obtain ⟨v205, hx206, hF207⟩ := bind_some' hF200
                simp only [run_mv, run_ops_nil, x4_19, run_seq, run_reg, f159, run_call, put_at, put_no, ev_t, ev_c, reduceIte, Nat.reduceEqDiff, List.map_cons, List.map_nil]
                refine call0 rfl (laws_markGroupStepS_x hW k v77 c78 v74 hv79 v198.1 v205 hx206 (Sep.m7 hS204)) ?_
                rintro _ h210 ⟨c208, rfl, hv209, hS211⟩
                simp only [run_mv, run_ops_nil, x4_18, run_seq, run_reg, run_bin, put1_some, xlss, put_at, put_no, ev_t, ev_c, reduceIte, Nat.reduceEqDiff, List.map_cons,
                    List.map_nil]
                obtain ⟨v215, hx216, hF217⟩ := bind_some' hF207
                refine ops_j 5 (fun fr' h' => Sep h' h.length (c34 ++ (c38 ++ (c42 ++ (c46 ++ (c90 ++ (c94 ++ (c98 ++ (c102 ++
                    ([]))))))))) ∧ fr' 90 = .bool v215 ∧ fr' 0 = .int .i64 v_0 ∧ fr' 1 = lst cI v_1 ∧ fr' 2 = lst GroupStep.cells v_2 ∧ fr' 8 = .ref [.int .i64 v30.1.Generation,
                    v33, v37, v41] 0 ∧ fr' 9 = v45 ∧ fr' 10 = .bool v30.2.2 ∧ fr' 13 = .ref [.int .i64 v86.1.Generation, v89, v93,
                    v97] 0 ∧ fr' 14 = v101 ∧ fr' 15 = .bool v86.2.2) (fun Q212 hN213 => ?_) ?_
                · simp only [List.take_succ_cons, List.take_zero]
                  simp only [run_guard (g := 85), put_at, put_no, ev_t, ev_c, reduceIte, Nat.reduceEqDiff, List.map_cons, List.map_nil]
                  refine guard_split (t := (decide (v205.1 < 0))) (fun hg214 => ?_) (fun hg214 => ?_)
                  · rw [iteT hg214] at hx216
                    simp only [hg214, run_guard (g := 85), guard_off', run_pick, put1_some, xpick_t, run_ops_nil, run_nil, put_at, put_no, ev_t, ev_c, reduceIte, Nat.reduceEqDiff,
                        List.map_cons, List.map_nil]
                    have e218 := some_inj hx216
                    exact hN213 _ _ ⟨(Sep.m7 (Sep.m7 (Sep.m7 (Sep.m7 (Sep.m7 (Sep.m7 (Sep.m7 (Sep.m7 (Sep.dc ((Sep.dc ((Sep.dc ((Sep.dc (hS211)))))))))))))))),
                        by rw [← e218]; simp only [put_at, put_no, ev_t, ev_c, reduceIte, Nat.reduceEqDiff, List.map_cons, List.map_nil], by simp only [f152, put_at, put_no, ev_t,
                        ev_c, reduceIte, Nat.reduceEqDiff, List.map_cons, List.map_nil], by simp only [f153, put_at, put_no, ev_t, ev_c, reduceIte, Nat.reduceEqDiff,
                        List.map_cons, List.map_nil], by simp only [f154, put_at, put_no, ev_t, ev_c, reduceIte, Nat.reduceEqDiff, List.map_cons, List.map_nil],
                        by simp only [f155, put_at, put_no, ev_t, ev_c, reduceIte, Nat.reduceEqDiff, List.map_cons, List.map_nil], by simp only [f156, put_at, put_no, ev_t, ev_c,
                        reduceIte, Nat.reduceEqDiff, List.map_cons, List.map_nil], by simp only [f157, put_at, put_no, ev_t, ev_c, reduceIte, Nat.reduceEqDiff, List.map_cons,
                        List.map_nil], by simp only [f160, put_at, put_no, ev_t, ev_c, reduceIte, Nat.reduceEqDiff, List.map_cons, List.map_nil], by simp only [f161, put_at,
                        put_no, ev_t, ev_c, reduceIte, Nat.reduceEqDiff, List.map_cons, List.map_nil], by simp only [f162, put_at, put_no, ev_t, ev_c, reduceIte, Nat.reduceEqDiff,
                        List.map_cons, List.map_nil]⟩
                  · rw [iteF hg214] at hx216
                    simp only [hg214, run_guard (g := 85), guard_false, f160, run_ld, put_at, put_no, ev_t, ev_c, reduceIte, Nat.reduceEqDiff, List.map_cons, List.map_nil]
                    refine put1_eq (v := .agg [.int .i64 v86.1.Generation, v89, v93, v97]) rfl ?_
                    simp only [hg214, run_guard (g := 85), guard_false, f155, run_ld, put_at, put_no, ev_t, ev_c, reduceIte, Nat.reduceEqDiff, List.map_cons, List.map_nil]
                    refine put1_eq (v := .agg [.int .i64 v30.1.Generation, v33, v37, v41]) rfl ?_
                    obtain ⟨v219, hx220, hF221⟩ := bind_some' hx216
                    simp only [hg214, run_guard (g := 85), guard_false, run_call, put_at, put_no, ev_t, ev_c, reduceIte, Nat.reduceEqDiff, List.map_cons, List.map_nil]
                    refine call1 rfl (mapM1 (snap_agg (mapM1 snap_int (mapM1 (SlN.snap hv91 _ (Sep.m8 hS211) rfl Reader.RO) (mapM1 (SlF.snap hv95 (Sep.m9 hS211) rfl
                        (fun _ => rfl) (fun _ => rfl)) (mapM1 (SlF.snap hv99 (Sep.m10 hS211) rfl (fun _ => rfl) (fun _ => rfl)) mapM0))))) (mapM1 (snap_agg (mapM1 snap_int (mapM1
                        (SlN.snap hv35 _ (Sep.m4 hS211) rfl Reader.RO) (mapM1 (SlF.snap hv39 (Sep.m5 hS211) rfl (fun _ => rfl) (fun _ => rfl)) (mapM1 (SlF.snap hv43
                        (Sep.m6 hS211) rfl (fun _ => rfl) (fun _ => rfl)) mapM0))))) mapM0)) (laws_eqReaders_x (fun b hb => decide_eq_true hb) k v86.1 v30.1 v219 hx220) ?_
                    simp only [hg214, run_guard (g := 85), guard_false, run_un, put1_some, xnot, run_pick, xpick_f, run_ops_nil, run_nil, put_at, put_no, ev_t, ev_c, reduceIte,
                        Nat.reduceEqDiff, List.map_cons, List.map_nil]
                    have e222 := some_inj hF221
                    exact hN213 _ _ ⟨(Sep.m7 (Sep.m7 (Sep.m7 (Sep.m7 (Sep.m7 (Sep.m7 (Sep.m7 (Sep.m7 (Sep.dc ((Sep.dc ((Sep.dc ((Sep.dc (hS211)))))))))))))))),
                        by rw [← e222]; simp only [put_at, put_no, ev_t, ev_c, reduceIte, Nat.reduceEqDiff, List.map_cons, List.map_nil], by simp only [f152, put_at, put_no, ev_t,
                        ev_c, reduceIte, Nat.reduceEqDiff, List.map_cons, List.map_nil], by simp only [f153, put_at, put_no, ev_t, ev_c, reduceIte, Nat.reduceEqDiff,
                        List.map_cons, List.map_nil], by simp only [f154, put_at, put_no, ev_t, ev_c, reduceIte, Nat.reduceEqDiff, List.map_cons, List.map_nil],
                        by simp only [f155, put_at, put_no, ev_t, ev_c, reduceIte, Nat.reduceEqDiff, List.map_cons, List.map_nil], by simp only [f156, put_at, put_no, ev_t, ev_c,
                        reduceIte, Nat.reduceEqDiff, List.map_cons, List.map_nil], by simp only [f157, put_at, put_no, ev_t, ev_c, reduceIte, Nat.reduceEqDiff, List.map_cons,
                        List.map_nil], by simp only [f160, put_at, put_no, ev_t, ev_c, reduceIte, Nat.reduceEqDiff, List.map_cons, List.map_nil], by simp only [f161, put_at,
                        put_no, ev_t, ev_c, reduceIte, Nat.reduceEqDiff, List.map_cons, List.map_nil], by simp only [f162, put_at, put_no, ev_t, ev_c, reduceIte, Nat.reduceEqDiff,
                        List.map_cons, List.map_nil]⟩
                · rintro fr223 h234 ⟨hS235, f224, f225, f226, f227, f228, f229, f230, f231, f232, f233⟩
                  simp only [List.drop_succ_cons, List.drop_zero]
                  simp only [f224, run_mv, put_at, put_no, ev_t, ev_c, reduceIte, Nat.reduceEqDiff, List.map_cons, List.map_nil]
                  obtain ⟨v239, hx240, hF241⟩ := bind_some' hF217
                  refine ops_j 5 (fun fr' h' => Sep h' h.length (c34 ++ (c38 ++ (c42 ++ (c46 ++ (c90 ++ (c94 ++ (c98 ++ (c102 ++
                      ([]))))))))) ∧ fr' 96 = .bool v239 ∧ fr' 0 = .int .i64 v_0 ∧ fr' 1 = lst cI v_1 ∧ fr' 2 = lst GroupStep.cells v_2 ∧ fr' 8 = .ref [.int .i64 v30.1.Generation,
                      v33, v37, v41] 0 ∧ fr' 9 = v45 ∧ fr' 10 = .bool v30.2.2 ∧ fr' 13 = .ref [.int .i64 v86.1.Generation, v89, v93,
                      v97] 0 ∧ fr' 14 = v101 ∧ fr' 15 = .bool v86.2.2) (fun Q236 hN237 => ?_) ?_
                  · simp only [List.take_succ_cons, List.take_zero]
                    simp only [run_guard (g := 91), put_at, put_no, ev_t, ev_c, reduceIte, Nat.reduceEqDiff, List.map_cons, List.map_nil]
                    refine guard_split (t := v215) (fun hg238 => ?_) (fun hg238 => ?_)
                    · rw [iteT hg238] at hx240
                      simp only [hg238, run_guard (g := 91), guard_off', run_pick, put1_some, xpick_t, run_ops_nil, run_nil, put_at, put_no, ev_t, ev_c, reduceIte,
                          Nat.reduceEqDiff, List.map_cons, List.map_nil]
                      have e242 := some_inj hx240
                      exact hN237 _ _ ⟨(Sep.m7 (Sep.m7 (Sep.m7 (Sep.m7 (Sep.m7 (Sep.m7 (Sep.m7 (Sep.m7 hS235)))))))), by rw [← e242]; simp only [put_at, put_no, ev_t, ev_c,
                          reduceIte, Nat.reduceEqDiff, List.map_cons, List.map_nil], by simp only [f225, put_at, put_no, ev_t, ev_c, reduceIte, Nat.reduceEqDiff, List.map_cons,
                          List.map_nil], by simp only [f226, put_at, put_no, ev_t, ev_c, reduceIte, Nat.reduceEqDiff, List.map_cons, List.map_nil], by simp only [f227, put_at,
                          put_no, ev_t, ev_c, reduceIte, Nat.reduceEqDiff, List.map_cons, List.map_nil], by simp only [f228, put_at, put_no, ev_t, ev_c, reduceIte,
                          Nat.reduceEqDiff, List.map_cons, List.map_nil], by simp only [f229, put_at, put_no, ev_t, ev_c, reduceIte, Nat.reduceEqDiff, List.map_cons,
                          List.map_nil], by simp only [f230, put_at, put_no, ev_t, ev_c, reduceIte, Nat.reduceEqDiff, List.map_cons, List.map_nil], by simp only [f231, put_at,
                          put_no, ev_t, ev_c, reduceIte, Nat.reduceEqDiff, List.map_cons, List.map_nil], by simp only [f232, put_at, put_no, ev_t, ev_c, reduceIte,
                          Nat.reduceEqDiff, List.map_cons, List.map_nil], by simp only [f233, put_at, put_no, ev_t, ev_c, reduceIte, Nat.reduceEqDiff, List.map_cons, List.map_nil]⟩
                    · rw [iteF hg238] at hx240
                      obtain ⟨v243, hx244, hF245⟩ := bind_some' hx240
                      simp only [hg238, run_guard (g := 91), guard_false, f232, run_mv, f229, run_call, put_at, put_no, ev_t, ev_c, reduceIte, Nat.reduceEqDiff, List.map_cons,
                          List.map_nil]
                      refine call1 rfl (mapM1 (SlF.snap hv103 (Sep.m7 hS235) rfl (fun _ => rfl) (fun _ => rfl)) (mapM1 (SlF.snap hv47 (Sep.m3 hS235) rfl (fun _ => rfl)
                          (fun _ => rfl)) mapM0)) (laws_eqBoolS_x (fun b hb => decide_eq_true hb) k v86.2.1 v30.2.1 v243 hx244) ?_
                      simp only [hg238, run_guard (g := 91), guard_false, run_un, put1_some, xnot, run_pick, xpick_f, run_ops_nil, run_nil, put_at, put_no, ev_t, ev_c, reduceIte,
                          Nat.reduceEqDiff, List.map_cons, List.map_nil]
                      have e246 := some_inj hF245
                      exact hN237 _ _ ⟨(Sep.m7 (Sep.m7 (Sep.m7 (Sep.m7 (Sep.m7 (Sep.m7 (Sep.m7 (Sep.m7 hS235)))))))), by rw [← e246]; simp only [put_at, put_no, ev_t, ev_c,
                          reduceIte, Nat.reduceEqDiff, List.map_cons, List.map_nil], by simp only [f225, put_at, put_no, ev_t, ev_c, reduceIte, Nat.reduceEqDiff, List.map_cons,
                          List.map_nil], by simp only [f226, put_at, put_no, ev_t, ev_c, reduceIte, Nat.reduceEqDiff, List.map_cons, List.map_nil], by simp only [f227, put_at,
                          put_no, ev_t, ev_c, reduceIte, Nat.reduceEqDiff, List.map_cons, List.map_nil], by simp only [f228, put_at, put_no, ev_t, ev_c, reduceIte,
                          Nat.reduceEqDiff, List.map_cons, List.map_nil], by simp only [f229, put_at, put_no, ev_t, ev_c, reduceIte, Nat.reduceEqDiff, List.map_cons,
                          List.map_nil], by simp only [f230, put_at, put_no, ev_t, ev_c, reduceIte, Nat.reduceEqDiff, List.map_cons, List.map_nil], by simp only [f231, put_at,
                          put_no, ev_t, ev_c, reduceIte, Nat.reduceEqDiff, List.map_cons, List.map_nil], by simp only [f232, put_at, put_no, ev_t, ev_c, reduceIte,
                          Nat.reduceEqDiff, List.map_cons, List.map_nil], by simp only [f233, put_at, put_no, ev_t, ev_c, reduceIte, Nat.reduceEqDiff, List.map_cons, List.map_nil]⟩
                  · rintro fr247 h258 ⟨hS259, f248, f249, f250, f251, f252, f253, f254, f255, f256, f257⟩
                    simp only [List.drop_succ_cons, List.drop_zero]
                    simp only [f248, run_mv, put_at, put_no, ev_t, ev_c, reduceIte, Nat.reduceEqDiff, List.map_cons, List.map_nil]
                    refine ops_j 4 (fun fr' h' => Sep h' h.length (c34 ++ (c38 ++ (c42 ++ (c46 ++ (c90 ++ (c94 ++ (c98 ++ (c102 ++ ([]))))))))) ∧ fr' 101 = .bool (v239 ||
                        (!(v86.2.2 == v30.2.2))) ∧ fr' 0 = .int .i64 v_0 ∧ fr' 1 = lst cI v_1 ∧ fr' 2 = lst GroupStep.cells v_2 ∧ fr' 8 = .ref [.int .i64 v30.1.Generation, v33,
                        v37, v41] 0 ∧ fr' 9 = v45 ∧ fr' 10 = .bool v30.2.2 ∧ fr' 13 = .ref [.int .i64 v86.1.Generation, v89, v93, v97] 0 ∧ fr' 14 = v101) (fun Q260 hN261 => ?_) ?_
                    · simp only [List.take_succ_cons, List.take_zero]
                      simp only [run_guard (g := 97), put_at, put_no, ev_t, ev_c, reduceIte, Nat.reduceEqDiff, List.map_cons, List.map_nil]
                      refine guard_split (t := v239) (fun hg262 => ?_) (fun hg262 => ?_)
                      · simp only [hg262, run_guard (g := 97), guard_off', run_pick, put1_some, xpick_t, run_ops_nil, run_nil, put_at, put_no, ev_t, ev_c, reduceIte,
                          Nat.reduceEqDiff, List.map_cons, List.map_nil]
                        exact hN261 _ _ ⟨(Sep.m7 (Sep.m7 (Sep.m7 (Sep.m7 (Sep.m7 (Sep.m7 (Sep.m7 (Sep.m7 hS259)))))))), by rw [orT hg262]; simp only [put_at, put_no, ev_t, ev_c,
                            reduceIte, Nat.reduceEqDiff, List.map_cons, List.map_nil], by simp only [f249, put_at, put_no, ev_t, ev_c, reduceIte, Nat.reduceEqDiff, List.map_cons,
                            List.map_nil], by simp only [f250, put_at, put_no, ev_t, ev_c, reduceIte, Nat.reduceEqDiff, List.map_cons, List.map_nil], by simp only [f251, put_at,
                            put_no, ev_t, ev_c, reduceIte, Nat.reduceEqDiff, List.map_cons, List.map_nil], by simp only [f252, put_at, put_no, ev_t, ev_c, reduceIte,
                            Nat.reduceEqDiff, List.map_cons, List.map_nil], by simp only [f253, put_at, put_no, ev_t, ev_c, reduceIte, Nat.reduceEqDiff, List.map_cons,
                            List.map_nil], by simp only [f254, put_at, put_no, ev_t, ev_c, reduceIte, Nat.reduceEqDiff, List.map_cons, List.map_nil], by simp only [f255, put_at,
                            put_no, ev_t, ev_c, reduceIte, Nat.reduceEqDiff, List.map_cons, List.map_nil], by simp only [f256, put_at, put_no, ev_t, ev_c, reduceIte,
                            Nat.reduceEqDiff, List.map_cons, List.map_nil]⟩
                      · simp only [hg262, run_guard (g := 97), guard_false, f257, run_mv, f254, run_eqb, put1_some, xeqb_t, run_pick, xpick_f, run_ops_nil, run_nil, put_at,
                          put_no, ev_t, ev_c, reduceIte, Nat.reduceEqDiff, List.map_cons, List.map_nil]
                        exact hN261 _ _ ⟨(Sep.m7 (Sep.m7 (Sep.m7 (Sep.m7 (Sep.m7 (Sep.m7 (Sep.m7 (Sep.m7 hS259)))))))), by rw [orF hg262]; simp only [put_at, put_no, ev_t, ev_c,
                            reduceIte, Nat.reduceEqDiff, List.map_cons, List.map_nil], by simp only [f249, put_at, put_no, ev_t, ev_c, reduceIte, Nat.reduceEqDiff, List.map_cons,
                            List.map_nil], by simp only [f250, put_at, put_no, ev_t, ev_c, reduceIte, Nat.reduceEqDiff, List.map_cons, List.map_nil], by simp only [f251, put_at,
                            put_no, ev_t, ev_c, reduceIte, Nat.reduceEqDiff, List.map_cons, List.map_nil], by simp only [f252, put_at, put_no, ev_t, ev_c, reduceIte,
                            Nat.reduceEqDiff, List.map_cons, List.map_nil], by simp only [f253, put_at, put_no, ev_t, ev_c, reduceIte, Nat.reduceEqDiff, List.map_cons,
                            List.map_nil], by simp only [f254, put_at, put_no, ev_t, ev_c, reduceIte, Nat.reduceEqDiff, List.map_cons, List.map_nil], by simp only [f255, put_at,
                            put_no, ev_t, ev_c, reduceIte, Nat.reduceEqDiff, List.map_cons, List.map_nil], by simp only [f256, put_at, put_no, ev_t, ev_c, reduceIte,
                            Nat.reduceEqDiff, List.map_cons, List.map_nil]⟩
                    · rintro fr263 h273 ⟨hS274, f264, f265, f266, f267, f268, f269, f270, f271, f272⟩
                      simp only [List.drop_succ_cons, List.drop_zero]
                      simp only [run_ops_nil, f264, run_cond, put_at, put_no, ev_t, ev_c, reduceIte, Nat.reduceEqDiff, List.map_cons, List.map_nil]
                      refine cond_split (t := (v239 || (!(v86.2.2 == v30.2.2)))) (fun hc275 => ?_) (fun hc275 => ?_)
                      · rw [iteT hc275] at hF241
                        simp only [run_seq, run_reg, run_mv, run_ops_nil, run_ret, put_at, put_no, ev_t, ev_c, reduceIte, Nat.reduceEqDiff, List.map_cons, List.map_nil]
                        have he := some_inj hF241
                        subst he
                        simp only [end_ret1, put_at, put_no, ev_t, ev_c, reduceIte, Nat.reduceEqDiff, List.map_cons, List.map_nil]
                        exact rfl
                      · rw [iteF hc275] at hF241
                        simp only [run_skip, x4_17, run_seq, run_reg, run_mv, run_ops_nil, x4_16, f271, run_ld, put_at, put_no, ev_t, ev_c, reduceIte, Nat.reduceEqDiff,
                            List.map_cons, List.map_nil]
                        refine put1_eq (v := .agg [.int .i64 v86.1.Generation, v89, v93, v97]) rfl ?_
                        obtain ⟨v276, hx277, hF278⟩ := bind_some' hF241
                        simp only [run_mv, run_call, put_at, put_no, ev_t, ev_c, reduceIte, Nat.reduceEqDiff, List.map_cons, List.map_nil]
                        refine call0 rfl (laws_markReaders_x hW k v86.1 v89 c90 hv91 v93 c94 hv95 v97 c98 hv99 1 v276 hx277 (Sep.m6 (Sep.m6 (Sep.m6 hS274)))) ?_
                        rintro _ h285 ⟨c279, c281, c283, rfl, hv280, hv282, hv284, hS286⟩
                        obtain ⟨v287, hx288, hF289⟩ := bind_some' hF278
                        simp only [run_mv, run_ops_nil, x4_15, run_seq, run_reg, f272, run_call, put_at, put_no, ev_t, ev_c, reduceIte, Nat.reduceEqDiff, List.map_cons,
                            List.map_nil]
                        refine call0 rfl (laws_markBoolS_x hW k v101 c102 v86.2.1 hv103 v276.1 v287 hx288 (Sep.m7 hS286)) ?_
                        rintro _ h292 ⟨c290, rfl, hv291, hS293⟩
                        simp only [run_mv, run_ops_nil, x4_14, run_seq, run_reg, x4_13, f271, run_ld, put_at, put_no, ev_t, ev_c, reduceIte, Nat.reduceEqDiff, List.map_cons,
                            List.map_nil]
                        refine put1_eq (v := .agg [.int .i64 v86.1.Generation, v89, v93, v97]) rfl ?_
                        obtain ⟨v294, hx295, hF296⟩ := bind_some' hF289
                        simp only [run_mv, run_call, put_at, put_no, ev_t, ev_c, reduceIte, Nat.reduceEqDiff, List.map_cons, List.map_nil]
                        refine call1 rfl (mapM1 (snap_agg (mapM1 snap_int (mapM1 (SlN.snap hv280 _ (Sep.m1 hS293) rfl Reader.RO) (mapM1 (SlF.snap hv282 (Sep.m2 hS293) rfl
                            (fun _ => rfl) (fun _ => rfl)) (mapM1 (SlF.snap hv284 (Sep.m3 hS293) rfl (fun _ => rfl) (fun _ => rfl)) mapM0))))) (mapM1 snap_int mapM0))
                            (laws_heldReaders_x (fun b hb => decide_eq_true hb) k (Readers_.mk v86.1.Generation v276.2.Readers v276.2.Committed v276.2.Ends) 1 v294 hx295) ?_
                        simp only [run_mv, run_ops_nil, x4_12, run_seq, run_reg, run_bin, put1_some, xlss, run_cond, put_at, put_no, ev_t, ev_c, reduceIte, Nat.reduceEqDiff,
                            List.map_cons, List.map_nil]
                        refine cond_split (t := (decide (v294 < 0))) (fun hc297 => ?_) (fun hc297 => ?_)
                        · rw [iteT hc297] at hF296
                          simp only [run_seq, run_reg, run_mv, run_ops_nil, run_ret, put_at, put_no, ev_t, ev_c, reduceIte, Nat.reduceEqDiff, List.map_cons, List.map_nil]
                          have he := some_inj hF296
                          subst he
                          simp only [end_ret1, put_at, put_no, ev_t, ev_c, reduceIte, Nat.reduceEqDiff, List.map_cons, List.map_nil]
                          exact rfl
                        · rw [iteF hc297] at hF296
                          obtain ⟨v298, hx299, hF300⟩ := bind_some' hF296
                          simp only [run_skip, x4_11, run_seq, run_reg, f272, run_mv, run_call, put_at, put_no, ev_t, ev_c, reduceIte, Nat.reduceEqDiff, List.map_cons,
                              List.map_nil]
                          refine call1 rfl (mapM1 (SlF.snap hv291 hS293 rfl (fun _ => rfl) (fun _ => rfl)) (mapM1 snap_int mapM0)) (laws_heldBoolS_x
                              (fun b hb => decide_eq_true hb) k v287.2 v294 v298 hx299) ?_
                          simp only [run_mv, run_ops_nil, x4_10, run_seq, run_reg, run_bin, put1_some, xlss, run_cond, put_at, put_no, ev_t, ev_c, reduceIte, Nat.reduceEqDiff,
                              List.map_cons, List.map_nil]
                          refine cond_split (t := (decide (v298 < 0))) (fun hc301 => ?_) (fun hc301 => ?_)
                          · rw [iteT hc301] at hF300
                            simp only [run_seq, run_reg, run_mv, run_ops_nil, run_ret, put_at, put_no, ev_t, ev_c, reduceIte, Nat.reduceEqDiff, List.map_cons, List.map_nil]
                            have he := some_inj hF300
                            subst he
                            simp only [end_ret1, put_at, put_no, ev_t, ev_c, reduceIte, Nat.reduceEqDiff, List.map_cons, List.map_nil]
                            exact rfl
                          · rw [iteF hc301] at hF300
                            simp only [run_skip, x4_9, run_seq, run_reg, run_mv, run_bin, put1_some, xneq, run_ops_nil, run_cond, put_at, put_no, ev_t, ev_c, reduceIte,
                                Nat.reduceEqDiff, List.map_cons, List.map_nil]
                            refine cond_split (t := (decide (v298 ≠ v287.1))) (fun hc302 => ?_) (fun hc302 => ?_)
                            · rw [iteT hc302] at hF300
                              simp only [run_seq, run_reg, run_mv, run_ops_nil, run_ret, put_at, put_no, ev_t, ev_c, reduceIte, Nat.reduceEqDiff, List.map_cons, List.map_nil]
                              have he := some_inj hF300
                              subst he
                              simp only [end_ret1, put_at, put_no, ev_t, ev_c, reduceIte, Nat.reduceEqDiff, List.map_cons, List.map_nil]
                              exact rfl
                            · rw [iteF hc302] at hF300
                              obtain ⟨v303, hx304, hF305⟩ := bind_some' hF300
                              simp only [run_skip, x4_8, run_seq, run_reg, f265, run_mv, f266, run_call, put_at, put_no, ev_t, ev_c, reduceIte, Nat.reduceEqDiff, List.map_cons,
                                  List.map_nil]
                              refine call2 rfl hS293 (mapM1 snap_lst mapM0) (laws_toIntS_x (fun b hb => decide_eq_true hb) k v_1 v303 hx304) ?_
                              rintro v306 h310 ⟨_, c307, rfl, hv308, hS311⟩
                              refine ⟨_, free_1 (SlF.free1 hv308), hS311, (pf_app (SlF.pf hv308 (fun _ => rfl)) pf_nil), fun h312 hS313 => ?_⟩
                              have hS314 : Sep h312 h.length (c307 ++ (c290 ++ (c279 ++ (c281 ++ (c283 ++ (c34 ++ (c38 ++ (c42 ++ (c46 ++
                                  ([])))))))))) := by simpa only [List.append_assoc, List.nil_append] using hS313
                              obtain ⟨v315, hx316, hF317⟩ := bind_some' hF305
                              simp only [f267, run_mv, run_call, put_at, put_no, ev_t, ev_c, reduceIte, Nat.reduceEqDiff, List.map_cons, List.map_nil]
                              refine call2 rfl hS314 (mapM1 snap_lst mapM0) (laws_toGroupStepS_x (fun b hb => decide_eq_true hb) k v_2 v315 hx316) ?_
                              rintro v318 h322 ⟨_, c319, rfl, hv320, hS323⟩
                              refine ⟨_, free_1 (SlF.free1 hv320), hS323, (pf_app (SlF.pf hv320 (fun _ => rfl)) pf_nil), fun h324 hS325 => ?_⟩
                              have hS326 : Sep h324 h.length (c319 ++ (c307 ++ (c290 ++ (c279 ++ (c281 ++ (c283 ++ (c34 ++ (c38 ++ (c42 ++ (c46 ++
                                  ([]))))))))))) := by simpa only [List.append_assoc, List.nil_append] using hS325
                              obtain ⟨v327, hx328, hF329⟩ := bind_some' hF317
                              simp only [run_call, put_at, put_no, ev_t, ev_c, reduceIte, Nat.reduceEqDiff, List.map_cons, List.map_nil]
                              refine call2 rfl hS326 (mapM1 snap_int (mapM1 (SlF.snap hv308 (Sep.m1 hS326) rfl (fun _ => rfl) (fun _ => rfl)) (mapM1 (SlF.snap hv320 hS326 rfl
                                  (fun _ => rfl) (fun _ => rfl)) mapM0))) (impl_PlayReaders_x (fun b hb => decide_eq_true hb) v_0 v303 v315 v327 hx328) ?_
                              rintro _ h346 ⟨v330, c331, v334, c335, v338, c339, v342, c343, rfl, hv332, hv336, hv340, hv344, hS347⟩
                              refine ⟨_, free_t (all_c (free2_a (all_c rfl (all_c (SlN.free1 hv332) (all_c (SlF.free1 hv336) (all_c (SlF.free1 hv340) all_n))))) (all_c (free2_1
                                  (SlF.free1 hv344)) (all_c rfl all_n))), hS347,
                                  (pf_app (SlN.pf hv332 Reader.RO) (pf_app (SlF.pf hv336 (fun _ => rfl)) (pf_app (SlF.pf hv340 (fun _ => rfl)) (pf_app (SlF.pf hv344
                                  (fun _ => rfl)) pf_nil)))), fun h348 hS349 => ?_⟩
                              have hS350 : Sep h348 h.length (c331 ++ (c335 ++ (c339 ++ (c343 ++ (c319 ++ (c307 ++ (c290 ++ (c279 ++ (c281 ++ (c283 ++ (c34 ++ (c38 ++ (c42 ++
                                  (c46 ++ ([]))))))))))))))) := by simpa only [List.append_assoc, List.nil_append] using hS349
                              simp only [run_mv, run_ext, put1_some, xext_0, xext_1, xext_2, run_new, put_at, put_no, ev_t, ev_c, reduceIte, Nat.reduceEqDiff, List.map_cons,
                                  List.map_nil]
                              refine put2_newC hS350 (fun b351 h352 hS353 => ?_)
                              simp only [run_st, put_at, put_no, ev_t, ev_c, reduceIte, Nat.reduceEqDiff, List.map_cons, List.map_nil]
                              refine put2_stCx (us := [.int .i64 v327.1.Generation, v330, v334, v338]) rfl (cs' := [.int .i64 v327.1.Generation, v330, v334,
                                  v338]) hS353 hW rfl (all_c rfl (all_c (SlN.one hv332) (all_c (SlF.one hv336) (all_c (SlF.one hv340) all_n)))) (Nat.le_of_ble_eq_true rfl) rfl
                                  (fun h355 hS356 => ?_)
                              simp only [put_no, run_mv, run_ops_nil, put_at, ev_t, ev_c, reduceIte, Nat.reduceEqDiff, List.map_cons, List.map_nil]
                              refine frz_stepC hS356 hW (by simp only [put_at, put_no, ev_t, ev_c, reduceIte, Nat.reduceEqDiff, List.map_cons, List.map_nil]) (fun h357 hS358 => ?_)
                              simp only [run_frz_nil, x4_7, run_seq, run_reg, run_ld, put_at, put_no, ev_t, ev_c, reduceIte, Nat.reduceEqDiff, List.map_cons, List.map_nil]
                              refine put1_eq (v := .agg [.int .i64 v327.1.Generation, v330, v334, v338]) rfl ?_
                              simp only [f268, run_ld, put_at, put_no, ev_t, ev_c, reduceIte, Nat.reduceEqDiff, List.map_cons, List.map_nil]
                              refine put1_eq (v := .agg [.int .i64 v30.1.Generation, v33, v37, v41]) rfl ?_
                              obtain ⟨v359, hx360, hF361⟩ := bind_some' hF329
                              simp only [run_call, put_at, put_no, ev_t, ev_c, reduceIte, Nat.reduceEqDiff, List.map_cons, List.map_nil]
                              refine call1 rfl (mapM1 (snap_agg (mapM1 snap_int (mapM1 (SlN.snap hv332 _ hS358 rfl Reader.RO) (mapM1 (SlF.snap hv336 (Sep.m1 hS358) rfl
                                  (fun _ => rfl) (fun _ => rfl)) (mapM1 (SlF.snap hv340 (Sep.m2 hS358) rfl (fun _ => rfl) (fun _ => rfl)) mapM0))))) (mapM1 (snap_agg
                                  (mapM1 snap_int (mapM1 (SlN.snap hv35 _ (Sep.m10 hS358) rfl Reader.RO) (mapM1 (SlF.snap hv39 (Sep.m11 hS358) rfl (fun _ => rfl) (fun _ => rfl))
                                  (mapM1 (SlF.snap hv43 (Sep.m12 hS358) rfl (fun _ => rfl) (fun _ => rfl)) mapM0))))) mapM0)) (laws_eqReaders_x
                                  (fun b hb => decide_eq_true hb) k v327.1 v30.1 v359 hx360) ?_
                              simp only [run_un, put1_some, xnot, run_mv, put_at, put_no, ev_t, ev_c, reduceIte, Nat.reduceEqDiff, List.map_cons, List.map_nil]
                              obtain ⟨v365, hx366, hF367⟩ := bind_some' hF361
                              refine ops_j 5 (fun fr' h' => Sep h' h.length (c279 ++ (c281 ++ (c283 ++ (c290 ++
                                  ([]))))) ∧ fr' 140 = .bool v365 ∧ fr' 10 = .bool v30.2.2 ∧ fr' 13 = .ref [.int .i64 v86.1.Generation, v89, v93,
                                  v97] 0 ∧ fr' 14 = v101 ∧ fr' 17 = .int .i64 v287.1 ∧ fr' 21 = .bool v327.2.2) (fun Q362 hN363 => ?_) ?_
                              · simp only [List.take_succ_cons, List.take_zero]
                                simp only [run_guard (g := 135), put_at, put_no, ev_t, ev_c, reduceIte, Nat.reduceEqDiff, List.map_cons, List.map_nil]
                                refine guard_split (t := (!v359)) (fun hg364 => ?_) (fun hg364 => ?_)
                                · rw [iteT hg364] at hx366
                                  simp only [hg364, run_guard (g := 135), guard_off', run_pick, put1_some, xpick_t, run_ops_nil, run_nil, put_at, put_no, ev_t, ev_c, reduceIte,
                                      Nat.reduceEqDiff, List.map_cons, List.map_nil]
                                  have e368 := some_inj hx366
                                  exact hN363 _ _ ⟨(Sep.m3 (Sep.m3 (Sep.m3 (Sep.dc (Sep.m4 (Sep.dc (Sep.m4 (Sep.dc (Sep.m4 (Sep.dc (Sep.m4 (Sep.dc ((Sep.dc ((Sep.dc ((Sep.dc
                                      ((Sep.dc ((Sep.dc (hS358))))))))))))))))))))))), by rw [← e368]; simp only [put_at, put_no, ev_t, ev_c, reduceIte, Nat.reduceEqDiff,
                                      List.map_cons, List.map_nil], by simp only [f270, put_at, put_no, ev_t, ev_c, reduceIte, Nat.reduceEqDiff, List.map_cons, List.map_nil],
                                      by simp only [f271, put_at, put_no, ev_t, ev_c, reduceIte, Nat.reduceEqDiff, List.map_cons, List.map_nil], by simp only [f272, put_at,
                                      put_no, ev_t, ev_c, reduceIte, Nat.reduceEqDiff, List.map_cons, List.map_nil], by simp only [put_at, put_no, ev_t, ev_c, reduceIte,
                                      Nat.reduceEqDiff, List.map_cons, List.map_nil], by simp only [put_at, put_no, ev_t, ev_c, reduceIte, Nat.reduceEqDiff, List.map_cons,
                                      List.map_nil]⟩
                                · rw [iteF hg364] at hx366
                                  obtain ⟨v369, hx370, hF371⟩ := bind_some' hx366
                                  simp only [hg364, run_guard (g := 135), guard_false, run_mv, f269, run_call, put_at, put_no, ev_t, ev_c, reduceIte, Nat.reduceEqDiff,
                                      List.map_cons, List.map_nil]
                                  refine call1 rfl (mapM1 (SlF.snap hv344 (Sep.m3 hS358) rfl (fun _ => rfl) (fun _ => rfl)) (mapM1 (SlF.snap hv47 (Sep.m13 hS358) rfl
                                      (fun _ => rfl) (fun _ => rfl)) mapM0)) (laws_eqBoolS_x (fun b hb => decide_eq_true hb) k v327.2.1 v30.2.1 v369 hx370) ?_
                                  simp only [hg364, run_guard (g := 135), guard_false, run_un, put1_some, xnot, run_pick, xpick_f, run_ops_nil, run_nil, put_at, put_no, ev_t,
                                      ev_c, reduceIte, Nat.reduceEqDiff, List.map_cons, List.map_nil]
                                  have e372 := some_inj hF371
                                  exact hN363 _ _ ⟨(Sep.m3 (Sep.m3 (Sep.m3 (Sep.dc (Sep.m4 (Sep.dc (Sep.m4 (Sep.dc (Sep.m4 (Sep.dc (Sep.m4 (Sep.dc ((Sep.dc ((Sep.dc ((Sep.dc
                                      ((Sep.dc ((Sep.dc (hS358))))))))))))))))))))))), by rw [← e372]; simp only [put_at, put_no, ev_t, ev_c, reduceIte, Nat.reduceEqDiff,
                                      List.map_cons, List.map_nil], by simp only [f270, put_at, put_no, ev_t, ev_c, reduceIte, Nat.reduceEqDiff, List.map_cons, List.map_nil],
                                      by simp only [f271, put_at, put_no, ev_t, ev_c, reduceIte, Nat.reduceEqDiff, List.map_cons, List.map_nil], by simp only [f272, put_at,
                                      put_no, ev_t, ev_c, reduceIte, Nat.reduceEqDiff, List.map_cons, List.map_nil], by simp only [put_at, put_no, ev_t, ev_c, reduceIte,
                                      Nat.reduceEqDiff, List.map_cons, List.map_nil], by simp only [put_at, put_no, ev_t, ev_c, reduceIte, Nat.reduceEqDiff, List.map_cons,
                                      List.map_nil]⟩
                              · rintro fr373 h380 ⟨hS381, f374, f375, f376, f377, f378, f379⟩
                                simp only [List.drop_succ_cons, List.drop_zero]
                                simp only [f374, run_mv, put_at, put_no, ev_t, ev_c, reduceIte, Nat.reduceEqDiff, List.map_cons, List.map_nil]
                                refine ops_j 4 (fun fr' h' => Sep h' h.length (c279 ++ (c281 ++ (c283 ++ (c290 ++ ([]))))) ∧ fr' 145 = .bool (v365 ||
                                    (!(v327.2.2 == v30.2.2))) ∧ fr' 13 = .ref [.int .i64 v86.1.Generation, v89, v93,
                                    v97] 0 ∧ fr' 14 = v101 ∧ fr' 17 = .int .i64 v287.1) (fun Q382 hN383 => ?_) ?_
                                · simp only [List.take_succ_cons, List.take_zero]
                                  simp only [run_guard (g := 141), put_at, put_no, ev_t, ev_c, reduceIte, Nat.reduceEqDiff, List.map_cons, List.map_nil]
                                  refine guard_split (t := v365) (fun hg384 => ?_) (fun hg384 => ?_)
                                  · simp only [hg384, run_guard (g := 141), guard_off', run_pick, put1_some, xpick_t, run_ops_nil, run_nil, put_at, put_no, ev_t, ev_c, reduceIte,
                                      Nat.reduceEqDiff, List.map_cons, List.map_nil]
                                    exact hN383 _ _ ⟨(Sep.m3 (Sep.m3 (Sep.m3 (Sep.m3 hS381)))), by rw [orT hg384]; simp only [put_at, put_no, ev_t, ev_c, reduceIte,
                                        Nat.reduceEqDiff, List.map_cons, List.map_nil], by simp only [f376, put_at, put_no, ev_t, ev_c, reduceIte, Nat.reduceEqDiff, List.map_cons,
                                        List.map_nil], by simp only [f377, put_at, put_no, ev_t, ev_c, reduceIte, Nat.reduceEqDiff, List.map_cons, List.map_nil],
                                        by simp only [f378, put_at, put_no, ev_t, ev_c, reduceIte, Nat.reduceEqDiff, List.map_cons, List.map_nil]⟩
                                  · simp only [hg384, run_guard (g := 141), guard_false, f379, run_mv, f375, run_eqb, put1_some, xeqb_t, run_pick, xpick_f, run_ops_nil, run_nil,
                                      put_at, put_no, ev_t, ev_c, reduceIte, Nat.reduceEqDiff, List.map_cons, List.map_nil]
                                    exact hN383 _ _ ⟨(Sep.m3 (Sep.m3 (Sep.m3 (Sep.m3 hS381)))), by rw [orF hg384]; simp only [put_at, put_no, ev_t, ev_c, reduceIte,
                                        Nat.reduceEqDiff, List.map_cons, List.map_nil], by simp only [f376, put_at, put_no, ev_t, ev_c, reduceIte, Nat.reduceEqDiff, List.map_cons,
                                        List.map_nil], by simp only [f377, put_at, put_no, ev_t, ev_c, reduceIte, Nat.reduceEqDiff, List.map_cons, List.map_nil],
                                        by simp only [f378, put_at, put_no, ev_t, ev_c, reduceIte, Nat.reduceEqDiff, List.map_cons, List.map_nil]⟩
                                · rintro fr385 h390 ⟨hS391, f386, f387, f388, f389⟩
                                  simp only [List.drop_succ_cons, List.drop_zero]
                                  simp only [run_ops_nil, f386, run_cond, put_at, put_no, ev_t, ev_c, reduceIte, Nat.reduceEqDiff, List.map_cons, List.map_nil]
                                  refine cond_split (t := (v365 || (!(v327.2.2 == v30.2.2)))) (fun hc392 => ?_) (fun hc392 => ?_)
                                  · rw [iteT hc392] at hF367
                                    simp only [run_seq, run_reg, run_mv, run_ops_nil, run_ret, put_at, put_no, ev_t, ev_c, reduceIte, Nat.reduceEqDiff, List.map_cons, List.map_nil]
                                    have he := some_inj hF367
                                    subst he
                                    simp only [end_ret1, put_at, put_no, ev_t, ev_c, reduceIte, Nat.reduceEqDiff, List.map_cons, List.map_nil]
                                    exact rfl
                                  · rw [iteF hc392] at hF367
                                    simp only [run_skip, x4_6, run_seq, run_reg, run_mv, run_ops_nil, x4_5, f387, run_ld, put_at, put_no, ev_t, ev_c, reduceIte, Nat.reduceEqDiff,
                                        List.map_cons, List.map_nil]
                                    refine put1_eq (v := .agg [.int .i64 v86.1.Generation, v89, v93, v97]) rfl ?_
                                    obtain ⟨v393, hx394, hF395⟩ := bind_some' hF367
                                    simp only [run_mv, run_call, put_at, put_no, ev_t, ev_c, reduceIte, Nat.reduceEqDiff, List.map_cons, List.map_nil]
                                    refine call1 rfl (mapM1 (snap_agg (mapM1 snap_int (mapM1 (SlN.snap hv280 _ hS391 rfl Reader.RO) (mapM1 (SlF.snap hv282 (Sep.m1 hS391) rfl
                                        (fun _ => rfl) (fun _ => rfl)) (mapM1 (SlF.snap hv284 (Sep.m2 hS391) rfl (fun _ => rfl) (fun _ => rfl)) mapM0))))) (mapM1 snap_int mapM0))
                                        (laws_heldReaders_x (fun b hb => decide_eq_true hb) k
                                        (Readers_.mk v86.1.Generation v276.2.Readers v276.2.Committed v276.2.Ends) 1 v393 hx394) ?_
                                    simp only [run_mv, run_ops_nil, x4_4, run_seq, run_reg, run_bin, put1_some, xlss, run_cond, put_at, put_no, ev_t, ev_c, reduceIte,
                                        Nat.reduceEqDiff, List.map_cons, List.map_nil]
                                    refine cond_split (t := (decide (v393 < 0))) (fun hc396 => ?_) (fun hc396 => ?_)
                                    · rw [iteT hc396] at hF395
                                      simp only [run_seq, run_reg, run_mv, run_ops_nil, run_ret, put_at, put_no, ev_t, ev_c, reduceIte, Nat.reduceEqDiff, List.map_cons,
                                          List.map_nil]
                                      have he := some_inj hF395
                                      subst he
                                      simp only [end_ret1, put_at, put_no, ev_t, ev_c, reduceIte, Nat.reduceEqDiff, List.map_cons, List.map_nil]
                                      exact rfl
                                    · rw [iteF hc396] at hF395
                                      obtain ⟨v397, hx398, hF399⟩ := bind_some' hF395
                                      simp only [run_skip, x4_3, run_seq, run_reg, f388, run_mv, run_call, put_at, put_no, ev_t, ev_c, reduceIte, Nat.reduceEqDiff, List.map_cons,
                                          List.map_nil]
                                      refine call1 rfl (mapM1 (SlF.snap hv291 (Sep.m3 hS391) rfl (fun _ => rfl) (fun _ => rfl)) (mapM1 snap_int mapM0)) (laws_heldBoolS_x
                                          (fun b hb => decide_eq_true hb) k v287.2 v393 v397 hx398) ?_
                                      simp only [run_mv, run_ops_nil, x4_2, run_seq, run_reg, run_bin, put1_some, xlss, run_cond, put_at, put_no, ev_t, ev_c, reduceIte,
                                          Nat.reduceEqDiff, List.map_cons, List.map_nil]
                                      refine cond_split (t := (decide (v397 < 0))) (fun hc400 => ?_) (fun hc400 => ?_)
                                      · rw [iteT hc400] at hF399
                                        simp only [run_seq, run_reg, run_mv, run_ops_nil, run_ret, put_at, put_no, ev_t, ev_c, reduceIte, Nat.reduceEqDiff, List.map_cons,
                                            List.map_nil]
                                        have he := some_inj hF399
                                        subst he
                                        simp only [end_ret1, put_at, put_no, ev_t, ev_c, reduceIte, Nat.reduceEqDiff, List.map_cons, List.map_nil]
                                        exact rfl
                                      · rw [iteF hc400] at hF399
                                        simp only [run_skip, x4_1, run_seq, run_reg, run_mv, f389, run_bin, put1_some, xneq, run_ops_nil, run_cond, put_at, put_no, ev_t, ev_c,
                                            reduceIte, Nat.reduceEqDiff, List.map_cons, List.map_nil]
                                        refine cond_split (t := (decide (v397 ≠ v287.1))) (fun hc401 => ?_) (fun hc401 => ?_)
                                        · rw [iteT hc401] at hF399
                                          simp only [run_seq, run_reg, run_mv, run_ops_nil, run_ret, put_at, put_no, ev_t, ev_c, reduceIte, Nat.reduceEqDiff, List.map_cons,
                                              List.map_nil]
                                          have he := some_inj hF399
                                          subst he
                                          simp only [end_ret1, put_at, put_no, ev_t, ev_c, reduceIte, Nat.reduceEqDiff, List.map_cons, List.map_nil]
                                          exact rfl
                                        · rw [iteF hc401] at hF399
                                          simp only [run_skip, run_seq, run_reg, run_mv, run_ops_nil, run_ret, put_at, put_no, ev_t, ev_c, reduceIte, Nat.reduceEqDiff,
                                              List.map_cons, List.map_nil]
                                          have he := some_inj hF399
                                          subst he
                                          simp only [end_ret1, put_at, put_no, ev_t, ev_c, reduceIte, Nat.reduceEqDiff, List.map_cons, List.map_nil]
                                          exact rfl
end Go.Proofs.Ytdhibknhejhfaaa.X
