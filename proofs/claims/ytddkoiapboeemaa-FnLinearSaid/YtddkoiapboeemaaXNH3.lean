/- The functions' code comes to what the plain functions say (3). -/
import Derived.Test.YtddkoiapboeemaaXNH2
set_option linter.unusedVariables false
set_option linter.unusedSimpArgs false
set_option maxRecDepth 100000
namespace Go.Proofs.Ytddkoiapboeemaa.X
open Go
theorem impl_orderFor_1_rec_x (rec : (List Int) → (List Call) → (Int → Int → Option Bool) → Option ((List Int) × Bool))
    (hrec : ∀ {W : Nat → Bool} {h : Heap} {lo : Nat} {S0 : List Obj} (hW : ∀ b,
    lo ≤ b → W b = true) (pv0 : XV) (pc0 : List Obj) (order_0 : List Int) (ph0 : SlF cI 1 3 pv0 order_0 pc0) (cap_0 : List Call) {gc1 : Nat} {capsc1 : List XV}
    (hmc1 : E.mode gc1 = 1) (cap_1 : Int → Int → Option Bool) (hfc1 : ∀ (W : Nat → Bool) (h : Heap), (∀ b, h.length ≤ b → W b = true) → ∀ a0 a1 r,
    cap_1 a0 a1 = some r → Ret E W gc1 ([.int .i64 a0,
    .int .i64 a1] ++ capsc1) h (fun v h' => cut h.length h' E.sz false 9 v = some (.bool r))) (pbs : Nat) (r : (List Int) × Bool) (hF : rec order_0 cap_0 cap_1 = some r)
    (hS : Sep h lo (pc0 ++ ([Blk1 pbs [.fn 67 [.ref ((cL Call.cells) cap_0) 0, .ref [.fn gc1 capsc1] 0, .ptr pbs 0]] 79] ++ (S0)))), Ret E W 67 [pv0,
    .ref ((cL Call.cells) cap_0) 0, .ref [.fn gc1 capsc1] 0, .ptr pbs 0] h (fun v h' => ∃ rv0 rc0, v = .tup [rv0,
    .bool r.2] ∧ SlF cI 1 3 rv0 r.1 rc0 ∧ Sep h' lo (rc0 ++ ([Blk1 pbs [.fn 67 [.ref ((cL Call.cells) cap_0) 0, .ref [.fn gc1 capsc1] 0,
    .ptr pbs 0]] 79] ++ (S0))))) {W : Nat → Bool} {h : Heap} {lo : Nat} {S0 : List Obj} (hW : ∀ b,
    lo ≤ b → W b = true) (pv0 : XV) (pc0 : List Obj) (order_0 : List Int) (ph0 : SlF cI 1 3 pv0 order_0 pc0) (cap_0 : List Call) {gc1 : Nat} {capsc1 : List XV}
    (hmc1 : E.mode gc1 = 1) (cap_1 : Int → Int → Option Bool) (hfc1 : ∀ (W : Nat → Bool) (h : Heap), (∀ b, h.length ≤ b → W b = true) → ∀ a0 a1 r,
    cap_1 a0 a1 = some r → Ret E W gc1 ([.int .i64 a0,
    .int .i64 a1] ++ capsc1) h (fun v h' => cut h.length h' E.sz false 9 v = some (.bool r))) (pbs : Nat) (r : (List Int) × Bool)
    (hF : impl_orderFor_1_rec rec order_0 cap_0 cap_1 = some r) (hS : Sep h lo (pc0 ++ ([Blk1 pbs [.fn 67 [.ref ((cL Call.cells) cap_0) 0, .ref [.fn gc1 capsc1] 0,
    .ptr pbs 0]] 79] ++ (S0)))) : Ret E W 67 [pv0, .ref ((cL Call.cells) cap_0) 0, .ref [.fn gc1 capsc1] 0, .ptr pbs 0] h (fun v h' => ∃ rv0 rc0, v = .tup [rv0,
    .bool r.2] ∧ SlF cI 1 3 rv0 r.1 rc0 ∧ Sep h' lo (rc0 ++ ([Blk1 pbs [.fn 67 [.ref ((cL Call.cells) cap_0) 0, .ref [.fn gc1 capsc1] 0, .ptr pbs 0]] 79] ++ (S0)))) := by
  refine Ret.of (fn := x67) rfl (Run.of ?_)
  unfold impl_orderFor_1_rec at hF
  have zf0 : argFr [pv0, .ref ((cL Call.cells) cap_0) 0, .ref [.fn gc1 capsc1] 0, .ptr pbs 0] 0 = pv0 := rfl
  have zf1 : argFr [pv0, .ref ((cL Call.cells) cap_0) 0, .ref [.fn gc1 capsc1] 0, .ptr pbs 0] 1 = .ref ((cL Call.cells) cap_0) 0 := rfl
  have zf2 : argFr [pv0, .ref ((cL Call.cells) cap_0) 0, .ref [.fn gc1 capsc1] 0, .ptr pbs 0] 2 = .ref [.fn gc1 capsc1] 0 := rfl
  have zf3 : argFr [pv0, .ref ((cL Call.cells) cap_0) 0, .ref [.fn gc1 capsc1] 0, .ptr pbs 0] 3 = .ptr pbs 0 := rfl
  generalize argFr [pv0, .ref ((cL Call.cells) cap_0) 0, .ref [.fn gc1 capsc1] 0, .ptr pbs 0] = fr0 at zf0 zf1 zf2 zf3 ⊢
  simp only [x67, run_seq, run_reg, run_mv, run_ops_nil, x67_11, zf0, run_len, put1_some, SlF.plen ph0, zf1, run_ld, put_at, put_no, ev_t, ev_c, reduceIte, Nat.reduceEqDiff,
      List.map_cons, List.map_nil]
  refine put1_eq (v := lst Call.cells cap_0) rfl ?_
  simp only [run_len, put1_some, xlen_lst, run_bin, xeql, run_ops_nil, x67_1, run_cond, put_at, put_no, ev_t, ev_c, reduceIte, Nat.reduceEqDiff, List.map_cons, List.map_nil]
  refine cond_split (t := (decide ((List.length order_0 : Int) = (List.length cap_0 : Int)))) (fun hc1 => ?_) (fun hc1 => ?_)
  · rw [iteT hc1] at hF
    simp only [run_seq, run_reg, zf0, run_mv, run_ops_nil, run_ret, put_at, put_no, ev_t, ev_c, reduceIte, Nat.reduceEqDiff, List.map_cons, List.map_nil]
    have he := some_inj hF
    subst he
    simp only [end_ret2, put_at, put_no, ev_t, ev_c, reduceIte, Nat.reduceEqDiff, List.map_cons, List.map_nil]
    exact ⟨pv0, pc0, by first | trivial | rfl, ph0, (Sep.m1 (Sep.m1 hS))⟩
  · rw [iteF hc1] at hF
    simp only [run_skip, x67_10, run_seq, run_reg, zf1, run_ld, put_at, put_no, ev_t, ev_c, reduceIte, Nat.reduceEqDiff, List.map_cons, List.map_nil]
    refine put1_eq (v := lst Call.cells cap_0) rfl ?_
    simp only [run_len, put1_some, xlen_lst, run_mv, run_ops_nil, put_at, put_no, ev_t, ev_c, reduceIte, Nat.reduceEqDiff, List.map_cons, List.map_nil]
    obtain ⟨oc4, hX6, hk7⟩ := jn_some hF
    simp only [x67_9]
    refine rangeN_j (σ := Unit) (fun i2 _ => impl_orderFor_1_b1 order_0 cap_0 cap_1 rec i2 ) (fun s fr' h' => fr' 0 = pv0 ∧ fr' 1 = .ref
        ((cL Call.cells) cap_0) 0 ∧ fr' 2 = .ref [.fn gc1 capsc1] 0 ∧ fr' 3 = .ptr pbs 0 ∧ Sep h' lo (pc0 ++ ([Blk1 pbs [.fn 67 [.ref ((cL Call.cells) cap_0) 0,
        .ref [.fn gc1 capsc1] 0, .ptr pbs 0]] 79] ++ (S0)))) hX6 ⟨by simp only [zf0, put_at, put_no, ev_t, ev_c, reduceIte, Nat.reduceEqDiff, List.map_cons, List.map_nil],
        by simp only [zf1, put_at, put_no, ev_t, ev_c, reduceIte, Nat.reduceEqDiff, List.map_cons, List.map_nil], by simp only [zf2, put_at, put_no, ev_t, ev_c, reduceIte,
        Nat.reduceEqDiff, List.map_cons, List.map_nil], by simp only [zf3, put_at, put_no, ev_t, ev_c, reduceIte, Nat.reduceEqDiff, List.map_cons, List.map_nil],
        (Sep.m1 (Sep.m1 hS))⟩ (by simp only [put_at, put_no, ev_t, ev_c, reduceIte, Nat.reduceEqDiff, List.map_cons, List.map_nil]) (by simp only [put_at, put_no, ev_t, ev_c,
        reduceIte, Nat.reduceEqDiff, List.map_cons, List.map_nil]) (fun _ _ _ h => h) rfl rfl (fun _ _ _ _ h => h) (fun _ _ _ _ h => h) (fun _ _ _ _ h => h) (by decide) ?_ ?_
    · rintro i2 _ fr16 h17 hx23 ⟨f19, f20, f21, f22, hS18⟩ f24 f25 oc5 hF8 hr9 Q10 hN11 hB15 hK12 hR13 hE14
      unfold impl_orderFor_1_b1 at hF8
      simp only [x67_7, run_seq, run_reg, f24, run_mv, run_ops_nil, x67_6, run_buildS, evp, put_at, put_no, ev_t, ev_c, reduceIte, Nat.reduceEqDiff, List.map_cons, List.map_nil]
      refine put2_buildSF (n := 1) (f := cI) ([] : List Int) hS18 rfl rfl (fun v26 c27 h28 hv29 hS30 => ?_)
      simp only [f19, run_mv, run_app, put_at, put_no, ev_t, ev_c, reduceIte, Nat.reduceEqDiff, List.map_cons, List.map_nil]
      obtain ⟨l32, hx33, hF34⟩ := bind_some' hF8
      refine put2_appF (f := cI) hv29 hS30 hW (fun _ => rfl) (fun _ => rfl) (SlF.first ph0 (Sep.m1 hS30) (fun _ => rfl)) hx33 (fun v35 c36 h37 hv38 hS39 => ?_)
      simp only [run_mv, run_buildS, evp, put_at, put_no, ev_t, ev_c, reduceIte, Nat.reduceEqDiff, List.map_cons, List.map_nil]
      refine put2_buildSF (n := 1) (f := cI) [(i2 : Int)] hS39 rfl rfl (fun v41 c42 h43 hv44 hS45 => ?_)
      simp only [run_app, put_at, put_no, ev_t, ev_c, reduceIte, Nat.reduceEqDiff, List.map_cons, List.map_nil]
      obtain ⟨l47, hx48, hF49⟩ := bind_some' hF34
      refine put2_appF (f := cI) hv38 (Sep.m1 hS45) hW (fun _ => rfl) (fun _ => rfl) (SlF.first hv44 hS45 (fun _ => rfl)) hx48 (fun v50 c51 h52 hv53 hS54 => ?_)
      obtain ⟨v56, hx57, hF58⟩ := bind_some' hF49
      simp only [run_mv, run_ops_nil, x67_5, run_seq, run_reg, f19, run_call, put_at, put_no, ev_t, ev_c, reduceIte, Nat.reduceEqDiff, List.map_cons, List.map_nil]
      refine call1 rfl (mapM1 (SlF.snap ph0 (Sep.m2 hS54) rfl (fun _ => rfl) (fun _ => rfl)) (mapM1 snap_int mapM0)) (slices_Contains_int_x
          (fun b hb => decide_eq_true hb) order_0 (i2 : Int) v56 hx57) ?_
      simp only [run_mv, put_at, put_no, ev_t, ev_c, reduceIte, Nat.reduceEqDiff, List.map_cons, List.map_nil]
      obtain ⟨v62, hx63, hF64⟩ := bind_some' hF58
      refine ops_j 5 (fun fr' h' => Sep h' lo (pc0 ++ ([Blk1 pbs [.fn 67 [.ref ((cL Call.cells) cap_0) 0, .ref [.fn gc1 capsc1] 0,
          .ptr pbs 0]] 79] ++ (c51 ++ (S0)))) ∧ fr' 36 = .bool v62 ∧ fr' 0 = pv0 ∧ fr' 1 = .ref
          ((cL Call.cells) cap_0) 0 ∧ fr' 2 = .ref [.fn gc1 capsc1] 0 ∧ fr' 3 = .ptr pbs 0 ∧ fr' 8 = v50 ∧ fr' 18 = .int .i64 (List.length cap_0 : Int) ∧ fr' 19 = .int .i64
          (i2 : Int)) (fun Q59 hN60 => ?_) ?_
      · simp only [List.take_succ_cons, List.take_zero]
        simp only [run_guard (g := 31), put_at, put_no, ev_t, ev_c, reduceIte, Nat.reduceEqDiff, List.map_cons, List.map_nil]
        refine guard_split (t := v56) (fun hg61 => ?_) (fun hg61 => ?_)
        · rw [iteT hg61] at hx63
          simp only [hg61, run_guard (g := 31), guard_off', run_pick, put1_some, xpick_t, run_ops_nil, run_nil, put_at, put_no, ev_t, ev_c, reduceIte, Nat.reduceEqDiff,
              List.map_cons, List.map_nil]
          have e65 := some_inj hx63
          exact hN60 _ _ ⟨(Sep.m2 (Sep.m2 (Sep.dc (Sep.m1 hS54)))), by rw [← e65]; simp only [put_at, put_no, ev_t, ev_c, reduceIte, Nat.reduceEqDiff, List.map_cons,
              List.map_nil], by simp only [f19, put_at, put_no, ev_t, ev_c, reduceIte, Nat.reduceEqDiff, List.map_cons, List.map_nil], by simp only [f20, put_at, put_no, ev_t,
              ev_c, reduceIte, Nat.reduceEqDiff, List.map_cons, List.map_nil], by simp only [f21, put_at, put_no, ev_t, ev_c, reduceIte, Nat.reduceEqDiff, List.map_cons,
              List.map_nil], by simp only [f22, put_at, put_no, ev_t, ev_c, reduceIte, Nat.reduceEqDiff, List.map_cons, List.map_nil], by simp only [put_at, put_no, ev_t, ev_c,
              reduceIte, Nat.reduceEqDiff, List.map_cons, List.map_nil], by simp only [f25, put_at, put_no, ev_t, ev_c, reduceIte, Nat.reduceEqDiff, List.map_cons, List.map_nil],
              by simp only [f24, put_at, put_no, ev_t, ev_c, reduceIte, Nat.reduceEqDiff, List.map_cons, List.map_nil]⟩
        · rw [iteF hg61] at hx63
          simp only [hg61, run_guard (g := 31), guard_false, f20, run_ld, put_at, put_no, ev_t, ev_c, reduceIte, Nat.reduceEqDiff, List.map_cons, List.map_nil]
          refine put1_eq (v := lst Call.cells cap_0) rfl ?_
          obtain ⟨v66, hx67, hF68⟩ := bind_some' hx63
          simp only [hg61, run_guard (g := 31), guard_false, run_mv, run_call, put_at, put_no, ev_t, ev_c, reduceIte, Nat.reduceEqDiff, List.map_cons, List.map_nil]
          refine call1 rfl (mapM1 snap_lst (mapM1 (SlF.snap hv53 hS54 rfl (fun _ => rfl) (fun _ => rfl)) mapM0)) (impl_isLegal_x
              (fun b hb => decide_eq_true hb) cap_0 l47 v66 hx67) ?_
          simp only [hg61, run_guard (g := 31), guard_false, run_un, put1_some, xnot, run_pick, xpick_f, run_ops_nil, run_nil, put_at, put_no, ev_t, ev_c, reduceIte,
              Nat.reduceEqDiff, List.map_cons, List.map_nil]
          have e69 := some_inj hF68
          exact hN60 _ _ ⟨(Sep.m2 (Sep.m2 (Sep.dc (Sep.m1 hS54)))), by rw [← e69]; simp only [put_at, put_no, ev_t, ev_c, reduceIte, Nat.reduceEqDiff, List.map_cons,
              List.map_nil], by simp only [f19, put_at, put_no, ev_t, ev_c, reduceIte, Nat.reduceEqDiff, List.map_cons, List.map_nil], by simp only [f20, put_at, put_no, ev_t,
              ev_c, reduceIte, Nat.reduceEqDiff, List.map_cons, List.map_nil], by simp only [f21, put_at, put_no, ev_t, ev_c, reduceIte, Nat.reduceEqDiff, List.map_cons,
              List.map_nil], by simp only [f22, put_at, put_no, ev_t, ev_c, reduceIte, Nat.reduceEqDiff, List.map_cons, List.map_nil], by simp only [put_at, put_no, ev_t, ev_c,
              reduceIte, Nat.reduceEqDiff, List.map_cons, List.map_nil], by simp only [f25, put_at, put_no, ev_t, ev_c, reduceIte, Nat.reduceEqDiff, List.map_cons, List.map_nil],
              by simp only [f24, put_at, put_no, ev_t, ev_c, reduceIte, Nat.reduceEqDiff, List.map_cons, List.map_nil]⟩
      · rintro fr70 h79 ⟨hS80, f71, f72, f73, f74, f75, f76, f77, f78⟩
        simp only [List.drop_succ_cons, List.drop_zero]
        simp only [f71, run_mv, put_at, put_no, ev_t, ev_c, reduceIte, Nat.reduceEqDiff, List.map_cons, List.map_nil]
        obtain ⟨v84, hx85, hF86⟩ := bind_some' hF64
        refine ops_j 5 (fun fr' h' => Sep h' lo (pc0 ++ ([Blk1 pbs [.fn 67 [.ref ((cL Call.cells) cap_0) 0, .ref [.fn gc1 capsc1] 0,
            .ptr pbs 0]] 79] ++ (c51 ++ (S0)))) ∧ fr' 42 = .bool v84 ∧ fr' 0 = pv0 ∧ fr' 1 = .ref
            ((cL Call.cells) cap_0) 0 ∧ fr' 2 = .ref [.fn gc1 capsc1] 0 ∧ fr' 3 = .ptr pbs 0 ∧ fr' 8 = v50 ∧ fr' 18 = .int .i64 (List.length cap_0 : Int) ∧ fr' 19 = .int .i64
            (i2 : Int)) (fun Q81 hN82 => ?_) ?_
        · simp only [List.take_succ_cons, List.take_zero]
          simp only [run_guard (g := 37), put_at, put_no, ev_t, ev_c, reduceIte, Nat.reduceEqDiff, List.map_cons, List.map_nil]
          refine guard_split (t := v62) (fun hg83 => ?_) (fun hg83 => ?_)
          · rw [iteT hg83] at hx85
            simp only [hg83, run_guard (g := 37), guard_off', run_pick, put1_some, xpick_t, run_ops_nil, run_nil, put_at, put_no, ev_t, ev_c, reduceIte, Nat.reduceEqDiff,
                List.map_cons, List.map_nil]
            have e87 := some_inj hx85
            exact hN82 _ _ ⟨(Sep.m2 (Sep.m2 (Sep.m2 hS80))), by rw [← e87]; simp only [put_at, put_no, ev_t, ev_c, reduceIte, Nat.reduceEqDiff, List.map_cons, List.map_nil],
                by simp only [f72, put_at, put_no, ev_t, ev_c, reduceIte, Nat.reduceEqDiff, List.map_cons, List.map_nil], by simp only [f73, put_at, put_no, ev_t, ev_c, reduceIte,
                Nat.reduceEqDiff, List.map_cons, List.map_nil], by simp only [f74, put_at, put_no, ev_t, ev_c, reduceIte, Nat.reduceEqDiff, List.map_cons, List.map_nil],
                by simp only [f75, put_at, put_no, ev_t, ev_c, reduceIte, Nat.reduceEqDiff, List.map_cons, List.map_nil], by simp only [f76, put_at, put_no, ev_t, ev_c, reduceIte,
                Nat.reduceEqDiff, List.map_cons, List.map_nil], by simp only [f77, put_at, put_no, ev_t, ev_c, reduceIte, Nat.reduceEqDiff, List.map_cons, List.map_nil],
                by simp only [f78, put_at, put_no, ev_t, ev_c, reduceIte, Nat.reduceEqDiff, List.map_cons, List.map_nil]⟩
          · rw [iteF hg83] at hx85
            simp only [hg83, run_guard (g := 37), guard_false, f76, run_mv, f74, run_ld, put_at, put_no, ev_t, ev_c, reduceIte, Nat.reduceEqDiff, List.map_cons, List.map_nil]
            refine put1_eq (v := .fn gc1 capsc1) rfl ?_
            obtain ⟨v88, hx89, hF90⟩ := bind_some' hx85
            simp only [hg83, run_guard (g := 37), guard_false, run_call, put_at, put_no, ev_t, ev_c, reduceIte, Nat.reduceEqDiff, List.map_cons, List.map_nil]
            refine call1 rfl (mapM1 (SlF.snap hv53 (Sep.m2 hS80) rfl (fun _ => rfl) (fun _ => rfl)) (mapM1 snap_fn mapM0)) (impl_inOrder_x (fun b hb => decide_eq_true hb) l47
                (g1 := gc1) (caps1 := capsc1) hmc1 cap_1 hfc1 v88 hx89) ?_
            simp only [hg83, run_guard (g := 37), guard_false, run_un, put1_some, xnot, run_pick, xpick_f, run_ops_nil, run_nil, put_at, put_no, ev_t, ev_c, reduceIte,
                Nat.reduceEqDiff, List.map_cons, List.map_nil]
            have e91 := some_inj hF90
            exact hN82 _ _ ⟨(Sep.m2 (Sep.m2 (Sep.m2 hS80))), by rw [← e91]; simp only [put_at, put_no, ev_t, ev_c, reduceIte, Nat.reduceEqDiff, List.map_cons, List.map_nil],
                by simp only [f72, put_at, put_no, ev_t, ev_c, reduceIte, Nat.reduceEqDiff, List.map_cons, List.map_nil], by simp only [f73, put_at, put_no, ev_t, ev_c, reduceIte,
                Nat.reduceEqDiff, List.map_cons, List.map_nil], by simp only [f74, put_at, put_no, ev_t, ev_c, reduceIte, Nat.reduceEqDiff, List.map_cons, List.map_nil],
                by simp only [f75, put_at, put_no, ev_t, ev_c, reduceIte, Nat.reduceEqDiff, List.map_cons, List.map_nil], by simp only [f76, put_at, put_no, ev_t, ev_c, reduceIte,
                Nat.reduceEqDiff, List.map_cons, List.map_nil], by simp only [f77, put_at, put_no, ev_t, ev_c, reduceIte, Nat.reduceEqDiff, List.map_cons, List.map_nil],
                by simp only [f78, put_at, put_no, ev_t, ev_c, reduceIte, Nat.reduceEqDiff, List.map_cons, List.map_nil]⟩
        · rintro fr92 h101 ⟨hS102, f93, f94, f95, f96, f97, f98, f99, f100⟩
          simp only [List.drop_succ_cons, List.drop_zero]
          simp only [run_ops_nil, f93, run_cond, put_at, put_no, ev_t, ev_c, reduceIte, Nat.reduceEqDiff, List.map_cons, List.map_nil]
          refine cond_split (t := v84) (fun hc103 => ?_) (fun hc103 => ?_)
          · rw [iteT hc103] at hF86
            simp only [run_exit, out_code, out_nil, put_at, put_no, ev_t, ev_c, reduceIte, Nat.reduceEqDiff, List.map_cons, List.map_nil]
            have e104 := some_inj hF86
            exact hB15 _ _ _ e104.symm ⟨by simp only [f94, put_at, put_no, ev_t, ev_c, reduceIte, Nat.reduceEqDiff, List.map_cons, List.map_nil], by simp only [f95, put_at,
                put_no, ev_t, ev_c, reduceIte, Nat.reduceEqDiff, List.map_cons, List.map_nil], by simp only [f96, put_at, put_no, ev_t, ev_c, reduceIte, Nat.reduceEqDiff,
                List.map_cons, List.map_nil], by simp only [f97, put_at, put_no, ev_t, ev_c, reduceIte, Nat.reduceEqDiff, List.map_cons, List.map_nil],
                (Sep.m1 (Sep.m1 (Sep.dc (Sep.m2 hS102))))⟩ (by simp only [f100, put_at, put_no, ev_t, ev_c, reduceIte, Nat.reduceEqDiff, List.map_cons,
                List.map_nil]) (by simp only [f99, put_at, put_no, ev_t, ev_c, reduceIte, Nat.reduceEqDiff, List.map_cons, List.map_nil])
          · rw [iteF hc103] at hF86
            simp only [run_skip, x67_4, run_seq, run_reg, f97, run_ld, put_at, put_no, ev_t, ev_c, reduceIte, Nat.reduceEqDiff, List.map_cons, List.map_nil]
            refine put1_eq (v := .fn 67 [.ref ((cL Call.cells) cap_0) 0, .ref [.fn gc1 capsc1] 0, .ptr pbs 0]) ((xld_b (Sep.bk _ _ _ (Sep.m1 hS102))).trans rfl) ?_
            obtain ⟨v105, hx106, hF107⟩ := bind_some' hF86
            simp only [f98, run_mv, run_call, put_at, put_no, ev_t, ev_c, reduceIte, Nat.reduceEqDiff, List.map_cons, List.map_nil]
            refine call0 rfl (hrec hW v50 c51 l47 hv53 cap_0 (gc1 := gc1) (capsc1 := capsc1) hmc1 cap_1 hfc1 pbs v105 hx106 (Sep.m2 (Sep.m1 hS102))) ?_
            rintro _ h112 ⟨v108, c109, rfl, hv110, hS113⟩
            simp only [run_mv, run_ext, put1_some, xext_0, xext_1, run_ops_nil, x67_3, run_seq, run_reg, x67_2, run_cond, put_at, put_no, ev_t, ev_c, reduceIte, Nat.reduceEqDiff,
                List.map_cons, List.map_nil]
            refine cond_split (t := v105.2) (fun hc114 => ?_) (fun hc114 => ?_)
            · rw [iteT hc114] at hF107
              simp only [run_seq, run_reg, run_mv, run_ops_nil, run_ret, put_at, put_no, ev_t, ev_c, reduceIte, Nat.reduceEqDiff, List.map_cons, List.map_nil]
              have e115 := some_inj hF107
              subst e115
              have ho116 := hr9 _ rfl
              have hk117 := hk7
              rw [ho116] at hk117
              dsimp only [jnO] at hk117
              apply hR13
              have he := some_inj hk117
              subst he
              simp only [end_ret2, put_at, put_no, ev_t, ev_c, reduceIte, Nat.reduceEqDiff, List.map_cons, List.map_nil]
              exact ⟨v108, c109, by first | trivial | rfl, hv110, (Sep.m1 (Sep.m1 (Sep.dc (Sep.m2 hS113))))⟩
            · rw [iteF hc114] at hF107
              simp only [run_skip, run_nil, put_at, put_no, ev_t, ev_c, reduceIte, Nat.reduceEqDiff, List.map_cons, List.map_nil]
              have e118 := some_inj hF107
              exact hN11 _ _ _ e118.symm ⟨by simp only [f94, put_at, put_no, ev_t, ev_c, reduceIte, Nat.reduceEqDiff, List.map_cons, List.map_nil], by simp only [f95, put_at,
                  put_no, ev_t, ev_c, reduceIte, Nat.reduceEqDiff, List.map_cons, List.map_nil], by simp only [f96, put_at, put_no, ev_t, ev_c, reduceIte, Nat.reduceEqDiff,
                  List.map_cons, List.map_nil], by simp only [f97, put_at, put_no, ev_t, ev_c, reduceIte, Nat.reduceEqDiff, List.map_cons, List.map_nil],
                  (Sep.m1 (Sep.dc (hS113)))⟩ (by simp only [f100, put_at, put_no, ev_t, ev_c, reduceIte, Nat.reduceEqDiff, List.map_cons, List.map_nil]) (by simp only [f99,
                  put_at, put_no, ev_t, ev_c, reduceIte, Nat.reduceEqDiff, List.map_cons, List.map_nil])
    · rintro _ fr120 h121 rfl ⟨f123, f124, f125, f126, hS122⟩
      dsimp only [jnO] at hk7
      unfold impl_orderFor_1_j1 at hk7
      simp only [run_seq, run_reg, run_mv, run_ops_nil, run_ret, put_at, put_no, ev_t, ev_c, reduceIte, Nat.reduceEqDiff, List.map_cons, List.map_nil]
      have he := some_inj hk7
      subst he
      simp only [end_ret2, put_at, put_no, ev_t, ev_c, reduceIte, Nat.reduceEqDiff, List.map_cons, List.map_nil]
      exact ⟨.nil, [], by first | trivial | rfl, SlF.nil, (Sep.dc (hS122))⟩
theorem impl_orderFor_1_all : ∀ k : Nat, ∀ {W : Nat → Bool} {h : Heap} {lo : Nat} {S0 : List Obj} (hW : ∀ b,
    lo ≤ b → W b = true) (pv0 : XV) (pc0 : List Obj) (order_0 : List Int) (ph0 : SlF cI 1 3 pv0 order_0 pc0) (cap_0 : List Call) {gc1 : Nat} {capsc1 : List XV}
    (hmc1 : E.mode gc1 = 1) (cap_1 : Int → Int → Option Bool) (hfc1 : ∀ (W : Nat → Bool) (h : Heap), (∀ b, h.length ≤ b → W b = true) → ∀ a0 a1 r,
    cap_1 a0 a1 = some r → Ret E W gc1 ([.int .i64 a0,
    .int .i64 a1] ++ capsc1) h (fun v h' => cut h.length h' E.sz false 9 v = some (.bool r))) (pbs : Nat) (r : (List Int) × Bool)
    (hF : impl_orderFor_1 k order_0 cap_0 cap_1 = some r) (hS : Sep h lo (pc0 ++ ([Blk1 pbs [.fn 67 [.ref ((cL Call.cells) cap_0) 0, .ref [.fn gc1 capsc1] 0,
    .ptr pbs 0]] 79] ++ (S0)))), Ret E W 67 [pv0, .ref ((cL Call.cells) cap_0) 0, .ref [.fn gc1 capsc1] 0, .ptr pbs 0] h (fun v h' => ∃ rv0 rc0, v = .tup [rv0,
    .bool r.2] ∧ SlF cI 1 3 rv0 r.1 rc0 ∧ Sep h' lo (rc0 ++ ([Blk1 pbs [.fn 67 [.ref ((cL Call.cells) cap_0) 0, .ref [.fn gc1 capsc1] 0, .ptr pbs 0]] 79] ++ (S0)))) := by
  intro k
  induction k with
  | zero => intros; rename_i hF _; cases hF
  | succ k ih => exact @impl_orderFor_1_rec_x (impl_orderFor_1 k) ih
theorem impl_orderFor_1_x {W : Nat → Bool} {h : Heap} {lo : Nat} {S0 : List Obj} (hW : ∀ b,
    lo ≤ b → W b = true) (k : Nat) (pv0 : XV) (pc0 : List Obj) (order_0 : List Int) (ph0 : SlF cI 1 3 pv0 order_0 pc0) (cap_0 : List Call) {gc1 : Nat} {capsc1 : List XV}
    (hmc1 : E.mode gc1 = 1) (cap_1 : Int → Int → Option Bool) (hfc1 : ∀ (W : Nat → Bool) (h : Heap), (∀ b, h.length ≤ b → W b = true) → ∀ a0 a1 r,
    cap_1 a0 a1 = some r → Ret E W gc1 ([.int .i64 a0,
    .int .i64 a1] ++ capsc1) h (fun v h' => cut h.length h' E.sz false 9 v = some (.bool r))) (pbs : Nat) (r : (List Int) × Bool)
    (hF : impl_orderFor_1 k order_0 cap_0 cap_1 = some r) (hS : Sep h lo (pc0 ++ ([Blk1 pbs [.fn 67 [.ref ((cL Call.cells) cap_0) 0, .ref [.fn gc1 capsc1] 0,
    .ptr pbs 0]] 79] ++ (S0)))) : Ret E W 67 [pv0, .ref ((cL Call.cells) cap_0) 0, .ref [.fn gc1 capsc1] 0, .ptr pbs 0] h (fun v h' => ∃ rv0 rc0, v = .tup [rv0,
    .bool r.2] ∧ SlF cI 1 3 rv0 r.1 rc0 ∧ Sep h' lo (rc0 ++ ([Blk1 pbs [.fn 67 [.ref ((cL Call.cells) cap_0) 0, .ref [.fn gc1 capsc1] 0,
    .ptr pbs 0]] 79] ++ (S0)))) := impl_orderFor_1_all k hW pv0 pc0 order_0 ph0 cap_0 hmc1 cap_1 hfc1 pbs r hF hS
theorem impl_orderFor_x {W : Nat → Bool} {h : Heap} (hW : ∀ b,
    h.length ≤ b → W b = true) (k : Nat) (l_0 : List Call) {g1 : Nat} {caps1 : List XV} (hm1 : E.mode g1 = 1) (may_1 : Int → Int → Option Bool) (hf1 : ∀ (W : Nat → Bool)
    (h : Heap), (∀ b, h.length ≤ b → W b = true) → ∀ a0 a1 r, may_1 a0 a1 = some r → Ret E W g1 ([.int .i64 a0,
    .int .i64 a1] ++ caps1) h (fun v h' => cut h.length h' E.sz false 9 v = some (.bool r))) (r : (List Int) × Bool)
    (hF : impl_orderFor k l_0 may_1 = some r) : Ret E W 49 [lst Call.cells l_0, .fn g1 caps1] h (fun v h' => ∃ rv0 rc0, v = .tup [rv0,
    .bool r.2] ∧ SlF cI 1 3 rv0 r.1 rc0 ∧ Sep h' h.length (rc0 ++ ([]))) := by
  refine Ret.of (fn := x49) rfl (Run.of ?_)
  unfold impl_orderFor at hF
  have zf0 : argFr [lst Call.cells l_0, .fn g1 caps1] 0 = lst Call.cells l_0 := rfl
  have zf1 : argFr [lst Call.cells l_0, .fn g1 caps1] 1 = .fn g1 caps1 := rfl
  generalize argFr [lst Call.cells l_0, .fn g1 caps1] = fr0 at zf0 zf1 ⊢
  have hS : Sep h h.length [] := Sep.nil h
  simp only [x49, run_seq, run_reg, run_box, zf0, put_at, put_no, ev_t, ev_c, reduceIte, Nat.reduceEqDiff, List.map_cons, List.map_nil]
  refine put2_boxC (cs := [lst Call.cells l_0]) hS rfl rfl rfl (fun b1 h2 hS3 => ?_)
  simp only [run_box, zf1, put_at, put_no, ev_t, ev_c, reduceIte, Nat.reduceEqDiff, List.map_cons, List.map_nil]
  refine put2_boxC (cs := [.fn g1 caps1]) hS3 rfl rfl rfl (fun b5 h6 hS7 => ?_)
  simp only [run_mv, run_ops_nil, put_at, put_no, ev_t, ev_c, reduceIte, Nat.reduceEqDiff, List.map_cons, List.map_nil]
  refine frz_stepC (Sep.m1 hS7) hW (by simp only [put_at, put_no, ev_t, ev_c, reduceIte, Nat.reduceEqDiff, List.map_cons, List.map_nil]) (fun h9 hS10 => ?_)
  refine frz_stepC hS10 hW (by simp only [put_at, put_no, ev_t, ev_c, reduceIte, Nat.reduceEqDiff, List.map_cons, List.map_nil]) (fun h11 hS12 => ?_)
  simp only [run_frz_nil, x49_3, run_seq, run_reg, run_new, put_at, put_no, ev_t, ev_c, reduceIte, Nat.reduceEqDiff, List.map_cons, List.map_nil]
  refine put2_newC hS12 (fun b13 h14 hS15 => ?_)
  simp only [run_ops_nil, x49_2, run_seq, run_reg, run_mkF, run_st, put_at, put_no, ev_t, ev_c, reduceIte, Nat.reduceEqDiff, List.map_cons, List.map_nil]
  refine put2_stC (cs' := [.fn 67 [.ref [lst Call.cells l_0] 0, .ref [.fn g1 caps1] 0, .ptr b13 0]]) hS15 hW rfl rfl (Nat.le_of_ble_eq_true rfl) rfl (fun h17 hS18 => ?_)
  simp only [put_no, run_ops_nil, x49_1, run_seq, run_reg, run_ld, put_at, ev_t, ev_c, reduceIte, Nat.reduceEqDiff, List.map_cons, List.map_nil]
  refine put1_eq (v := .fn 67 [.ref [lst Call.cells l_0] 0, .ref [.fn g1 caps1] 0, .ptr b13 0]) ((xld_b (Sep.bk _ _ _ hS18)).trans rfl) ?_
  simp only [run_buildS, evp, put_at, put_no, ev_t, ev_c, reduceIte, Nat.reduceEqDiff, List.map_cons, List.map_nil]
  refine put2_buildSF (n := 1) (f := cI) ([] : List Int) hS18 rfl rfl (fun v19 c20 h21 hv22 hS23 => ?_)
  obtain ⟨v25, hx26, hF27⟩ := bind_some' hF
  simp only [run_call, put_at, put_no, ev_t, ev_c, reduceIte, Nat.reduceEqDiff, List.map_cons, List.map_nil]
  refine call0 rfl (impl_orderFor_1_x hW k v19 c20 ([] : List Int) hv22 l_0 (gc1 := g1) (capsc1 := caps1) hm1 may_1 hf1 b13 v25 hx26 (Sep.m1 (Sep.m1 hS23))) ?_
  rintro _ h32 ⟨v28, c29, rfl, hv30, hS33⟩
  simp only [run_ext, put1_some, xext_0, xext_1, run_mv, run_ops_nil, run_ret, put_at, put_no, ev_t, ev_c, reduceIte, Nat.reduceEqDiff, List.map_cons, List.map_nil]
  have he := some_inj hF27
  subst he
  simp only [end_ret2, put_at, put_no, ev_t, ev_c, reduceIte, Nat.reduceEqDiff, List.map_cons, List.map_nil]
  exact ⟨v28, c29, by first | trivial | rfl, hv30, (Sep.dc (Sep.m1 hS33))⟩
theorem impl_IsSequential_1_x {W : Nat → Bool} {h : Heap} (hW : ∀ b,
    h.length ≤ b → W b = true) (a_0 : Int) (b_1 : Int) (cap_0 : List Call) (r : Bool) (hF : impl_IsSequential_1 a_0 b_1 cap_0 = some r) : Ret E W 50 [.int .i64 a_0, .int .i64 b_1,
    .ref ((cL Call.cells) cap_0) 0] h (fun v h' => cut h.length h' E.sz false 9 v = some (.bool r)) := by
  refine Ret.of (fn := x50) rfl (Run.of ?_)
  unfold impl_IsSequential_1 at hF
  have zf0 : argFr [.int .i64 a_0, .int .i64 b_1, .ref ((cL Call.cells) cap_0) 0] 0 = .int .i64 a_0 := rfl
  have zf1 : argFr [.int .i64 a_0, .int .i64 b_1, .ref ((cL Call.cells) cap_0) 0] 1 = .int .i64 b_1 := rfl
  have zf2 : argFr [.int .i64 a_0, .int .i64 b_1, .ref ((cL Call.cells) cap_0) 0] 2 = .ref ((cL Call.cells) cap_0) 0 := rfl
  generalize argFr [.int .i64 a_0, .int .i64 b_1, .ref ((cL Call.cells) cap_0) 0] = fr0 at zf0 zf1 zf2 ⊢
  have hS : Sep h h.length [] := Sep.nil h
  simp only [x50, run_seq, run_reg, run_mv, run_ops_nil, x50_1, run_draw, zf2, d4_ld, put_at, put_no, ev_t, ev_c, reduceIte, Nat.reduceEqDiff, List.map_cons, List.map_nil]
  refine put1d_eq (v := lst Call.cells cap_0) rfl ?_
  obtain ⟨x1, hx2, hF3⟩ := bind_some' hF
  simp only [zf0, d4_mv, put1d_some, d4_ia, put_at, put_no, ev_t, ev_c, reduceIte, Nat.reduceEqDiff, List.map_cons, List.map_nil]
  refine put1d_eq (v := .ref (Call.cells x1) 0) (xia_lst hx2 rfl) ?_
  simp only [d4_fa, put1d_some, Nat.reduceAdd, Nat.zero_add, Nat.add_zero, xfa_ref, d4_ld, put_at, put_no, ev_t, ev_c, reduceIte, Nat.reduceEqDiff, List.map_cons, List.map_nil]
  refine put1d_eq (v := .int .i64 x1.Client) rfl ?_
  simp only [zf2, d4_ld, put_at, put_no, ev_t, ev_c, reduceIte, Nat.reduceEqDiff, List.map_cons, List.map_nil]
  refine put1d_eq (v := lst Call.cells cap_0) rfl ?_
  obtain ⟨x4, hx5, hF6⟩ := bind_some' hF3
  simp only [zf1, d4_mv, put1d_some, d4_ia, put_at, put_no, ev_t, ev_c, reduceIte, Nat.reduceEqDiff, List.map_cons, List.map_nil]
  refine put1d_eq (v := .ref (Call.cells x4) 0) (xia_lst hx5 rfl) ?_
  simp only [d4_fa, put1d_some, Nat.reduceAdd, Nat.zero_add, Nat.add_zero, xfa_ref, d4_ld, put_at, put_no, ev_t, ev_c, reduceIte, Nat.reduceEqDiff, List.map_cons, List.map_nil]
  refine put1d_eq (v := .int .i64 x4.Client) rfl ?_
  simp only [d4_bin, put1d_some, xneq, d4_mv, put_at, put_no, ev_t, ev_c, reduceIte, Nat.reduceEqDiff, List.map_cons, List.map_nil]
  obtain ⟨v10, hx11, hF12⟩ := bind_some' hF6
  refine draw_j 12 (fun fr' h' => Sep h' h.length ([]) ∧ fr' 29 = .bool v10) rfl (fun Q7 hN8 => ?_) ?_
  · simp only [List.take_succ_cons, List.take_zero]
    simp only [run_guardd (g := 17), put_at, put_no, ev_t, ev_c, reduceIte, Nat.reduceEqDiff, List.map_cons, List.map_nil]
    refine guardd_split (t := (decide (x1.Client ≠ x4.Client))) (fun hg9 => ?_) (fun hg9 => ?_)
    · rw [iteT hg9] at hx11
      simp only [hg9, run_guardd (g := 17), guardd_off', d4_pick, put1d_some, xpick_t, run_draw_nil, run_nil, put_at, put_no, ev_t, ev_c, reduceIte, Nat.reduceEqDiff,
          List.map_cons, List.map_nil]
      have e13 := some_inj hx11
      exact hN8 _ _ ⟨hS, by rw [← e13]; simp only [put_at, put_no, ev_t, ev_c, reduceIte, Nat.reduceEqDiff, List.map_cons, List.map_nil]⟩
    · rw [iteF hg9] at hx11
      simp only [hg9, run_guardd (g := 17), guardd_false, zf2, d4_ld, put_at, put_no, ev_t, ev_c, reduceIte, Nat.reduceEqDiff, List.map_cons, List.map_nil]
      refine put1d_eq (v := lst Call.cells cap_0) rfl ?_
      obtain ⟨x14, hx15, hF16⟩ := bind_some' hx11
      simp only [hg9, run_guardd (g := 17), guardd_false, zf0, d4_mv, put1d_some, d4_ia, put_at, put_no, ev_t, ev_c, reduceIte, Nat.reduceEqDiff, List.map_cons, List.map_nil]
      refine put1d_eq (v := .ref (Call.cells x14) 0) (xia_lst hx15 rfl) ?_
      simp only [hg9, run_guardd (g := 17), guardd_false, d4_fa, put1d_some, Nat.reduceAdd, Nat.zero_add, Nat.add_zero, xfa_ref, d4_ld, put_at, put_no, ev_t, ev_c, reduceIte,
          Nat.reduceEqDiff, List.map_cons, List.map_nil]
      refine put1d_eq (v := .int .i64 x14.Begin) rfl ?_
      simp only [hg9, run_guardd (g := 17), guardd_false, zf2, d4_ld, put_at, put_no, ev_t, ev_c, reduceIte, Nat.reduceEqDiff, List.map_cons, List.map_nil]
      refine put1d_eq (v := lst Call.cells cap_0) rfl ?_
      obtain ⟨x17, hx18, hF19⟩ := bind_some' hF16
      simp only [hg9, run_guardd (g := 17), guardd_false, zf1, d4_mv, put1d_some, d4_ia, put_at, put_no, ev_t, ev_c, reduceIte, Nat.reduceEqDiff, List.map_cons, List.map_nil]
      refine put1d_eq (v := .ref (Call.cells x17) 0) (xia_lst hx18 rfl) ?_
      simp only [hg9, run_guardd (g := 17), guardd_false, d4_fa, put1d_some, Nat.reduceAdd, Nat.zero_add, Nat.add_zero, xfa_ref, d4_ld, put_at, put_no, ev_t, ev_c, reduceIte,
          Nat.reduceEqDiff, List.map_cons, List.map_nil]
      refine put1d_eq (v := .int .i64 x17.Begin) rfl ?_
      simp only [hg9, run_guardd (g := 17), guardd_false, d4_bin, put1d_some, xlss, d4_pick, xpick_f, run_draw_nil, run_nil, put_at, put_no, ev_t, ev_c, reduceIte,
          Nat.reduceEqDiff, List.map_cons, List.map_nil]
      have e20 := some_inj hF19
      exact hN8 _ _ ⟨hS, by rw [← e20]; simp only [put_at, put_no, ev_t, ev_c, reduceIte, Nat.reduceEqDiff, List.map_cons, List.map_nil]⟩
  · rintro fr21 h23 ⟨hS24, f22⟩
    simp only [List.drop_succ_cons, List.drop_zero]
    simp only [f22, d4_mv, put1d_some, run_draw_nil, run_ret, put_at, put_no, ev_t, ev_c, reduceIte, Nat.reduceEqDiff, List.map_cons, List.map_nil]
    have he := some_inj hF12
    subst he
    simp only [end_ret1, put_at, put_no, ev_t, ev_c, reduceIte, Nat.reduceEqDiff, List.map_cons, List.map_nil]
    exact rfl
theorem impl_IsSequential_x {W : Nat → Bool} {h : Heap} (hW : ∀ b,
    h.length ≤ b → W b = true) (k : Nat) (l_0 : List Call) (r : Bool × Bool) (hF : impl_IsSequential k l_0 = some r) : Ret E W 19 [lst Call.cells l_0] h
    (fun v h' => cut h.length h' E.sz false 9 v = some (.tup [.bool r.1, .bool r.2])) := by
  refine Ret.of (fn := x19) rfl (Run.of ?_)
  unfold impl_IsSequential at hF
  have zf0 : argFr [lst Call.cells l_0] 0 = lst Call.cells l_0 := rfl
  generalize argFr [lst Call.cells l_0] = fr0 at zf0 ⊢
  have hS : Sep h h.length [] := Sep.nil h
  simp only [x19, run_seq, run_reg, run_box, zf0, put_at, put_no, ev_t, ev_c, reduceIte, Nat.reduceEqDiff, List.map_cons, List.map_nil]
  refine put2_boxC (cs := [lst Call.cells l_0]) hS rfl rfl rfl (fun b1 h2 hS3 => ?_)
  simp only [run_mv, run_ops_nil, put_at, put_no, ev_t, ev_c, reduceIte, Nat.reduceEqDiff, List.map_cons, List.map_nil]
  refine frz_stepC hS3 hW (by simp only [put_at, put_no, ev_t, ev_c, reduceIte, Nat.reduceEqDiff, List.map_cons, List.map_nil]) (fun h5 hS6 => ?_)
  simp only [run_frz_nil, x19_3, run_seq, run_reg, run_ld, put_at, put_no, ev_t, ev_c, reduceIte, Nat.reduceEqDiff, List.map_cons, List.map_nil]
  refine put1_eq (v := lst Call.cells l_0) rfl ?_
  obtain ⟨v7, hx8, hF9⟩ := bind_some' hF
  simp only [run_call, put_at, put_no, ev_t, ev_c, reduceIte, Nat.reduceEqDiff, List.map_cons, List.map_nil]
  refine call1 rfl (mapM1 snap_lst mapM0) (impl_areCalls_x (fun b hb => decide_eq_true hb) l_0 v7 hx8) ?_
  simp only [run_un, put1_some, xnot, run_ops_nil, x19_1, run_cond, put_at, put_no, ev_t, ev_c, reduceIte, Nat.reduceEqDiff, List.map_cons, List.map_nil]
  refine cond_split (t := (!v7)) (fun hc10 => ?_) (fun hc10 => ?_)
  · rw [iteT hc10] at hF9
    simp only [run_seq, run_reg, run_mv, run_ops_nil, run_ret, put_at, put_no, ev_t, ev_c, reduceIte, Nat.reduceEqDiff, List.map_cons, List.map_nil]
    have he := some_inj hF9
    subst he
    simp only [end_ret2, put_at, put_no, ev_t, ev_c, reduceIte, Nat.reduceEqDiff, List.map_cons, List.map_nil]
    exact cut_tup (mapM1 rfl (mapM1 rfl mapM0))
  · rw [iteF hc10] at hF9
    simp only [run_skip, x19_2, run_seq, run_reg, run_ld, put_at, put_no, ev_t, ev_c, reduceIte, Nat.reduceEqDiff, List.map_cons, List.map_nil]
    refine put1_eq (v := lst Call.cells l_0) rfl ?_
    obtain ⟨v11, hx12, hF13⟩ := bind_some' hF9
    simp only [run_mkF, run_call, put_at, put_no, ev_t, ev_c, reduceIte, Nat.reduceEqDiff, List.map_cons, List.map_nil]
    refine call2 rfl hS6 (mapM1 snap_lst (mapM1 snap_fn mapM0)) (impl_orderFor_x (fun b hb => decide_eq_true hb) k l_0 (g1 := 50) (caps1 := [.ref [lst Call.cells l_0] 0]) rfl
        (fun a0 a1 => impl_IsSequential_1 a0 a1 l_0) (fun W h hW a0 a1 r hr => impl_IsSequential_1_x hW a0 a1 l_0 r hr) v11 hx12) ?_
    rintro _ h18 ⟨v14, c15, rfl, hv16, hS19⟩
    refine ⟨_, free_t (all_c (free2_1 (SlF.free1 hv16)) (all_c rfl all_n)), hS19, (pf_app (SlF.pf hv16 (fun _ => rfl)) pf_nil), fun h20 hS21 => ?_⟩
    have hS22 : Sep h20 h.length (c15 ++ ([])) := by simpa only [List.append_assoc, List.nil_append] using hS21
    simp only [run_mv, run_ext, put1_some, xext_0, xext_1, run_ops_nil, run_seq, run_reg, run_ret, put_at, put_no, ev_t, ev_c, reduceIte, Nat.reduceEqDiff, List.map_cons,
        List.map_nil]
    have he := some_inj hF13
    subst he
    simp only [end_ret2, put_at, put_no, ev_t, ev_c, reduceIte, Nat.reduceEqDiff, List.map_cons, List.map_nil]
    exact cut_tup (mapM1 rfl (mapM1 rfl mapM0))
theorem spec_IsLinear_x {W : Nat → Bool} {h : Heap} (hW : ∀ b,
    h.length ≤ b → W b = true) (k : Nat) (l_0 : List Call) (r : Bool × Bool) (hF : spec_IsLinear k l_0 = some r) : Ret E W 20 [lst Call.cells l_0] h
    (fun v h' => cut h.length h' E.sz false 9 v = some (.tup [.bool r.1, .bool r.2])) := by
  refine Ret.of (fn := x20) rfl (Run.of ?_)
  unfold spec_IsLinear at hF
  have zf0 : argFr [lst Call.cells l_0] 0 = lst Call.cells l_0 := rfl
  generalize argFr [lst Call.cells l_0] = fr0 at zf0 ⊢
  have hS : Sep h h.length [] := Sep.nil h
  obtain ⟨v1, hx2, hF3⟩ := bind_some' hF
  simp only [x20, run_seq, run_reg, run_mv, run_ops_nil, x20_3, zf0, run_call, put_at, put_no, ev_t, ev_c, reduceIte, Nat.reduceEqDiff, List.map_cons, List.map_nil]
  refine call1 rfl (mapM1 snap_lst mapM0) (spec_GoodCalls_x (fun b hb => decide_eq_true hb) l_0 v1 hx2) ?_
  simp only [run_un, put1_some, xnot, run_ops_nil, x20_1, run_cond, put_at, put_no, ev_t, ev_c, reduceIte, Nat.reduceEqDiff, List.map_cons, List.map_nil]
  refine cond_split (t := (!v1)) (fun hc4 => ?_) (fun hc4 => ?_)
  · rw [iteT hc4] at hF3
    simp only [run_seq, run_reg, run_mv, run_ops_nil, run_ret, put_at, put_no, ev_t, ev_c, reduceIte, Nat.reduceEqDiff, List.map_cons, List.map_nil]
    have he := some_inj hF3
    subst he
    simp only [end_ret2, put_at, put_no, ev_t, ev_c, reduceIte, Nat.reduceEqDiff, List.map_cons, List.map_nil]
    exact cut_tup (mapM1 rfl (mapM1 rfl mapM0))
  · rw [iteF hc4] at hF3
    obtain ⟨v5, hx6, hF7⟩ := bind_some' hF3
    simp only [run_skip, x20_2, run_seq, run_reg, zf0, run_mv, run_call, put_at, put_no, ev_t, ev_c, reduceIte, Nat.reduceEqDiff, List.map_cons, List.map_nil]
    refine call0 rfl (spec_l15Find_x hW k l_0 .nil [] [] SlF.nil false v5 hx6 hS) ?_
    rintro v8 h12 ⟨_, c9, rfl, hv10, hS13⟩
    simp only [run_len, put1_some, SlF.plen hv10, zf0, run_mv, xlen_lst, run_bin, xeql, run_ops_nil, run_ret, put_at, put_no, ev_t, ev_c, reduceIte, Nat.reduceEqDiff,
        List.map_cons, List.map_nil]
    have he := some_inj hF7
    subst he
    simp only [end_ret2, put_at, put_no, ev_t, ev_c, reduceIte, Nat.reduceEqDiff, List.map_cons, List.map_nil]
    exact cut_tup (mapM1 rfl (mapM1 rfl mapM0))
theorem impl_byTime_1_x {W : Nat → Bool} {h : Heap} (hW : ∀ b,
    h.length ≤ b → W b = true) (a_0 : Int) (b_1 : Int) (cap_0 : List Call) (r : Bool) (hF : impl_byTime_1 a_0 b_1 cap_0 = some r) : Ret E W 69 [.int .i64 a_0, .int .i64 b_1,
    .ref ((cL Call.cells) cap_0) 0] h (fun v h' => cut h.length h' E.sz false 9 v = some (.bool r)) := by
  refine Ret.of (fn := x69) rfl (Run.of ?_)
  unfold impl_byTime_1 at hF
  have zf0 : argFr [.int .i64 a_0, .int .i64 b_1, .ref ((cL Call.cells) cap_0) 0] 0 = .int .i64 a_0 := rfl
  have zf1 : argFr [.int .i64 a_0, .int .i64 b_1, .ref ((cL Call.cells) cap_0) 0] 1 = .int .i64 b_1 := rfl
  have zf2 : argFr [.int .i64 a_0, .int .i64 b_1, .ref ((cL Call.cells) cap_0) 0] 2 = .ref ((cL Call.cells) cap_0) 0 := rfl
  generalize argFr [.int .i64 a_0, .int .i64 b_1, .ref ((cL Call.cells) cap_0) 0] = fr0 at zf0 zf1 zf2 ⊢
  have hS : Sep h h.length [] := Sep.nil h
  simp only [x69, run_seq, run_reg, run_mv, run_ops_nil, x69_1, run_draw, zf2, d4_ld, put_at, put_no, ev_t, ev_c, reduceIte, Nat.reduceEqDiff, List.map_cons, List.map_nil]
  refine put1d_eq (v := lst Call.cells cap_0) rfl ?_
  obtain ⟨x1, hx2, hF3⟩ := bind_some' hF
  simp only [zf1, d4_mv, put1d_some, d4_ia, put_at, put_no, ev_t, ev_c, reduceIte, Nat.reduceEqDiff, List.map_cons, List.map_nil]
  refine put1d_eq (v := .ref (Call.cells x1) 0) (xia_lst hx2 rfl) ?_
  simp only [d4_fa, put1d_some, Nat.reduceAdd, Nat.zero_add, Nat.add_zero, xfa_ref, d4_ld, put_at, put_no, ev_t, ev_c, reduceIte, Nat.reduceEqDiff, List.map_cons, List.map_nil]
  refine put1d_eq (v := .int .i64 x1.End) rfl ?_
  simp only [zf2, d4_ld, put_at, put_no, ev_t, ev_c, reduceIte, Nat.reduceEqDiff, List.map_cons, List.map_nil]
  refine put1d_eq (v := lst Call.cells cap_0) rfl ?_
  obtain ⟨x4, hx5, hF6⟩ := bind_some' hF3
  simp only [zf0, d4_mv, put1d_some, d4_ia, put_at, put_no, ev_t, ev_c, reduceIte, Nat.reduceEqDiff, List.map_cons, List.map_nil]
  refine put1d_eq (v := .ref (Call.cells x4) 0) (xia_lst hx5 rfl) ?_
  simp only [d4_fa, put1d_some, Nat.reduceAdd, Nat.zero_add, Nat.add_zero, xfa_ref, d4_ld, put_at, put_no, ev_t, ev_c, reduceIte, Nat.reduceEqDiff, List.map_cons, List.map_nil]
  refine put1d_eq (v := .int .i64 x4.Begin) rfl ?_
  simp only [d4_bin, put1d_some, xgtr, d4_mv, run_draw_nil, run_ret, put_at, put_no, ev_t, ev_c, reduceIte, Nat.reduceEqDiff, List.map_cons, List.map_nil]
  have he := some_inj hF6
  subst he
  simp only [end_ret1, put_at, put_no, ev_t, ev_c, reduceIte, Nat.reduceEqDiff, List.map_cons, List.map_nil]
  exact rfl
theorem impl_byTime_x {W : Nat → Bool} {h : Heap} (hW : ∀ b,
    h.length ≤ b → W b = true) (l_0 : List Call) : Ret E W 51 [lst Call.cells l_0] h (fun v h' => cut h.length h' E.sz true 9 v = some (.fn 69 [.ref [lst Call.cells l_0] 0])) := by
  refine Ret.of (fn := x51) rfl (Run.of ?_)
  have zf0 : argFr [lst Call.cells l_0] 0 = lst Call.cells l_0 := rfl
  generalize argFr [lst Call.cells l_0] = fr0 at zf0 ⊢
  have hS : Sep h h.length [] := Sep.nil h
  simp only [x51, run_seq, run_reg, run_box, zf0, put_at, put_no, ev_t, ev_c, reduceIte, Nat.reduceEqDiff, List.map_cons, List.map_nil]
  refine put2_boxC (cs := [lst Call.cells l_0]) hS rfl rfl rfl (fun b1 h2 hS3 => ?_)
  simp only [run_mv, run_ops_nil, put_at, put_no, ev_t, ev_c, reduceIte, Nat.reduceEqDiff, List.map_cons, List.map_nil]
  refine frz_stepC hS3 hW (by simp only [put_at, put_no, ev_t, ev_c, reduceIte, Nat.reduceEqDiff, List.map_cons, List.map_nil]) (fun h5 hS6 => ?_)
  simp only [run_frz_nil, run_seq, run_reg, run_mkF, run_mv, run_ops_nil, run_ret, put_at, put_no, ev_t, ev_c, reduceIte, Nat.reduceEqDiff, List.map_cons, List.map_nil]
  simp only [end_ret1, put_at, put_no, ev_t, ev_c, reduceIte, Nat.reduceEqDiff, List.map_cons, List.map_nil]
  exact (cut_fn (mapM1 (cut_refk (mapM1 (cut_lst (fun _ => rfl)) mapM0)) mapM0))
theorem impl_IsLinear_x {W : Nat → Bool} {h : Heap} (hW : ∀ b,
    h.length ≤ b → W b = true) (k : Nat) (l_0 : List Call) (r : Bool × Bool) (hF : impl_IsLinear k l_0 = some r) : Ret E W 21 [lst Call.cells l_0] h
    (fun v h' => cut h.length h' E.sz false 9 v = some (.tup [.bool r.1, .bool r.2])) := by
  refine Ret.of (fn := x21) rfl (Run.of ?_)
  unfold impl_IsLinear at hF
  have zf0 : argFr [lst Call.cells l_0] 0 = lst Call.cells l_0 := rfl
  generalize argFr [lst Call.cells l_0] = fr0 at zf0 ⊢
  have hS : Sep h h.length [] := Sep.nil h
  obtain ⟨v1, hx2, hF3⟩ := bind_some' hF
  simp only [x21, run_seq, run_reg, run_mv, run_ops_nil, x21_3, zf0, run_call, put_at, put_no, ev_t, ev_c, reduceIte, Nat.reduceEqDiff, List.map_cons, List.map_nil]
  refine call1 rfl (mapM1 snap_lst mapM0) (impl_areCalls_x (fun b hb => decide_eq_true hb) l_0 v1 hx2) ?_
  simp only [run_un, put1_some, xnot, run_ops_nil, x21_1, run_cond, put_at, put_no, ev_t, ev_c, reduceIte, Nat.reduceEqDiff, List.map_cons, List.map_nil]
  refine cond_split (t := (!v1)) (fun hc4 => ?_) (fun hc4 => ?_)
  · rw [iteT hc4] at hF3
    simp only [run_seq, run_reg, run_mv, run_ops_nil, run_ret, put_at, put_no, ev_t, ev_c, reduceIte, Nat.reduceEqDiff, List.map_cons, List.map_nil]
    have he := some_inj hF3
    subst he
    simp only [end_ret2, put_at, put_no, ev_t, ev_c, reduceIte, Nat.reduceEqDiff, List.map_cons, List.map_nil]
    exact cut_tup (mapM1 rfl (mapM1 rfl mapM0))
  · rw [iteF hc4] at hF3
    simp only [run_skip, x21_2, run_seq, run_reg, zf0, run_mv, run_call, put_at, put_no, ev_t, ev_c, reduceIte, Nat.reduceEqDiff, List.map_cons, List.map_nil]
    refine call3 rfl (impl_byTime_x (w3 hS hW) l_0) ?_
    obtain ⟨v5, hx6, hF7⟩ := bind_some' hF3
    simp only [run_call, put_at, put_no, ev_t, ev_c, reduceIte, Nat.reduceEqDiff, List.map_cons, List.map_nil]
    refine call2 rfl hS (mapM1 snap_lst (mapM1 snap_fn mapM0)) (impl_orderFor_x (fun b hb => decide_eq_true hb) k l_0 (g1 := 69) (caps1 := [.ref [lst Call.cells l_0] 0]) rfl
        (fun a0 a1 => impl_byTime_1 a0 a1 l_0) (fun W h hW a0 a1 r hr => impl_byTime_1_x hW a0 a1 l_0 r hr) v5 hx6) ?_
    rintro _ h12 ⟨v8, c9, rfl, hv10, hS13⟩
    refine ⟨_, free_t (all_c (free2_1 (SlF.free1 hv10)) (all_c rfl all_n)), hS13, (pf_app (SlF.pf hv10 (fun _ => rfl)) pf_nil), fun h14 hS15 => ?_⟩
    have hS16 : Sep h14 h.length (c9 ++ ([])) := by simpa only [List.append_assoc, List.nil_append] using hS15
    simp only [run_mv, run_ext, put1_some, xext_0, xext_1, run_ops_nil, run_seq, run_reg, run_ret, put_at, put_no, ev_t, ev_c, reduceIte, Nat.reduceEqDiff, List.map_cons,
        List.map_nil]
    have he := some_inj hF7
    subst he
    simp only [end_ret2, put_at, put_no, ev_t, ev_c, reduceIte, Nat.reduceEqDiff, List.map_cons, List.map_nil]
    exact cut_tup (mapM1 rfl (mapM1 rfl mapM0))
theorem spec_OrderFor_x {W : Nat → Bool} {h : Heap} (hW : ∀ b,
    h.length ≤ b → W b = true) (k : Nat) (l_0 : List Call) (r : (List Int) × Bool) (hF : spec_OrderFor k l_0 = some r) : Ret E W 22 [lst Call.cells l_0] h (fun v h' => ∃ rv0 rc0,
    v = .tup [rv0, .bool r.2] ∧ SlF cI 1 3 rv0 r.1 rc0 ∧ Sep h' h.length (rc0 ++ ([]))) := by
  refine Ret.of (fn := x22) rfl (Run.of ?_)
  unfold spec_OrderFor at hF
  have zf0 : argFr [lst Call.cells l_0] 0 = lst Call.cells l_0 := rfl
  generalize argFr [lst Call.cells l_0] = fr0 at zf0 ⊢
  have hS : Sep h h.length [] := Sep.nil h
  obtain ⟨v1, hx2, hF3⟩ := bind_some' hF
  simp only [x22, run_seq, run_reg, run_mv, run_ops_nil, x22_5, zf0, run_call, put_at, put_no, ev_t, ev_c, reduceIte, Nat.reduceEqDiff, List.map_cons, List.map_nil]
  refine call1 rfl (mapM1 snap_lst mapM0) (spec_GoodCalls_x (fun b hb => decide_eq_true hb) l_0 v1 hx2) ?_
  simp only [run_un, put1_some, xnot, run_ops_nil, x22_1, run_cond, put_at, put_no, ev_t, ev_c, reduceIte, Nat.reduceEqDiff, List.map_cons, List.map_nil]
  refine cond_split (t := (!v1)) (fun hc4 => ?_) (fun hc4 => ?_)
  · rw [iteT hc4] at hF3
    simp only [run_seq, run_reg, run_mv, run_ops_nil, run_ret, put_at, put_no, ev_t, ev_c, reduceIte, Nat.reduceEqDiff, List.map_cons, List.map_nil]
    have he := some_inj hF3
    subst he
    simp only [end_ret2, put_at, put_no, ev_t, ev_c, reduceIte, Nat.reduceEqDiff, List.map_cons, List.map_nil]
    exact ⟨.nil, [], by first | trivial | rfl, SlF.nil, hS⟩
  · rw [iteF hc4] at hF3
    obtain ⟨v5, hx6, hF7⟩ := bind_some' hF3
    simp only [run_skip, x22_4, run_seq, run_reg, zf0, run_mv, run_call, put_at, put_no, ev_t, ev_c, reduceIte, Nat.reduceEqDiff, List.map_cons, List.map_nil]
    refine call0 rfl (spec_l15Find_x hW k l_0 .nil [] [] SlF.nil false v5 hx6 hS) ?_
    rintro v8 h12 ⟨_, c9, rfl, hv10, hS13⟩
    simp only [run_mv, run_ops_nil, x22_3, run_seq, run_reg, run_len, put1_some, SlF.plen hv10, zf0, xlen_lst, run_bin, xneq, x22_2, run_cond, put_at, put_no, ev_t, ev_c,
        reduceIte, Nat.reduceEqDiff, List.map_cons, List.map_nil]
    refine cond_split (t := (decide ((List.length v5 : Int) ≠ (List.length l_0 : Int)))) (fun hc14 => ?_) (fun hc14 => ?_)
    · rw [iteT hc14] at hF7
      simp only [run_seq, run_reg, run_mv, run_ops_nil, run_ret, put_at, put_no, ev_t, ev_c, reduceIte, Nat.reduceEqDiff, List.map_cons, List.map_nil]
      have he := some_inj hF7
      subst he
      simp only [end_ret2, put_at, put_no, ev_t, ev_c, reduceIte, Nat.reduceEqDiff, List.map_cons, List.map_nil]
      exact ⟨.nil, [], by first | trivial | rfl, SlF.nil, (Sep.dc (hS13))⟩
    · rw [iteF hc14] at hF7
      simp only [run_skip, run_seq, run_reg, run_mv, run_ops_nil, run_ret, put_at, put_no, ev_t, ev_c, reduceIte, Nat.reduceEqDiff, List.map_cons, List.map_nil]
      have he := some_inj hF7
      subst he
      simp only [end_ret2, put_at, put_no, ev_t, ev_c, reduceIte, Nat.reduceEqDiff, List.map_cons, List.map_nil]
      exact ⟨v8, c9, by first | trivial | rfl, hv10, hS13⟩
theorem impl_OrderFor_x {W : Nat → Bool} {h : Heap} (hW : ∀ b,
    h.length ≤ b → W b = true) (k : Nat) (l_0 : List Call) (r : (List Int) × Bool) (hF : impl_OrderFor k l_0 = some r) : Ret E W 23 [lst Call.cells l_0] h (fun v h' => ∃ rv0 rc0,
    v = .tup [rv0, .bool r.2] ∧ SlF cI 1 3 rv0 r.1 rc0 ∧ Sep h' h.length (rc0 ++ ([]))) := by
  refine Ret.of (fn := x23) rfl (Run.of ?_)
  unfold impl_OrderFor at hF
  have zf0 : argFr [lst Call.cells l_0] 0 = lst Call.cells l_0 := rfl
  generalize argFr [lst Call.cells l_0] = fr0 at zf0 ⊢
  have hS : Sep h h.length [] := Sep.nil h
  obtain ⟨v1, hx2, hF3⟩ := bind_some' hF
  simp only [x23, run_seq, run_reg, run_mv, run_ops_nil, x23_3, zf0, run_call, put_at, put_no, ev_t, ev_c, reduceIte, Nat.reduceEqDiff, List.map_cons, List.map_nil]
  refine call1 rfl (mapM1 snap_lst mapM0) (impl_areCalls_x (fun b hb => decide_eq_true hb) l_0 v1 hx2) ?_
  simp only [run_un, put1_some, xnot, run_ops_nil, x23_1, run_cond, put_at, put_no, ev_t, ev_c, reduceIte, Nat.reduceEqDiff, List.map_cons, List.map_nil]
  refine cond_split (t := (!v1)) (fun hc4 => ?_) (fun hc4 => ?_)
  · rw [iteT hc4] at hF3
    simp only [run_seq, run_reg, run_mv, run_ops_nil, run_ret, put_at, put_no, ev_t, ev_c, reduceIte, Nat.reduceEqDiff, List.map_cons, List.map_nil]
    have he := some_inj hF3
    subst he
    simp only [end_ret2, put_at, put_no, ev_t, ev_c, reduceIte, Nat.reduceEqDiff, List.map_cons, List.map_nil]
    exact ⟨.nil, [], by first | trivial | rfl, SlF.nil, hS⟩
  · rw [iteF hc4] at hF3
    simp only [run_skip, x23_2, run_seq, run_reg, zf0, run_mv, run_call, put_at, put_no, ev_t, ev_c, reduceIte, Nat.reduceEqDiff, List.map_cons, List.map_nil]
    refine call3 rfl (impl_byTime_x (w3 hS hW) l_0) ?_
    obtain ⟨v5, hx6, hF7⟩ := bind_some' hF3
    simp only [run_call, put_at, put_no, ev_t, ev_c, reduceIte, Nat.reduceEqDiff, List.map_cons, List.map_nil]
    refine call2 rfl hS (mapM1 snap_lst (mapM1 snap_fn mapM0)) (impl_orderFor_x (fun b hb => decide_eq_true hb) k l_0 (g1 := 69) (caps1 := [.ref [lst Call.cells l_0] 0]) rfl
        (fun a0 a1 => impl_byTime_1 a0 a1 l_0) (fun W h hW a0 a1 r hr => impl_byTime_1_x hW a0 a1 l_0 r hr) v5 hx6) ?_
    rintro _ h12 ⟨v8, c9, rfl, hv10, hS13⟩
    refine ⟨_, free_t (all_c (free2_1 (SlF.free1 hv10)) (all_c rfl all_n)), hS13, (pf_app (SlF.pf hv10 (fun _ => rfl)) pf_nil), fun h14 hS15 => ?_⟩
    have hS16 : Sep h14 h.length (c9 ++ ([])) := by simpa only [List.append_assoc, List.nil_append] using hS15
    simp only [run_ext, put1_some, xext_0, xext_1, run_mv, run_ops_nil, run_ret, put_at, put_no, ev_t, ev_c, reduceIte, Nat.reduceEqDiff, List.map_cons, List.map_nil]
    have he := some_inj hF7
    subst he
    simp only [end_ret2, put_at, put_no, ev_t, ev_c, reduceIte, Nat.reduceEqDiff, List.map_cons, List.map_nil]
    exact ⟨v8, c9, by first | trivial | rfl, hv10, hS16⟩
theorem cmp_isNaN_int_x {W : Nat → Bool} {h : Heap} (hW : ∀ b,
    h.length ≤ b → W b = true) (x_0 : Int) (r : Bool) (hF : some (cmp_isNaN_int x_0) = some r) : Ret E W 93 [.int .i64 x_0] h (fun v h' => cut h.length h' E.sz false 9 v = some
    (.bool r)) := by
  refine Ret.of (fn := x93) rfl (Run.of ?_)
  unfold cmp_isNaN_int at hF
  have zf0 : argFr [.int .i64 x_0] 0 = .int .i64 x_0 := rfl
  generalize argFr [.int .i64 x_0] = fr0 at zf0 ⊢
  have hS : Sep h h.length [] := Sep.nil h
  simp only [x93, run_seq, run_reg, run_mv, run_ops_nil, x93_1, zf0, run_bin, put1_some, xneq, run_ret, put_at, put_no, ev_t, ev_c, reduceIte, Nat.reduceEqDiff, List.map_cons,
      List.map_nil]
  have he := some_inj hF
  subst he
  simp only [end_ret1, put_at, put_no, ev_t, ev_c, reduceIte, Nat.reduceEqDiff, List.map_cons, List.map_nil]
  exact rfl
theorem cmp_Less_int_x {W : Nat → Bool} {h : Heap} (hW : ∀ b,
    h.length ≤ b → W b = true) (x_0 : Int) (y_1 : Int) (r : Bool) (hF : some (cmp_Less_int x_0 y_1) = some r) : Ret E W 83 [.int .i64 x_0,
    .int .i64 y_1] h (fun v h' => cut h.length h' E.sz false 9 v = some (.bool r)) := by
  refine Ret.of (fn := x83) rfl (Run.of ?_)
  unfold cmp_Less_int at hF
  have zf0 : argFr [.int .i64 x_0, .int .i64 y_1] 0 = .int .i64 x_0 := rfl
  have zf1 : argFr [.int .i64 x_0, .int .i64 y_1] 1 = .int .i64 y_1 := rfl
  generalize argFr [.int .i64 x_0, .int .i64 y_1] = fr0 at zf0 zf1 ⊢
  have hS : Sep h h.length [] := Sep.nil h
  simp only [x83, run_seq, run_reg, run_mv, run_ops_nil, x83_1, zf0, run_call, put_at, put_no, ev_t, ev_c, reduceIte, Nat.reduceEqDiff, List.map_cons, List.map_nil]
  refine call1 rfl (mapM1 snap_int mapM0) (cmp_isNaN_int_x (fun b hb => decide_eq_true hb) x_0 _ rfl) ?_
  simp only [run_mv, put_at, put_no, ev_t, ev_c, reduceIte, Nat.reduceEqDiff, List.map_cons, List.map_nil]
  refine ops_j 4 (fun fr' h' => Sep h' h.length ([]) ∧ fr' 11 = .bool ((cmp_isNaN_int x_0) && (!(cmp_isNaN_int y_1))) ∧ fr' 0 = .int .i64 x_0 ∧ fr' 1 = .int .i64 y_1)
      (fun Q1 hN2 => ?_) ?_
  · simp only [List.take_succ_cons, List.take_zero]
    simp only [run_guard (g := 7), put_at, put_no, ev_t, ev_c, reduceIte, Nat.reduceEqDiff, List.map_cons, List.map_nil]
    refine guard_split (t := (cmp_isNaN_int x_0)) (fun hg3 => ?_) (fun hg3 => ?_)
    · simp only [hg3, run_guard (g := 7), guard_true, zf1, run_mv, run_call, put_at, put_no, ev_t, ev_c, reduceIte, Nat.reduceEqDiff, List.map_cons, List.map_nil]
      refine call1 rfl (mapM1 snap_int mapM0) (cmp_isNaN_int_x (fun b hb => decide_eq_true hb) y_1 _ rfl) ?_
      simp only [hg3, run_guard (g := 7), guard_true, run_un, put1_some, xnot, run_pick, xpick_t, run_ops_nil, run_nil, put_at, put_no, ev_t, ev_c, reduceIte, Nat.reduceEqDiff,
          List.map_cons, List.map_nil]
      exact hN2 _ _ ⟨hS, by rw [andT hg3]; simp only [put_at, put_no, ev_t, ev_c, reduceIte, Nat.reduceEqDiff, List.map_cons, List.map_nil], by simp only [zf0, put_at, put_no,
          ev_t, ev_c, reduceIte, Nat.reduceEqDiff, List.map_cons, List.map_nil], by simp only [zf1, put_at, put_no, ev_t, ev_c, reduceIte, Nat.reduceEqDiff, List.map_cons,
          List.map_nil]⟩
    · simp only [hg3, run_guard (g := 7), guard_off, run_pick, put1_some, xpick_f, run_ops_nil, run_nil, put_at, put_no, ev_t, ev_c, reduceIte, Nat.reduceEqDiff, List.map_cons,
        List.map_nil]
      exact hN2 _ _ ⟨hS, by rw [andF hg3]; simp only [put_at, put_no, ev_t, ev_c, reduceIte, Nat.reduceEqDiff, List.map_cons, List.map_nil], by simp only [zf0, put_at, put_no,
          ev_t, ev_c, reduceIte, Nat.reduceEqDiff, List.map_cons, List.map_nil], by simp only [zf1, put_at, put_no, ev_t, ev_c, reduceIte, Nat.reduceEqDiff, List.map_cons,
          List.map_nil]⟩
  · rintro fr4 h8 ⟨hS9, f5, f6, f7⟩
    simp only [List.drop_succ_cons, List.drop_zero]
    simp only [f5, run_mv, put_at, put_no, ev_t, ev_c, reduceIte, Nat.reduceEqDiff, List.map_cons, List.map_nil]
    refine ops_j 4 (fun fr' h' => Sep h' h.length ([]) ∧ fr' 16 = .bool (((cmp_isNaN_int x_0) && (!(cmp_isNaN_int y_1))) || (decide (x_0 < y_1)))) (fun Q10 hN11 => ?_) ?_
    · simp only [List.take_succ_cons, List.take_zero]
      simp only [run_guard (g := 12), put_at, put_no, ev_t, ev_c, reduceIte, Nat.reduceEqDiff, List.map_cons, List.map_nil]
      refine guard_split (t := ((cmp_isNaN_int x_0) && (!(cmp_isNaN_int y_1)))) (fun hg12 => ?_) (fun hg12 => ?_)
      · simp only [hg12, run_guard (g := 12), guard_off', run_pick, put1_some, xpick_t, run_ops_nil, run_nil, put_at, put_no, ev_t, ev_c, reduceIte, Nat.reduceEqDiff,
          List.map_cons, List.map_nil]
        exact hN11 _ _ ⟨hS9, by rw [orT hg12]; simp only [put_at, put_no, ev_t, ev_c, reduceIte, Nat.reduceEqDiff, List.map_cons, List.map_nil]⟩
      · simp only [hg12, run_guard (g := 12), guard_false, f6, run_mv, f7, run_bin, put1_some, xlss, run_pick, xpick_f, run_ops_nil, run_nil, put_at, put_no, ev_t, ev_c,
          reduceIte, Nat.reduceEqDiff, List.map_cons, List.map_nil]
        exact hN11 _ _ ⟨hS9, by rw [orF hg12]; simp only [put_at, put_no, ev_t, ev_c, reduceIte, Nat.reduceEqDiff, List.map_cons, List.map_nil]⟩
    · rintro fr13 h15 ⟨hS16, f14⟩
      simp only [List.drop_succ_cons, List.drop_zero]
      simp only [f14, run_mv, run_ops_nil, run_ret, put_at, put_no, ev_t, ev_c, reduceIte, Nat.reduceEqDiff, List.map_cons, List.map_nil]
      have he := some_inj hF
      subst he
      simp only [end_ret1, put_at, put_no, ev_t, ev_c, reduceIte, Nat.reduceEqDiff, List.map_cons, List.map_nil]
      exact rfl
end Go.Proofs.Ytddkoiapboeemaa.X
namespace Go.Proofs.Ytddkoiapboeemaa.X
open Go
theorem slices_insertionSortOrdered_int_x {W : Nat → Bool} {h : Heap} {lo : Nat} {S0 : List Obj} (hW : ∀ b,
    lo ≤ b → W b = true) (k : Nat) (pv0 : XV) (pc0 : List Obj) (data_0 : List Int) (ph0 : SlF cI 1 3 pv0 data_0 pc0) (a_1 : Int) (b_2 : Int) (r : List Int)
    (hF : slices_insertionSortOrdered_int k data_0 a_1 b_2 = some r) (hS : Sep h lo (pc0 ++ (S0))) : Ret E W 77 [pv0, .int .i64 a_1, .int .i64 b_2] h (fun v h' => ∃ ic0,
    v = .tup [] ∧ SlF cI 1 3 pv0 r ic0 ∧ Sep h' lo (ic0 ++ (S0))) := by
  refine Ret.of (fn := x77) rfl (Run.of ?_)
  unfold slices_insertionSortOrdered_int at hF
  have zf0 : argFr [pv0, .int .i64 a_1, .int .i64 b_2] 0 = pv0 := rfl
  have zf1 : argFr [pv0, .int .i64 a_1, .int .i64 b_2] 1 = .int .i64 a_1 := rfl
  have zf2 : argFr [pv0, .int .i64 a_1, .int .i64 b_2] 2 = .int .i64 b_2 := rfl
  generalize argFr [pv0, .int .i64 a_1, .int .i64 b_2] = fr0 at zf0 zf1 zf2 ⊢
  simp only [x77, run_seq, run_reg, zf1, run_mv, run_bin, put1_some, xadd, run_ops_nil, put_at, put_no, ev_t, ev_c, reduceIte, Nat.reduceEqDiff, List.map_cons, List.map_nil]
  obtain ⟨oc11, hX13, hk14⟩ := jn_some hF
  simp only [x77_10]
  refine loopF_j (σ := Int × (List Int)) (fun s105 => slices_insertionSortOrdered_int_b2 k a_1 b_2 s105.1 s105.2) (fun s fr' h' => ∃ c7,
      fr' 0 = pv0 ∧ fr' 1 = .int .i64 a_1 ∧ fr' 2 = .int .i64 b_2 ∧ fr' 6 = .int .i64 s.1 ∧ SlF cI 1 3 pv0 s.2 c7 ∧ Sep h' lo (c7 ++ (S0))) hX13 ⟨pc0, by simp only [zf0, put_at,
      put_no, ev_t, ev_c, reduceIte, Nat.reduceEqDiff, List.map_cons, List.map_nil], by simp only [zf1, put_at, put_no, ev_t, ev_c, reduceIte, Nat.reduceEqDiff, List.map_cons,
      List.map_nil], by simp only [zf2, put_at, put_no, ev_t, ev_c, reduceIte, Nat.reduceEqDiff, List.map_cons, List.map_nil], by simp only [put_at, put_no, ev_t, ev_c, reduceIte,
      Nat.reduceEqDiff, List.map_cons, List.map_nil], ph0, hS⟩ (fun _ _ _ h => h) ?_ ?_
  · rintro ⟨s5, s6⟩ fr23 h24 ⟨c7, f26, f27, f28, f29, hv8, hS25⟩ oc12 hF15 hr16 Q17 hN18 hK19 hR20 hE21
    dsimp only at *
    unfold slices_insertionSortOrdered_int_b2 at hF15
    simp only [x77_8, run_seq, run_reg, f29, run_mv, f28, run_bin, put1_some, xlss, run_ops_nil, run_cond, put_at, put_no, ev_t, ev_c, reduceIte, Nat.reduceEqDiff, List.map_cons,
        List.map_nil]
    refine cond_split (t := (decide (s5 < b_2))) (fun hc31 => ?_) (fun hc31 => ?_)
    · rw [iteT hc31] at hF15
      simp only [run_skip, x77_7, run_seq, run_block, x77_6, run_reg, f29, run_mv, run_ops_nil, put_at, put_no, ev_t, ev_c, reduceIte, Nat.reduceEqDiff, List.map_cons,
          List.map_nil]
      obtain ⟨oc42, hX44, hk45⟩ := jn_some hF15
      simp only [x77_5]
      refine loopF_j (σ := Int × (List Int)) (fun s89 => slices_insertionSortOrdered_int_b1 a_1 s89.1 s89.2) (fun s fr' h' => ∃ c38,
          fr' 0 = pv0 ∧ fr' 1 = .int .i64 a_1 ∧ fr' 2 = .int .i64 b_2 ∧ fr' 6 = .int .i64 s5 ∧ fr' 7 = .int .i64 s.1 ∧ SlF cI 1 3 pv0 s.2 c38 ∧ Sep h' lo (c38 ++ (S0))) hX44 ⟨c7,
          by simp only [f26, put_at, put_no, ev_t, ev_c, reduceIte, Nat.reduceEqDiff, List.map_cons, List.map_nil], by simp only [f27, put_at, put_no, ev_t, ev_c, reduceIte,
          Nat.reduceEqDiff, List.map_cons, List.map_nil], by simp only [f28, put_at, put_no, ev_t, ev_c, reduceIte, Nat.reduceEqDiff, List.map_cons, List.map_nil],
          by simp only [f29, put_at, put_no, ev_t, ev_c, reduceIte, Nat.reduceEqDiff, List.map_cons, List.map_nil], by simp only [put_at, put_no, ev_t, ev_c, reduceIte,
          Nat.reduceEqDiff, List.map_cons, List.map_nil], hv8, hS25⟩ (fun _ _ _ h => h) ?_ ?_
      · rintro ⟨s36, s37⟩ fr54 h55 ⟨c38, f57, f58, f59, f60, f61, hv39, hS56⟩ oc43 hF46 hr47 Q48 hN49 hK50 hR51 hE52
        dsimp only at *
        unfold slices_insertionSortOrdered_int_b1 at hF46
        simp only [x77_3, run_seq, run_draw, f61, d4_mv, put1d_some, f58, d4_bin, xgtr, put_at, put_no, ev_t, ev_c, reduceIte, Nat.reduceEqDiff, List.map_cons, List.map_nil]
        simp only [run_guardd (g := 19), put_at, put_no, ev_t, ev_c, reduceIte, Nat.reduceEqDiff, List.map_cons, List.map_nil]
        refine guardd_split (t := (decide (a_1 < s36))) (fun hg63 => ?_) (fun hg63 => ?_)
        · rw [iteT hg63] at hF46
          obtain ⟨x64, hx65, hF66⟩ := bind_some' hF46
          simp only [hg63, run_guardd (g := 19), guardd_true, f57, d4_mv, put1d_some, f61, d4_ia, put_at, put_no, ev_t, ev_c, reduceIte, Nat.reduceEqDiff, List.map_cons,
              List.map_nil]
          obtain ⟨b67, hb68⟩ := SlF.isrow hv39 (geti_ne hx65)
          refine put1d_eq (SlF.ia hv39 hb68 hx65) ?_
          simp only [hg63, run_guardd (g := 19), guardd_true, d4_ld, put_at, put_no, ev_t, ev_c, reduceIte, Nat.reduceEqDiff, List.map_cons, List.map_nil]
          refine put1d_eq (v := .int .i64 x64) ((SlF.ld (o := 0) hv39 hS56 hb68 hx65 (fun _ => rfl) (Nat.le_of_ble_eq_true rfl)).trans rfl) ?_
          obtain ⟨x69, hx70, hF71⟩ := bind_some' hF66
          simp only [hg63, run_guardd (g := 19), guardd_true, f57, d4_mv, put1d_some, f61, d4_bin, xsub, d4_ia, put_at, put_no, ev_t, ev_c, reduceIte, Nat.reduceEqDiff,
              List.map_cons, List.map_nil]
          refine put1d_eq (SlF.ia hv39 hb68 hx70) ?_
          simp only [hg63, run_guardd (g := 19), guardd_true, d4_ld, put_at, put_no, ev_t, ev_c, reduceIte, Nat.reduceEqDiff, List.map_cons, List.map_nil]
          refine put1d_eq (v := .int .i64 x69) ((SlF.ld (o := 0) hv39 hS56 hb68 hx70 (fun _ => rfl) (Nat.le_of_ble_eq_true rfl)).trans rfl) ?_
          simp only [hg63, run_guardd (g := 19), guardd_true, run_d3_call, put_at, put_no, ev_t, ev_c, reduceIte, Nat.reduceEqDiff, List.map_cons, List.map_nil]
          refine call1d rfl (mapM1 snap_int (mapM1 snap_int mapM0)) (cmp_Less_int_x (fun b hb => decide_eq_true hb) x64 x69 _ rfl) ?_
          simp only [hg63, d4_pick, put1d_some, xpick_t, run_draw_nil, run_cond, put_at, put_no, ev_t, ev_c, reduceIte, Nat.reduceEqDiff, List.map_cons, List.map_nil]
          refine cond_split (t := (cmp_Less_int x64 x69)) (fun hc72 => ?_) (fun hc72 => ?_)
          · rw [iteT hc72] at hF71
            simp only [run_skip, x77_2, run_seq, run_block, x77_1, run_draw, f57, d4_mv, put1d_some, f61, d1_mv, d1_bin, xsub, d4_bin, d4_ia, put_at, put_no, ev_t, ev_c,
                reduceIte, Nat.reduceEqDiff, List.map_cons, List.map_nil]
            refine put1d_eq (SlF.ia hv39 hb68 hx70) ?_
            simp only [d4_ld, put_at, put_no, ev_t, ev_c, reduceIte, Nat.reduceEqDiff, List.map_cons, List.map_nil]
            refine put1d_eq (v := .int .i64 x69) ((SlF.ld (o := 0) hv39 hS56 hb68 hx70 (fun _ => rfl) (Nat.le_of_ble_eq_true rfl)).trans rfl) ?_
            simp only [f57, d4_mv, put1d_some, f61, d4_ia, put_at, put_no, ev_t, ev_c, reduceIte, Nat.reduceEqDiff, List.map_cons, List.map_nil]
            refine put1d_eq (SlF.ia hv39 hb68 hx65) ?_
            simp only [d4_ld, put_at, put_no, ev_t, ev_c, reduceIte, Nat.reduceEqDiff, List.map_cons, List.map_nil]
            refine put1d_eq (v := .int .i64 x64) ((SlF.ld (o := 0) hv39 hS56 hb68 hx65 (fun _ => rfl) (Nat.le_of_ble_eq_true rfl)).trans rfl) ?_
            simp only [d4_ia, put_at, put_no, ev_t, ev_c, reduceIte, Nat.reduceEqDiff, List.map_cons, List.map_nil]
            refine put1d_eq (SlF.ia hv39 hb68 hx65) ?_
            simp only [d3_st, put_at, put_no, ev_t, ev_c, reduceIte, Nat.reduceEqDiff, List.map_cons, List.map_nil]
            refine put2d_stF (f := cI) (x' := x69) (o := 0) hv39 hS56 hW hb68 hx65 (fun _ => rfl) rfl rfl (Nat.le_of_ble_eq_true rfl) rfl (fun c75 h73 hv76 hS74 => ?_)
            have hx77 := geti_set (x' := x69) hx65
            obtain ⟨x78, hx79, hF80⟩ := bind_some' hF71
            simp only [put_no, d4_ia, put_at, ev_t, ev_c, reduceIte, Nat.reduceEqDiff, List.map_cons, List.map_nil]
            refine put1d_eq (SlF.ia hv76 hb68 hx79) ?_
            simp only [d3_st, put_at, put_no, ev_t, ev_c, reduceIte, Nat.reduceEqDiff, List.map_cons, List.map_nil]
            refine put2d_stF (f := cI) (x' := x64) (o := 0) hv76 hS74 hW hb68 hx79 (fun _ => rfl) rfl rfl (Nat.le_of_ble_eq_true rfl) rfl (fun c83 h81 hv84 hS82 => ?_)
            have hx85 := geti_set (x' := x64) hx79
            simp only [put_no, run_draw_nil, run_blk, run_reg, f61, run_mv, run_bin, put1_some, xsub, run_ops_nil, run_nil, put_at, ev_t, ev_c, reduceIte, Nat.reduceEqDiff,
                List.map_cons, List.map_nil]
            have e86 := some_inj hF80
            exact hN49 _ _ _ e86.symm ⟨c83, by simp only [f57, put_at, put_no, ev_t, ev_c, reduceIte, Nat.reduceEqDiff, List.map_cons, List.map_nil], by simp only [f58, put_at,
                put_no, ev_t, ev_c, reduceIte, Nat.reduceEqDiff, List.map_cons, List.map_nil], by simp only [f59, put_at, put_no, ev_t, ev_c, reduceIte, Nat.reduceEqDiff,
                List.map_cons, List.map_nil], by simp only [f60, put_at, put_no, ev_t, ev_c, reduceIte, Nat.reduceEqDiff, List.map_cons, List.map_nil], by simp only [put_at,
                put_no, ev_t, ev_c, reduceIte, Nat.reduceEqDiff, List.map_cons, List.map_nil], hv84, hS82⟩
          · rw [iteF hc72] at hF71
            simp only [run_exit, out_code, out_nil, put_at, put_no, ev_t, ev_c, reduceIte, Nat.reduceEqDiff, List.map_cons, List.map_nil]
            have e87 := some_inj hF71
            exact hK50 _ _ _ e87.symm ⟨c38, by simp only [f57, put_at, put_no, ev_t, ev_c, reduceIte, Nat.reduceEqDiff, List.map_cons, List.map_nil], by simp only [f58, put_at,
                put_no, ev_t, ev_c, reduceIte, Nat.reduceEqDiff, List.map_cons, List.map_nil], by simp only [f59, put_at, put_no, ev_t, ev_c, reduceIte, Nat.reduceEqDiff,
                List.map_cons, List.map_nil], by simp only [f60, put_at, put_no, ev_t, ev_c, reduceIte, Nat.reduceEqDiff, List.map_cons, List.map_nil], by simp only [f61, put_at,
                put_no, ev_t, ev_c, reduceIte, Nat.reduceEqDiff, List.map_cons, List.map_nil], hv39, hS56⟩
        · rw [iteF hg63] at hF46
          simp only [hg63, run_guardd (g := 19), guardd_off, d4_pick, put1d_some, xpick_f, run_draw_nil, run_cond, cond_false, run_exit, out_code, out_nil, put_at, put_no, ev_t,
              ev_c, reduceIte, Nat.reduceEqDiff, List.map_cons, List.map_nil]
          have e88 := some_inj hF46
          exact hK50 _ _ _ e88.symm ⟨c38, by simp only [f57, put_at, put_no, ev_t, ev_c, reduceIte, Nat.reduceEqDiff, List.map_cons, List.map_nil], by simp only [f58, put_at,
              put_no, ev_t, ev_c, reduceIte, Nat.reduceEqDiff, List.map_cons, List.map_nil], by simp only [f59, put_at, put_no, ev_t, ev_c, reduceIte, Nat.reduceEqDiff,
              List.map_cons, List.map_nil], by simp only [f60, put_at, put_no, ev_t, ev_c, reduceIte, Nat.reduceEqDiff, List.map_cons, List.map_nil], by simp only [f61, put_at,
              put_no, ev_t, ev_c, reduceIte, Nat.reduceEqDiff, List.map_cons, List.map_nil], hv39, hS56⟩
      · rintro ⟨s90, s91⟩ fr94 h95 rfl ⟨c92, f97, f98, f99, f100, f101, hv93, hS96⟩
        dsimp only [jnO] at hk45
        dsimp only at *
        unfold slices_insertionSortOrdered_int_j1 at hk45
        simp only [run_blk, run_reg, f100, run_mv, run_bin, put1_some, xadd, run_ops_nil, run_nil, put_at, put_no, ev_t, ev_c, reduceIte, Nat.reduceEqDiff, List.map_cons,
            List.map_nil]
        have e102 := some_inj hk45
        exact hN18 _ _ _ e102.symm ⟨c92, by simp only [f97, put_at, put_no, ev_t, ev_c, reduceIte, Nat.reduceEqDiff, List.map_cons, List.map_nil], by simp only [f98, put_at,
            put_no, ev_t, ev_c, reduceIte, Nat.reduceEqDiff, List.map_cons, List.map_nil], by simp only [f99, put_at, put_no, ev_t, ev_c, reduceIte, Nat.reduceEqDiff,
            List.map_cons, List.map_nil], by simp only [put_at, put_no, ev_t, ev_c, reduceIte, Nat.reduceEqDiff, List.map_cons, List.map_nil], hv93, hS96⟩
    · rw [iteF hc31] at hF15
      simp only [run_exit, out_code, out_nil, put_at, put_no, ev_t, ev_c, reduceIte, Nat.reduceEqDiff, List.map_cons, List.map_nil]
      have e104 := some_inj hF15
      exact hK19 _ _ _ e104.symm ⟨c7, by simp only [f26, put_at, put_no, ev_t, ev_c, reduceIte, Nat.reduceEqDiff, List.map_cons, List.map_nil], by simp only [f27, put_at, put_no,
          ev_t, ev_c, reduceIte, Nat.reduceEqDiff, List.map_cons, List.map_nil], by simp only [f28, put_at, put_no, ev_t, ev_c, reduceIte, Nat.reduceEqDiff, List.map_cons,
          List.map_nil], by simp only [f29, put_at, put_no, ev_t, ev_c, reduceIte, Nat.reduceEqDiff, List.map_cons, List.map_nil], hv8, hS25⟩
  · rintro ⟨s106, s107⟩ fr110 h111 rfl ⟨c108, f113, f114, f115, f116, hv109, hS112⟩
    dsimp only [jnO] at hk14
    dsimp only at *
    unfold slices_insertionSortOrdered_int_j2 at hk14
    simp only [run_nil, put_at, put_no, ev_t, ev_c, reduceIte, Nat.reduceEqDiff, List.map_cons, List.map_nil]
    have he := some_inj hk14
    subst he
    simp only [end_nor0, put_at, put_no, ev_t, ev_c, reduceIte, Nat.reduceEqDiff, List.map_cons, List.map_nil]
    exact ⟨c108, by first | trivial | rfl, hv109, hS112⟩
theorem math_bits_Len32_x {W : Nat → Bool} {h : Heap} (hW : ∀ b,
    h.length ≤ b → W b = true) (x_0 : Int) (r : Int) (hF : math_bits_Len32 x_0 = some r) : Ret E W 86 [.int .u32 x_0] h (fun v h' => cut h.length h' E.sz false 9 v = some
    (.int .i64 r)) := by
  refine Ret.of (fn := x86) rfl (Run.of ?_)
  unfold math_bits_Len32 at hF
  have zf0 : argFr [.int .u32 x_0] 0 = .int .u32 x_0 := rfl
  generalize argFr [.int .u32 x_0] = fr0 at zf0 ⊢
  have hS : Sep h h.length [] := Sep.nil h
  simp only [x86, run_seq, run_reg, run_mv, run_ops_nil, x86_7, zf0, run_bin, put1_some, xgeq, x86_2, run_cond, put_at, put_no, ev_t, ev_c, reduceIte, Nat.reduceEqDiff,
      List.map_cons, List.map_nil]
  obtain ⟨sv6, hX4, hk5⟩ := bind_some' hF
  refine cond_j (t := (decide ((65536 : Int) ≤ x_0))) (fun fr' h' => fr' 0 = .int .u32 sv6.1 ∧ fr' 2 = .int .i64 sv6.2 ∧ Sep h' h.length ([]))
      (fun Q7 hN8 hR9 hE10 => ⟨fun hc11 => ?_, fun hc11 => ?_⟩) ?_
  · rw [iteT hc11] at hX4
    simp only [x86_1, run_seq, run_reg, zf0, run_mv, run_bin, put1_some, xshr_nn (n := 16) (by decide), run_ops_nil, run_nil, put_at, put_no, ev_t, ev_c, reduceIte,
        Nat.reduceEqDiff, List.map_cons, List.map_nil]
    have e12 := some_inj hX4
    subst e12
    exact hN8 _ _ ⟨by simp only [put_at, put_no, ev_t, ev_c, reduceIte, Nat.reduceEqDiff, List.map_cons, List.map_nil], by simp only [put_at, put_no, ev_t, ev_c, reduceIte,
        Nat.reduceEqDiff, List.map_cons, List.map_nil], hS⟩
  · rw [iteF hc11] at hX4
    simp only [run_skip, run_nil, put_at, put_no, ev_t, ev_c, reduceIte, Nat.reduceEqDiff, List.map_cons, List.map_nil]
    have e13 := some_inj hX4
    subst e13
    exact hN8 _ _ ⟨by simp only [zf0, put_at, put_no, ev_t, ev_c, reduceIte, Nat.reduceEqDiff, List.map_cons, List.map_nil], by simp only [put_at, put_no, ev_t, ev_c, reduceIte,
        Nat.reduceEqDiff, List.map_cons, List.map_nil], hS⟩
  · rintro fr14 h15 ⟨f17, f18, hS16⟩
    obtain ⟨s1, s2⟩ := sv6
    dsimp only at *
    unfold math_bits_Len32_j1 at hk5
    simp only [x86_6, run_seq, run_reg, f17, run_mv, run_bin, put1_some, xgeq, run_ops_nil, x86_4, run_cond, put_at, put_no, ev_t, ev_c, reduceIte, Nat.reduceEqDiff,
        List.map_cons, List.map_nil]
    obtain ⟨sv24, hX22, hk23⟩ := bind_some' hk5
    refine cond_j (t := (decide ((256 : Int) ≤ s1))) (fun fr' h' => fr' 0 = .int .u32 sv24.1 ∧ fr' 2 = .int .i64 sv24.2 ∧ Sep h' h.length ([]))
        (fun Q25 hN26 hR27 hE28 => ⟨fun hc29 => ?_, fun hc29 => ?_⟩) ?_
    · rw [iteT hc29] at hX22
      simp only [x86_3, run_seq, run_reg, f17, run_mv, run_bin, put1_some, xshr_nn (n := 8) (by decide), run_ops_nil, f18, xadd, run_nil, put_at, put_no, ev_t, ev_c, reduceIte,
          Nat.reduceEqDiff, List.map_cons, List.map_nil]
      have e30 := some_inj hX22
      subst e30
      exact hN26 _ _ ⟨by simp only [put_at, put_no, ev_t, ev_c, reduceIte, Nat.reduceEqDiff, List.map_cons, List.map_nil], by simp only [put_at, put_no, ev_t, ev_c, reduceIte,
          Nat.reduceEqDiff, List.map_cons, List.map_nil], hS16⟩
    · rw [iteF hc29] at hX22
      simp only [run_skip, run_nil, put_at, put_no, ev_t, ev_c, reduceIte, Nat.reduceEqDiff, List.map_cons, List.map_nil]
      have e31 := some_inj hX22
      subst e31
      exact hN26 _ _ ⟨by simp only [f17, put_at, put_no, ev_t, ev_c, reduceIte, Nat.reduceEqDiff, List.map_cons, List.map_nil], by simp only [f18, put_at, put_no, ev_t, ev_c,
          reduceIte, Nat.reduceEqDiff, List.map_cons, List.map_nil], hS16⟩
    · rintro fr32 h33 ⟨f35, f36, hS34⟩
      obtain ⟨s19, s20⟩ := sv24
      dsimp only at *
      unfold math_bits_Len32_j2 at hk23
      obtain ⟨y37, hx38, hF39⟩ := bind_some' hk23
      simp only [x86_5, run_seq, run_reg, f36, run_mv, f35, run_cvt, put1_some, xcvt_i, run_sidx, put_at, put_no, ev_t, ev_c, reduceIte, Nat.reduceEqDiff, List.map_cons,
          List.map_nil]
      refine put1_eq (xsidx_eq hx38) ?_
      simp only [run_cvt, put1_some, xcvt_i, run_bin, xadd, run_mv, run_ops_nil, run_ret, put_at, put_no, ev_t, ev_c, reduceIte, Nat.reduceEqDiff, List.map_cons, List.map_nil]
      have he := some_inj hF39
      subst he
      simp only [end_ret1, put_at, put_no, ev_t, ev_c, reduceIte, Nat.reduceEqDiff, List.map_cons, List.map_nil]
      exact rfl
theorem math_bits_Len64_x {W : Nat → Bool} {h : Heap} (hW : ∀ b,
    h.length ≤ b → W b = true) (x_0 : Int) (r : Int) (hF : math_bits_Len64 x_0 = some r) : Ret E W 87 [.int .u64 x_0] h (fun v h' => cut h.length h' E.sz false 9 v = some
    (.int .i64 r)) := by
  refine Ret.of (fn := x87) rfl (Run.of ?_)
  unfold math_bits_Len64 at hF
  have zf0 : argFr [.int .u64 x_0] 0 = .int .u64 x_0 := rfl
  generalize argFr [.int .u64 x_0] = fr0 at zf0 ⊢
  have hS : Sep h h.length [] := Sep.nil h
  simp only [x87, run_seq, run_reg, run_mv, run_ops_nil, x87_10, zf0, run_bin, put1_some, xgeq, x87_2, run_cond, put_at, put_no, ev_t, ev_c, reduceIte, Nat.reduceEqDiff,
      List.map_cons, List.map_nil]
  obtain ⟨sv6, hX4, hk5⟩ := bind_some' hF
  refine cond_j (t := (decide ((4294967296 : Int) ≤ x_0))) (fun fr' h' => fr' 0 = .int .u64 sv6.1 ∧ fr' 2 = .int .i64 sv6.2 ∧ Sep h' h.length ([]))
      (fun Q7 hN8 hR9 hE10 => ⟨fun hc11 => ?_, fun hc11 => ?_⟩) ?_
  · rw [iteT hc11] at hX4
    simp only [x87_1, run_seq, run_reg, zf0, run_mv, run_bin, put1_some, xshr_nn (n := 32) (by decide), run_ops_nil, run_nil, put_at, put_no, ev_t, ev_c, reduceIte,
        Nat.reduceEqDiff, List.map_cons, List.map_nil]
    have e12 := some_inj hX4
    subst e12
    exact hN8 _ _ ⟨by simp only [put_at, put_no, ev_t, ev_c, reduceIte, Nat.reduceEqDiff, List.map_cons, List.map_nil], by simp only [put_at, put_no, ev_t, ev_c, reduceIte,
        Nat.reduceEqDiff, List.map_cons, List.map_nil], hS⟩
  · rw [iteF hc11] at hX4
    simp only [run_skip, run_nil, put_at, put_no, ev_t, ev_c, reduceIte, Nat.reduceEqDiff, List.map_cons, List.map_nil]
    have e13 := some_inj hX4
    subst e13
    exact hN8 _ _ ⟨by simp only [zf0, put_at, put_no, ev_t, ev_c, reduceIte, Nat.reduceEqDiff, List.map_cons, List.map_nil], by simp only [put_at, put_no, ev_t, ev_c, reduceIte,
        Nat.reduceEqDiff, List.map_cons, List.map_nil], hS⟩
  · rintro fr14 h15 ⟨f17, f18, hS16⟩
    obtain ⟨s1, s2⟩ := sv6
    dsimp only at *
    unfold math_bits_Len64_j1 at hk5
    simp only [x87_9, run_seq, run_reg, f17, run_mv, run_bin, put1_some, xgeq, run_ops_nil, x87_4, run_cond, put_at, put_no, ev_t, ev_c, reduceIte, Nat.reduceEqDiff,
        List.map_cons, List.map_nil]
    obtain ⟨sv24, hX22, hk23⟩ := bind_some' hk5
    refine cond_j (t := (decide ((65536 : Int) ≤ s1))) (fun fr' h' => fr' 0 = .int .u64 sv24.1 ∧ fr' 2 = .int .i64 sv24.2 ∧ Sep h' h.length ([]))
        (fun Q25 hN26 hR27 hE28 => ⟨fun hc29 => ?_, fun hc29 => ?_⟩) ?_
    · rw [iteT hc29] at hX22
      simp only [x87_3, run_seq, run_reg, f17, run_mv, run_bin, put1_some, xshr_nn (n := 16) (by decide), run_ops_nil, f18, xadd, run_nil, put_at, put_no, ev_t, ev_c, reduceIte,
          Nat.reduceEqDiff, List.map_cons, List.map_nil]
      have e30 := some_inj hX22
      subst e30
      exact hN26 _ _ ⟨by simp only [put_at, put_no, ev_t, ev_c, reduceIte, Nat.reduceEqDiff, List.map_cons, List.map_nil], by simp only [put_at, put_no, ev_t, ev_c, reduceIte,
          Nat.reduceEqDiff, List.map_cons, List.map_nil], hS16⟩
    · rw [iteF hc29] at hX22
      simp only [run_skip, run_nil, put_at, put_no, ev_t, ev_c, reduceIte, Nat.reduceEqDiff, List.map_cons, List.map_nil]
      have e31 := some_inj hX22
      subst e31
      exact hN26 _ _ ⟨by simp only [f17, put_at, put_no, ev_t, ev_c, reduceIte, Nat.reduceEqDiff, List.map_cons, List.map_nil], by simp only [f18, put_at, put_no, ev_t, ev_c,
          reduceIte, Nat.reduceEqDiff, List.map_cons, List.map_nil], hS16⟩
    · rintro fr32 h33 ⟨f35, f36, hS34⟩
      obtain ⟨s19, s20⟩ := sv24
      dsimp only at *
      unfold math_bits_Len64_j2 at hk23
      simp only [x87_8, run_seq, run_reg, f35, run_mv, run_bin, put1_some, xgeq, run_ops_nil, x87_6, run_cond, put_at, put_no, ev_t, ev_c, reduceIte, Nat.reduceEqDiff,
          List.map_cons, List.map_nil]
      obtain ⟨sv42, hX40, hk41⟩ := bind_some' hk23
      refine cond_j (t := (decide ((256 : Int) ≤ s19))) (fun fr' h' => fr' 0 = .int .u64 sv42.1 ∧ fr' 2 = .int .i64 sv42.2 ∧ Sep h' h.length ([]))
          (fun Q43 hN44 hR45 hE46 => ⟨fun hc47 => ?_, fun hc47 => ?_⟩) ?_
      · rw [iteT hc47] at hX40
        simp only [x87_5, run_seq, run_reg, f35, run_mv, run_bin, put1_some, xshr_nn (n := 8) (by decide), run_ops_nil, f36, xadd, run_nil, put_at, put_no, ev_t, ev_c, reduceIte,
            Nat.reduceEqDiff, List.map_cons, List.map_nil]
        have e48 := some_inj hX40
        subst e48
        exact hN44 _ _ ⟨by simp only [put_at, put_no, ev_t, ev_c, reduceIte, Nat.reduceEqDiff, List.map_cons, List.map_nil], by simp only [put_at, put_no, ev_t, ev_c, reduceIte,
            Nat.reduceEqDiff, List.map_cons, List.map_nil], hS34⟩
      · rw [iteF hc47] at hX40
        simp only [run_skip, run_nil, put_at, put_no, ev_t, ev_c, reduceIte, Nat.reduceEqDiff, List.map_cons, List.map_nil]
        have e49 := some_inj hX40
        subst e49
        exact hN44 _ _ ⟨by simp only [f35, put_at, put_no, ev_t, ev_c, reduceIte, Nat.reduceEqDiff, List.map_cons, List.map_nil], by simp only [f36, put_at, put_no, ev_t, ev_c,
            reduceIte, Nat.reduceEqDiff, List.map_cons, List.map_nil], hS34⟩
      · rintro fr50 h51 ⟨f53, f54, hS52⟩
        obtain ⟨s37, s38⟩ := sv42
        dsimp only at *
        unfold math_bits_Len64_j3 at hk41
        obtain ⟨y55, hx56, hF57⟩ := bind_some' hk41
        simp only [x87_7, run_seq, run_reg, f54, run_mv, f53, run_cvt, put1_some, xcvt_i, run_sidx, put_at, put_no, ev_t, ev_c, reduceIte, Nat.reduceEqDiff, List.map_cons,
            List.map_nil]
        refine put1_eq (xsidx_eq hx56) ?_
        simp only [run_cvt, put1_some, xcvt_i, run_bin, xadd, run_mv, run_ops_nil, run_ret, put_at, put_no, ev_t, ev_c, reduceIte, Nat.reduceEqDiff, List.map_cons, List.map_nil]
        have he := some_inj hF57
        subst he
        simp only [end_ret1, put_at, put_no, ev_t, ev_c, reduceIte, Nat.reduceEqDiff, List.map_cons, List.map_nil]
        exact rfl
theorem math_bits_Len_x {W : Nat → Bool} {h : Heap} (hW : ∀ b,
    h.length ≤ b → W b = true) (x_0 : Int) (r : Int) (hF : math_bits_Len x_0 = some r) : Ret E W 76 [.int .u64 x_0] h (fun v h' => cut h.length h' E.sz false 9 v = some
    (.int .i64 r)) := by
  refine Ret.of (fn := x76) rfl (Run.of ?_)
  unfold math_bits_Len at hF
  have zf0 : argFr [.int .u64 x_0] 0 = .int .u64 x_0 := rfl
  generalize argFr [.int .u64 x_0] = fr0 at zf0 ⊢
  have hS : Sep h h.length [] := Sep.nil h
  obtain ⟨v1, hx2, hF3⟩ := bind_some' hF
  simp only [x76, run_seq, run_reg, run_mv, run_ops_nil, x76_2, run_cond, cond_false, run_skip, zf0, run_call, put_at, put_no, ev_t, ev_c, reduceIte, Nat.reduceEqDiff,
      List.map_cons, List.map_nil]
  refine call1 rfl (mapM1 snap_int mapM0) (math_bits_Len64_x (fun b hb => decide_eq_true hb) x_0 v1 hx2) ?_
  simp only [run_mv, run_ops_nil, run_ret, put_at, put_no, ev_t, ev_c, reduceIte, Nat.reduceEqDiff, List.map_cons, List.map_nil]
  have he := some_inj hF3
  subst he
  simp only [end_ret1, put_at, put_no, ev_t, ev_c, reduceIte, Nat.reduceEqDiff, List.map_cons, List.map_nil]
  exact rfl
theorem slices_nextPowerOfTwo_x {W : Nat → Bool} {h : Heap} (hW : ∀ b,
    h.length ≤ b → W b = true) (length_0 : Int) (r : Int) (hF : slices_nextPowerOfTwo length_0 = some r) : Ret E W 89 [.int .i64 length_0] h
    (fun v h' => cut h.length h' E.sz false 9 v = some (.int .u64 r)) := by
  refine Ret.of (fn := x89) rfl (Run.of ?_)
  unfold slices_nextPowerOfTwo at hF
  have zf0 : argFr [.int .i64 length_0] 0 = .int .i64 length_0 := rfl
  generalize argFr [.int .i64 length_0] = fr0 at zf0 ⊢
  have hS : Sep h h.length [] := Sep.nil h
  obtain ⟨v1, hx2, hF3⟩ := bind_some' hF
  simp only [x89, run_seq, run_reg, run_mv, run_ops_nil, x89_1, zf0, run_cvt, put1_some, xcvt_i, run_call, put_at, put_no, ev_t, ev_c, reduceIte, Nat.reduceEqDiff, List.map_cons,
      List.map_nil]
  refine call1 rfl (mapM1 snap_int mapM0) (math_bits_Len_x (fun b hb => decide_eq_true hb) (IntKind.wrap .u64 length_0) v1 hx2) ?_
  obtain ⟨hp4, hF5⟩ := ck_some hF3
  simp only [run_bin, put1_some, xshl_nn (n := v1) hp4, run_mv, run_ops_nil, run_ret, put_at, put_no, ev_t, ev_c, reduceIte, Nat.reduceEqDiff, List.map_cons, List.map_nil]
  have he := some_inj hF5
  subst he
  simp only [end_ret1, put_at, put_no, ev_t, ev_c, reduceIte, Nat.reduceEqDiff, List.map_cons, List.map_nil]
  exact rfl
theorem slices_pdqsortOrdered_int_rec_x (k : Nat) (rec : (List Int) → Int → Int → Int → Option (List Int)) (hrec : ∀ {W : Nat → Bool} {h : Heap} {lo : Nat} {S0 : List Obj}
    (hW : ∀ b, lo ≤ b → W b = true) (pv0 : XV) (pc0 : List Obj) (v_0 : List Int) (ph0 : SlF cI 1 3 pv0 v_0 pc0) (v_1 : Int) (v_2 : Int) (v_3 : Int) (r : List Int)
    (hF : rec v_0 v_1 v_2 v_3 = some r) (hS : Sep h lo (pc0 ++ (S0))), Ret E W 75 [pv0, .int .i64 v_1, .int .i64 v_2, .int .i64 v_3] h (fun v h' => ∃ ic0,
    v = .tup [] ∧ SlF cI 1 3 pv0 r ic0 ∧ Sep h' lo (ic0 ++ (S0)))) {W : Nat → Bool} {h : Heap} {lo : Nat} {S0 : List Obj} (hW : ∀ b,
    lo ≤ b → W b = true) (pv0 : XV) (pc0 : List Obj) (v_0 : List Int) (ph0 : SlF cI 1 3 pv0 v_0 pc0) (v_1 : Int) (v_2 : Int) (v_3 : Int) (r : List Int)
    (hF : slices_pdqsortOrdered_int_rec k rec v_0 v_1 v_2 v_3 = some r) (hS : Sep h lo (pc0 ++ (S0))) : Ret E W 75 [pv0, .int .i64 v_1, .int .i64 v_2,
    .int .i64 v_3] h (fun v h' => ∃ ic0, v = .tup [] ∧ SlF cI 1 3 pv0 r ic0 ∧ Sep h' lo (ic0 ++ (S0))) := by
  refine Ret.of (fn := x75) rfl (Run.of ?_)
  unfold slices_pdqsortOrdered_int_rec at hF
  have zf0 : argFr [pv0, .int .i64 v_1, .int .i64 v_2, .int .i64 v_3] 0 = pv0 := rfl
  have zf1 : argFr [pv0, .int .i64 v_1, .int .i64 v_2, .int .i64 v_3] 1 = .int .i64 v_1 := rfl
  have zf2 : argFr [pv0, .int .i64 v_1, .int .i64 v_2, .int .i64 v_3] 2 = .int .i64 v_2 := rfl
  have zf3 : argFr [pv0, .int .i64 v_1, .int .i64 v_2, .int .i64 v_3] 3 = .int .i64 v_3 := rfl
  generalize argFr [pv0, .int .i64 v_1, .int .i64 v_2, .int .i64 v_3] = fr0 at zf0 zf1 zf2 zf3 ⊢
  simp only [x75, run_seq, run_reg, run_mv, run_ops_nil, x75_35, put_at, put_no, ev_t, ev_c, reduceIte, Nat.reduceEqDiff, List.map_cons, List.map_nil]
  obtain ⟨oc3, hX5, hk6⟩ := jn_some hF
  simp only [x75_34]
  refine loopF_j (σ := Unit) (fun _ => slices_pdqsortOrdered_int_b1 k v_0 v_1 v_2 v_3 )
      (fun s fr' h' => fr' 0 = pv0 ∧ fr' 1 = .int .i64 v_1 ∧ fr' 2 = .int .i64 v_2 ∧ fr' 3 = .int .i64 v_3 ∧ fr' 8 = .bool true ∧ fr' 9 = .bool true ∧ Sep h' lo (pc0 ++
      (S0))) hX5 ⟨by simp only [zf0, put_at, put_no, ev_t, ev_c, reduceIte, Nat.reduceEqDiff, List.map_cons, List.map_nil], by simp only [zf1, put_at, put_no, ev_t, ev_c,
      reduceIte, Nat.reduceEqDiff, List.map_cons, List.map_nil], by simp only [zf2, put_at, put_no, ev_t, ev_c, reduceIte, Nat.reduceEqDiff, List.map_cons, List.map_nil],
      by simp only [zf3, put_at, put_no, ev_t, ev_c, reduceIte, Nat.reduceEqDiff, List.map_cons, List.map_nil], by simp only [put_at, put_no, ev_t, ev_c, reduceIte,
      Nat.reduceEqDiff, List.map_cons, List.map_nil], by simp only [put_at, put_no, ev_t, ev_c, reduceIte, Nat.reduceEqDiff, List.map_cons, List.map_nil],
      hS⟩ (fun _ _ _ h => h) ?_ ?_
  · rintro _ fr15 h16 ⟨f18, f19, f20, f21, f22, f23, hS17⟩ oc4 hF7 hr8 Q9 hN10 hK11 hR12 hE13
    unfold slices_pdqsortOrdered_int_b1 at hF7
    simp only [x75_32, run_block, x75_31, run_seq, run_reg, f20, run_mv, f19, run_bin, put1_some, xsub, run_ops_nil, x75_30, xleq, x75_2, run_cond, put_at, put_no, ev_t, ev_c,
        reduceIte, Nat.reduceEqDiff, List.map_cons, List.map_nil]
    refine cond_split (t := (decide ((IntKind.wrap .i64 (v_2 - v_1)) ≤ 12))) (fun hc25 => ?_) (fun hc25 => ?_)
    · rw [iteT hc25] at hF7
      obtain ⟨v26, hx27, hF28⟩ := bind_some' hF7
      simp only [x75_1, run_seq, run_reg, f18, run_mv, f19, f20, run_call, put_at, put_no, ev_t, ev_c, reduceIte, Nat.reduceEqDiff, List.map_cons, List.map_nil]
      refine call0 rfl (slices_insertionSortOrdered_int_x hW k pv0 pc0 v_0 ph0 v_1 v_2 v26 hx27 hS17) ?_
      rintro _ h31 ⟨c29, rfl, hv30, hS32⟩
      simp only [run_ops_nil, run_ret, put_at, put_no, ev_t, ev_c, reduceIte, Nat.reduceEqDiff, List.map_cons, List.map_nil]
      have e33 := some_inj hF28
      subst e33
      have ho34 := hr8 _ rfl
      have hk35 := hk6
      rw [ho34] at hk35
      dsimp only [jnO] at hk35
      apply hR12
      have he := some_inj hk35
      subst he
      simp only [end_ret0, put_at, put_no, ev_t, ev_c, reduceIte, Nat.reduceEqDiff, List.map_cons, List.map_nil]
      exact ⟨c29, by first | trivial | rfl, hv30, hS32⟩
    · rw [iteF hc25] at hF7
      simp only [run_skip, x75_29, run_seq, run_reg, f21, run_mv, run_bin, put1_some, xeql, run_ops_nil, x75_4, run_cond, put_at, put_no, ev_t, ev_c, reduceIte, Nat.reduceEqDiff,
          List.map_cons, List.map_nil]
      refine cond_split (t := (decide (v_3 = 0))) (fun hc36 => ?_) (fun hc36 => ?_)
      · rw [iteT hc36] at hF7
        cases hF7
      · rw [iteF hc36] at hF7
        cases hF7
  · rintro _ fr38 h39 rfl ⟨f41, f42, f43, f44, f45, f46, hS40⟩
    dsimp only [jnO] at hk6
    unfold slices_pdqsortOrdered_int_j1 at hk6
    simp only [run_nil, put_at, put_no, ev_t, ev_c, reduceIte, Nat.reduceEqDiff, List.map_cons, List.map_nil]
    have he := some_inj hk6
    subst he
    simp only [end_nor0, put_at, put_no, ev_t, ev_c, reduceIte, Nat.reduceEqDiff, List.map_cons, List.map_nil]
    exact ⟨pc0, by first | trivial | rfl, ph0, hS40⟩
theorem slices_pdqsortOrdered_int_all : ∀ k : Nat, ∀ {W : Nat → Bool} {h : Heap} {lo : Nat} {S0 : List Obj} (hW : ∀ b,
    lo ≤ b → W b = true) (pv0 : XV) (pc0 : List Obj) (v_0 : List Int) (ph0 : SlF cI 1 3 pv0 v_0 pc0) (v_1 : Int) (v_2 : Int) (v_3 : Int) (r : List Int)
    (hF : slices_pdqsortOrdered_int k v_0 v_1 v_2 v_3 = some r) (hS : Sep h lo (pc0 ++ (S0))), Ret E W 75 [pv0, .int .i64 v_1, .int .i64 v_2, .int .i64 v_3] h (fun v h' => ∃ ic0,
    v = .tup [] ∧ SlF cI 1 3 pv0 r ic0 ∧ Sep h' lo (ic0 ++ (S0))) := by
  intro k
  induction k with
  | zero => intros; rename_i hF _; cases hF
  | succ k ih => exact @slices_pdqsortOrdered_int_rec_x k (slices_pdqsortOrdered_int k) ih
theorem slices_pdqsortOrdered_int_x {W : Nat → Bool} {h : Heap} {lo : Nat} {S0 : List Obj} (hW : ∀ b,
    lo ≤ b → W b = true) (k : Nat) (pv0 : XV) (pc0 : List Obj) (v_0 : List Int) (ph0 : SlF cI 1 3 pv0 v_0 pc0) (v_1 : Int) (v_2 : Int) (v_3 : Int) (r : List Int)
    (hF : slices_pdqsortOrdered_int k v_0 v_1 v_2 v_3 = some r) (hS : Sep h lo (pc0 ++ (S0))) : Ret E W 75 [pv0, .int .i64 v_1, .int .i64 v_2, .int .i64 v_3] h (fun v h' => ∃ ic0,
    v = .tup [] ∧ SlF cI 1 3 pv0 r ic0 ∧ Sep h' lo (ic0 ++ (S0))) := slices_pdqsortOrdered_int_all k hW pv0 pc0 v_0 ph0 v_1 v_2 v_3 r hF hS
theorem slices_Sort_int_x {W : Nat → Bool} {h : Heap} {lo : Nat} {S0 : List Obj} (hW : ∀ b,
    lo ≤ b → W b = true) (k : Nat) (pv0 : XV) (pc0 : List Obj) (x_0 : List Int) (ph0 : SlF cI 1 3 pv0 x_0 pc0) (r : List Int) (hF : slices_Sort_int k x_0 = some r) (hS : Sep h lo
    (pc0 ++ (S0))) : Ret E W 70 [pv0] h (fun v h' => ∃ ic0, v = .tup [] ∧ SlF cI 1 3 pv0 r ic0 ∧ Sep h' lo (ic0 ++ (S0))) := by
  refine Ret.of (fn := x70) rfl (Run.of ?_)
  unfold slices_Sort_int at hF
  have zf0 : argFr [pv0] 0 = pv0 := rfl
  generalize argFr [pv0] = fr0 at zf0 ⊢
  obtain ⟨v1, hx2, hF3⟩ := bind_some' hF
  simp only [x70, run_seq, run_reg, zf0, run_mv, run_len, put1_some, SlF.plen ph0, run_ops_nil, x70_1, run_cvt, xcvt_i, run_call, put_at, put_no, ev_t, ev_c, reduceIte,
      Nat.reduceEqDiff, List.map_cons, List.map_nil]
  refine call1 rfl (mapM1 snap_int mapM0) (math_bits_Len_x (fun b hb => decide_eq_true hb) (IntKind.wrap .u64 (List.length x_0 : Int)) v1 hx2) ?_
  obtain ⟨v4, hx5, hF6⟩ := bind_some' hF3
  simp only [run_call, put_at, put_no, ev_t, ev_c, reduceIte, Nat.reduceEqDiff, List.map_cons, List.map_nil]
  refine call0 rfl (slices_pdqsortOrdered_int_x hW k pv0 pc0 x_0 ph0 0 (List.length x_0 : Int) v1 v4 hx5 hS) ?_
  rintro _ h9 ⟨c7, rfl, hv8, hS10⟩
  simp only [run_ops_nil, run_nil, put_at, put_no, ev_t, ev_c, reduceIte, Nat.reduceEqDiff, List.map_cons, List.map_nil]
  have he := some_inj hF6
  subst he
  simp only [end_nor0, put_at, put_no, ev_t, ev_c, reduceIte, Nat.reduceEqDiff, List.map_cons, List.map_nil]
  exact ⟨c7, by first | trivial | rfl, hv8, hS10⟩
theorem impl_areMembers_x {W : Nat → Bool} {h : Heap} (hW : ∀ b,
    h.length ≤ b → W b = true) (list_0 : List Int) (many_1 : Int) (r : Bool) (hF : impl_areMembers list_0 many_1 = some r) : Ret E W 71 [lst cI list_0,
    .int .i64 many_1] h (fun v h' => cut h.length h' E.sz false 9 v = some (.bool r)) := by
  refine Ret.of (fn := x71) rfl (Run.of ?_)
  unfold impl_areMembers at hF
  have zf0 : argFr [lst cI list_0, .int .i64 many_1] 0 = lst cI list_0 := rfl
  have zf1 : argFr [lst cI list_0, .int .i64 many_1] 1 = .int .i64 many_1 := rfl
  generalize argFr [lst cI list_0, .int .i64 many_1] = fr0 at zf0 zf1 ⊢
  have hS : Sep h h.length [] := Sep.nil h
  simp only [x71, run_seq, run_reg, run_mv, run_ops_nil, x71_5, zf0, run_len, put1_some, xlen_lst, put_at, put_no, ev_t, ev_c, reduceIte, Nat.reduceEqDiff, List.map_cons,
      List.map_nil]
  obtain ⟨oc3, hX5, hk6⟩ := jn_some hF
  simp only [x71_4]
  refine rangeL_j (σ := Unit) list_0 (fun i1 x2 _ => impl_areMembers_b1 list_0 many_1 i1 x2 )
      (fun s fr' h' => fr' 0 = lst cI list_0 ∧ fr' 1 = .int .i64 many_1 ∧ fr' 7 = lst cI list_0 ∧ Sep h' h.length ([])) hX5 ⟨by simp only [zf0, put_at, put_no, ev_t, ev_c,
      reduceIte, Nat.reduceEqDiff, List.map_cons, List.map_nil], by simp only [zf1, put_at, put_no, ev_t, ev_c, reduceIte, Nat.reduceEqDiff, List.map_cons, List.map_nil],
      by simp only [put_at, put_no, ev_t, ev_c, reduceIte, Nat.reduceEqDiff, List.map_cons, List.map_nil], hS⟩ (by simp only [put_at, put_no, ev_t, ev_c, reduceIte,
      Nat.reduceEqDiff, List.map_cons, List.map_nil]) (by simp only [put_at, put_no, ev_t, ev_c, reduceIte, Nat.reduceEqDiff, List.map_cons,
      List.map_nil]) (fun _ _ _ h => h) rfl rfl (fun _ _ _ _ h => h) (fun _ _ _ _ h => h) (fun _ _ _ _ h => h) (by decide) ?_ ?_
  · rintro i1 x2 _ fr15 h16 hx21 ⟨f18, f19, f20, hS17⟩ f22 f23 oc4 hF7 hr8 Q9 hN10 hB14 hK11 hR12 hE13
    unfold impl_areMembers_b1 at hF7
    simp only [x71_2, run_seq, run_reg, f22, run_mv, f20, run_ia, put_at, put_no, ev_t, ev_c, reduceIte, Nat.reduceEqDiff, List.map_cons, List.map_nil]
    refine put1_eq (v := .ref (cI x2) 0) (xia_lstN hx21 rfl) ?_
    simp only [run_ld, put_at, put_no, ev_t, ev_c, reduceIte, Nat.reduceEqDiff, List.map_cons, List.map_nil]
    refine put1_eq (v := .int .i64 x2) rfl ?_
    simp only [run_mv, run_ops_nil, x71_1, run_seq, run_reg, f19, run_bin, put1_some, xsub, run_call, put_at, put_no, ev_t, ev_c, reduceIte, Nat.reduceEqDiff, List.map_cons,
        List.map_nil]
    refine call1 rfl (mapM1 snap_int (mapM1 snap_int (mapM1 snap_int mapM0))) (impl_in_x (fun b hb => decide_eq_true hb) x2 0 (IntKind.wrap .i64 (many_1 - 1)) _ rfl) ?_
    simp only [run_un, put1_some, xnot, run_mv, put_at, put_no, ev_t, ev_c, reduceIte, Nat.reduceEqDiff, List.map_cons, List.map_nil]
    obtain ⟨v27, hx28, hF29⟩ := bind_some' hF7
    refine ops_j 12 (fun fr' h' => Sep h' h.length ([]) ∧ fr' 31 = .bool v27 ∧ fr' 0 = lst cI list_0 ∧ fr' 1 = .int .i64 many_1 ∧ fr' 7 = lst cI list_0 ∧ fr' 8 = .int .i64
        (List.length list_0 : Int) ∧ fr' 9 = .int .i64 (i1 : Int)) (fun Q24 hN25 => ?_) ?_
    · simp only [List.take_succ_cons, List.take_zero]
      simp only [run_guard (g := 19), put_at, put_no, ev_t, ev_c, reduceIte, Nat.reduceEqDiff, List.map_cons, List.map_nil]
      refine guard_split (t := (!(impl_in x2 0 (IntKind.wrap .i64 (many_1 - 1))))) (fun hg26 => ?_) (fun hg26 => ?_)
      · rw [iteT hg26] at hx28
        simp only [hg26, run_guard (g := 19), guard_off', run_guard (g := 22), guard_tup, run_pick, put1_some, xpick_t, run_ops_nil, run_nil, put_at, put_no, ev_t, ev_c,
            reduceIte, Nat.reduceEqDiff, List.map_cons, List.map_nil]
        have e30 := some_inj hx28
        exact hN25 _ _ ⟨hS17, by rw [← e30]; simp only [put_at, put_no, ev_t, ev_c, reduceIte, Nat.reduceEqDiff, List.map_cons, List.map_nil], by simp only [f18, put_at, put_no,
            ev_t, ev_c, reduceIte, Nat.reduceEqDiff, List.map_cons, List.map_nil], by simp only [f19, put_at, put_no, ev_t, ev_c, reduceIte, Nat.reduceEqDiff, List.map_cons,
            List.map_nil], by simp only [f20, put_at, put_no, ev_t, ev_c, reduceIte, Nat.reduceEqDiff, List.map_cons, List.map_nil], by simp only [f23, put_at, put_no, ev_t, ev_c,
            reduceIte, Nat.reduceEqDiff, List.map_cons, List.map_nil], by simp only [f22, put_at, put_no, ev_t, ev_c, reduceIte, Nat.reduceEqDiff, List.map_cons, List.map_nil]⟩
      · rw [iteF hg26] at hx28
        simp only [hg26, run_guard (g := 19), guard_false, run_mv, run_bin, put1_some, xgtr, put_at, put_no, ev_t, ev_c, reduceIte, Nat.reduceEqDiff, List.map_cons, List.map_nil]
        obtain ⟨v34, hx35, hF36⟩ := bind_some' hx28
        refine ops_j 8 (fun fr' h' => Sep h' h.length ([]) ∧ fr' 30 = .bool v34 ∧ fr' 0 = lst cI list_0 ∧ fr' 1 = .int .i64 many_1 ∧ fr' 7 = lst cI list_0 ∧ fr' 8 = .int .i64
            (List.length list_0 : Int) ∧ fr' 9 = .int .i64 (i1 : Int) ∧ fr' 19 = .bool (!(impl_in x2 0 (IntKind.wrap .i64 (many_1 - 1))))) (fun Q31 hN32 => ?_) ?_
        · simp only [List.take_succ_cons, List.take_zero]
          simp only [run_guard (g := 22), put_at, put_no, ev_t, ev_c, reduceIte, Nat.reduceEqDiff, List.map_cons, List.map_nil]
          refine guard_split (t := (decide ((0 : Int) < (i1 : Int)))) (fun hg33 => ?_) (fun hg33 => ?_)
          · rw [iteT hg33] at hx35
            obtain ⟨x37, hx38, hF39⟩ := bind_some' hx35
            simp only [hg33, run_guard (g := 22), guard_true, f18, run_mv, run_bin, put1_some, xsub, run_ia, put_at, put_no, ev_t, ev_c, reduceIte, Nat.reduceEqDiff,
                List.map_cons, List.map_nil]
            refine put1_eq (v := .ref (cI x37) 0) (xia_lst hx38 rfl) ?_
            simp only [hg33, run_guard (g := 22), guard_true, run_ld, put_at, put_no, ev_t, ev_c, reduceIte, Nat.reduceEqDiff, List.map_cons, List.map_nil]
            refine put1_eq (v := .int .i64 x37) rfl ?_
            simp only [hg33, run_guard (g := 22), guard_true, run_mv, run_bin, put1_some, xgeq, hg26, run_guard (g := 19), guard_false, run_pick, xpick_t, run_ops_nil, run_nil,
                put_at, put_no, ev_t, ev_c, reduceIte, Nat.reduceEqDiff, List.map_cons, List.map_nil]
            have e40 := some_inj hF39
            exact hN32 _ _ ⟨hS17, by rw [← e40]; simp only [put_at, put_no, ev_t, ev_c, reduceIte, Nat.reduceEqDiff, List.map_cons, List.map_nil], by simp only [f18, put_at,
                put_no, ev_t, ev_c, reduceIte, Nat.reduceEqDiff, List.map_cons, List.map_nil], by simp only [f19, put_at, put_no, ev_t, ev_c, reduceIte, Nat.reduceEqDiff,
                List.map_cons, List.map_nil], by simp only [f20, put_at, put_no, ev_t, ev_c, reduceIte, Nat.reduceEqDiff, List.map_cons, List.map_nil], by simp only [f23, put_at,
                put_no, ev_t, ev_c, reduceIte, Nat.reduceEqDiff, List.map_cons, List.map_nil], by simp only [f22, put_at, put_no, ev_t, ev_c, reduceIte, Nat.reduceEqDiff,
                List.map_cons, List.map_nil], by simp only [hg26, put_at, put_no, ev_t, ev_c, reduceIte, Nat.reduceEqDiff, List.map_cons, List.map_nil]⟩
          · rw [iteF hg33] at hx35
            simp only [hg33, run_guard (g := 22), guard_off, hg26, run_guard (g := 19), guard_false, run_pick, put1_some, xpick_f, run_ops_nil, run_nil, put_at, put_no, ev_t,
                ev_c, reduceIte, Nat.reduceEqDiff, List.map_cons, List.map_nil]
            have e41 := some_inj hx35
            exact hN32 _ _ ⟨hS17, by rw [← e41]; simp only [put_at, put_no, ev_t, ev_c, reduceIte, Nat.reduceEqDiff, List.map_cons, List.map_nil], by simp only [f18, put_at,
                put_no, ev_t, ev_c, reduceIte, Nat.reduceEqDiff, List.map_cons, List.map_nil], by simp only [f19, put_at, put_no, ev_t, ev_c, reduceIte, Nat.reduceEqDiff,
                List.map_cons, List.map_nil], by simp only [f20, put_at, put_no, ev_t, ev_c, reduceIte, Nat.reduceEqDiff, List.map_cons, List.map_nil], by simp only [f23, put_at,
                put_no, ev_t, ev_c, reduceIte, Nat.reduceEqDiff, List.map_cons, List.map_nil], by simp only [f22, put_at, put_no, ev_t, ev_c, reduceIte, Nat.reduceEqDiff,
                List.map_cons, List.map_nil], by simp only [hg26, put_at, put_no, ev_t, ev_c, reduceIte, Nat.reduceEqDiff, List.map_cons, List.map_nil]⟩
        · rintro fr42 h50 ⟨hS51, f43, f44, f45, f46, f47, f48, f49⟩
          simp only [List.drop_succ_cons, List.drop_zero]
          simp only [f49, hg26, run_pick, put1_some, xpick_f, f43, run_ops_nil, run_nil, put_at, put_no, ev_t, ev_c, reduceIte, Nat.reduceEqDiff, List.map_cons, List.map_nil]
          have e52 := some_inj hF36
          exact hN25 _ _ ⟨hS51, by rw [← e52]; simp only [put_at, put_no, ev_t, ev_c, reduceIte, Nat.reduceEqDiff, List.map_cons, List.map_nil], by simp only [f44, put_at, put_no,
              ev_t, ev_c, reduceIte, Nat.reduceEqDiff, List.map_cons, List.map_nil], by simp only [f45, put_at, put_no, ev_t, ev_c, reduceIte, Nat.reduceEqDiff, List.map_cons,
              List.map_nil], by simp only [f46, put_at, put_no, ev_t, ev_c, reduceIte, Nat.reduceEqDiff, List.map_cons, List.map_nil], by simp only [f47, put_at, put_no, ev_t,
              ev_c, reduceIte, Nat.reduceEqDiff, List.map_cons, List.map_nil], by simp only [f48, put_at, put_no, ev_t, ev_c, reduceIte, Nat.reduceEqDiff, List.map_cons,
              List.map_nil]⟩
    · rintro fr53 h60 ⟨hS61, f54, f55, f56, f57, f58, f59⟩
      simp only [List.drop_succ_cons, List.drop_zero]
      simp only [run_ops_nil, f54, run_cond, put_at, put_no, ev_t, ev_c, reduceIte, Nat.reduceEqDiff, List.map_cons, List.map_nil]
      refine cond_split (t := v27) (fun hc62 => ?_) (fun hc62 => ?_)
      · rw [iteT hc62] at hF29
        simp only [run_seq, run_reg, run_mv, run_ops_nil, run_ret, put_at, put_no, ev_t, ev_c, reduceIte, Nat.reduceEqDiff, List.map_cons, List.map_nil]
        have e63 := some_inj hF29
        subst e63
        have ho64 := hr8 _ rfl
        have hk65 := hk6
        rw [ho64] at hk65
        dsimp only [jnO] at hk65
        apply hR12
        have he := some_inj hk65
        subst he
        simp only [end_ret1, put_at, put_no, ev_t, ev_c, reduceIte, Nat.reduceEqDiff, List.map_cons, List.map_nil]
        exact rfl
      · rw [iteF hc62] at hF29
        simp only [run_skip, run_nil, put_at, put_no, ev_t, ev_c, reduceIte, Nat.reduceEqDiff, List.map_cons, List.map_nil]
        have e66 := some_inj hF29
        exact hN10 _ _ _ e66.symm ⟨by simp only [f55, put_at, put_no, ev_t, ev_c, reduceIte, Nat.reduceEqDiff, List.map_cons, List.map_nil], by simp only [f56, put_at, put_no,
            ev_t, ev_c, reduceIte, Nat.reduceEqDiff, List.map_cons, List.map_nil], by simp only [f57, put_at, put_no, ev_t, ev_c, reduceIte, Nat.reduceEqDiff, List.map_cons,
            List.map_nil], hS61⟩ (by simp only [f59, put_at, put_no, ev_t, ev_c, reduceIte, Nat.reduceEqDiff, List.map_cons, List.map_nil]) (by simp only [f58, put_at, put_no,
            ev_t, ev_c, reduceIte, Nat.reduceEqDiff, List.map_cons, List.map_nil])
  · rintro _ fr68 h69 rfl ⟨f71, f72, f73, hS70⟩
    dsimp only [jnO] at hk6
    unfold impl_areMembers_j1 at hk6
    simp only [run_seq, run_reg, run_mv, run_ops_nil, run_ret, put_at, put_no, ev_t, ev_c, reduceIte, Nat.reduceEqDiff, List.map_cons, List.map_nil]
    have he := some_inj hk6
    subst he
    simp only [end_ret1, put_at, put_no, ev_t, ev_c, reduceIte, Nat.reduceEqDiff, List.map_cons, List.map_nil]
    exact rfl
theorem impl_isOrder_x {W : Nat → Bool} {h : Heap} (hW : ∀ b,
    h.length ≤ b → W b = true) (k : Nat) (l_0 : List Call) (order_1 : List Int) (r : Bool) (hF : impl_isOrder k l_0 order_1 = some r) : Ret E W 54 [lst Call.cells l_0,
    lst cI order_1] h (fun v h' => cut h.length h' E.sz false 9 v = some (.bool r)) := by
  refine Ret.of (fn := x54) rfl (Run.of ?_)
  unfold impl_isOrder at hF
  have zf0 : argFr [lst Call.cells l_0, lst cI order_1] 0 = lst Call.cells l_0 := rfl
  have zf1 : argFr [lst Call.cells l_0, lst cI order_1] 1 = lst cI order_1 := rfl
  generalize argFr [lst Call.cells l_0, lst cI order_1] = fr0 at zf0 zf1 ⊢
  have hS : Sep h h.length [] := Sep.nil h
  simp only [x54, run_seq, run_reg, run_mv, run_ops_nil, x54_3, run_buildS, evp, put_at, put_no, ev_t, ev_c, reduceIte, Nat.reduceEqDiff, List.map_cons, List.map_nil]
  refine put2_buildSF (n := 1) (f := cI) ([] : List Int) hS rfl rfl (fun v1 c2 h3 hv4 hS5 => ?_)
  simp only [zf1, run_mv, run_app, put_at, put_no, ev_t, ev_c, reduceIte, Nat.reduceEqDiff, List.map_cons, List.map_nil]
  obtain ⟨l7, hx8, hF9⟩ := bind_some' hF
  refine put2_appF (f := cI) hv4 hS5 hW (fun _ => rfl) (fun _ => rfl) (firstOf_lst (fun _ => rfl)) hx8 (fun v10 c11 h12 hv13 hS14 => ?_)
  obtain ⟨v16, hx17, hF18⟩ := bind_some' hF9
  simp only [run_mv, run_ops_nil, x54_2, run_seq, run_reg, run_call, put_at, put_no, ev_t, ev_c, reduceIte, Nat.reduceEqDiff, List.map_cons, List.map_nil]
  refine call0 rfl (slices_Sort_int_x hW k v10 c11 l7 hv13 v16 hx17 hS14) ?_
  rintro _ h21 ⟨c19, rfl, hv20, hS22⟩
  simp only [run_ops_nil, x54_1, run_seq, run_reg, zf1, run_mv, run_len, put1_some, xlen_lst, zf0, run_bin, xeql, put_at, put_no, ev_t, ev_c, reduceIte, Nat.reduceEqDiff,
      List.map_cons, List.map_nil]
  obtain ⟨v26, hx27, hF28⟩ := bind_some' hF18
  refine ops_j 5 (fun fr' h' => Sep h' h.length ([]) ∧ fr' 21 = .bool v26) (fun Q23 hN24 => ?_) ?_
  · simp only [List.take_succ_cons, List.take_zero]
    simp only [run_guard (g := 16), put_at, put_no, ev_t, ev_c, reduceIte, Nat.reduceEqDiff, List.map_cons, List.map_nil]
    refine guard_split (t := (decide ((List.length order_1 : Int) = (List.length l_0 : Int)))) (fun hg25 => ?_) (fun hg25 => ?_)
    · rw [iteT hg25] at hx27
      obtain ⟨v29, hx30, hF31⟩ := bind_some' hx27
      simp only [hg25, run_guard (g := 16), guard_true, run_mv, zf0, run_len, put1_some, xlen_lst, run_call, put_at, put_no, ev_t, ev_c, reduceIte, Nat.reduceEqDiff,
          List.map_cons, List.map_nil]
      refine call1 rfl (mapM1 (SlF.snap hv20 hS22 rfl (fun _ => rfl) (fun _ => rfl)) (mapM1 snap_int mapM0)) (impl_areMembers_x (fun b hb => decide_eq_true hb) v16
          (List.length l_0 : Int) v29 hx30) ?_
      simp only [hg25, run_pick, put1_some, xpick_t, run_ops_nil, run_nil, put_at, put_no, ev_t, ev_c, reduceIte, Nat.reduceEqDiff, List.map_cons, List.map_nil]
      have e32 := some_inj hF31
      exact hN24 _ _ ⟨(Sep.dc (hS22)), by rw [← e32]; simp only [put_at, put_no, ev_t, ev_c, reduceIte, Nat.reduceEqDiff, List.map_cons, List.map_nil]⟩
    · rw [iteF hg25] at hx27
      simp only [hg25, run_guard (g := 16), guard_off, run_pick, put1_some, xpick_f, run_ops_nil, run_nil, put_at, put_no, ev_t, ev_c, reduceIte, Nat.reduceEqDiff, List.map_cons,
          List.map_nil]
      have e33 := some_inj hx27
      exact hN24 _ _ ⟨(Sep.dc (hS22)), by rw [← e33]; simp only [put_at, put_no, ev_t, ev_c, reduceIte, Nat.reduceEqDiff, List.map_cons, List.map_nil]⟩
  · rintro fr34 h36 ⟨hS37, f35⟩
    simp only [List.drop_succ_cons, List.drop_zero]
    simp only [f35, run_mv, run_ops_nil, run_ret, put_at, put_no, ev_t, ev_c, reduceIte, Nat.reduceEqDiff, List.map_cons, List.map_nil]
    have he := some_inj hF28
    subst he
    simp only [end_ret1, put_at, put_no, ev_t, ev_c, reduceIte, Nat.reduceEqDiff, List.map_cons, List.map_nil]
    exact rfl
theorem impl_RespectsTime_1_x {W : Nat → Bool} {h : Heap} (hW : ∀ b,
    h.length ≤ b → W b = true) (a_0 : Int) (b_1 : Int) (cap_0 : List Call) (r : Bool) (hF : impl_RespectsTime_1 a_0 b_1 cap_0 = some r) : Ret E W 56 [.int .i64 a_0, .int .i64 b_1,
    .ref ((cL Call.cells) cap_0) 0] h (fun v h' => cut h.length h' E.sz false 9 v = some (.bool r)) := by
  refine Ret.of (fn := x56) rfl (Run.of ?_)
  unfold impl_RespectsTime_1 at hF
  have zf0 : argFr [.int .i64 a_0, .int .i64 b_1, .ref ((cL Call.cells) cap_0) 0] 0 = .int .i64 a_0 := rfl
  have zf1 : argFr [.int .i64 a_0, .int .i64 b_1, .ref ((cL Call.cells) cap_0) 0] 1 = .int .i64 b_1 := rfl
  have zf2 : argFr [.int .i64 a_0, .int .i64 b_1, .ref ((cL Call.cells) cap_0) 0] 2 = .ref ((cL Call.cells) cap_0) 0 := rfl
  generalize argFr [.int .i64 a_0, .int .i64 b_1, .ref ((cL Call.cells) cap_0) 0] = fr0 at zf0 zf1 zf2 ⊢
  have hS : Sep h h.length [] := Sep.nil h
  simp only [x56, run_seq, run_reg, run_mv, run_ops_nil, x56_1, run_draw, zf2, d4_ld, put_at, put_no, ev_t, ev_c, reduceIte, Nat.reduceEqDiff, List.map_cons, List.map_nil]
  refine put1d_eq (v := lst Call.cells cap_0) rfl ?_
  obtain ⟨x1, hx2, hF3⟩ := bind_some' hF
  simp only [zf1, d4_mv, put1d_some, d4_ia, put_at, put_no, ev_t, ev_c, reduceIte, Nat.reduceEqDiff, List.map_cons, List.map_nil]
  refine put1d_eq (v := .ref (Call.cells x1) 0) (xia_lst hx2 rfl) ?_
  simp only [d4_fa, put1d_some, Nat.reduceAdd, Nat.zero_add, Nat.add_zero, xfa_ref, d4_ld, put_at, put_no, ev_t, ev_c, reduceIte, Nat.reduceEqDiff, List.map_cons, List.map_nil]
  refine put1d_eq (v := .int .i64 x1.End) rfl ?_
  simp only [zf2, d4_ld, put_at, put_no, ev_t, ev_c, reduceIte, Nat.reduceEqDiff, List.map_cons, List.map_nil]
  refine put1d_eq (v := lst Call.cells cap_0) rfl ?_
  obtain ⟨x4, hx5, hF6⟩ := bind_some' hF3
  simp only [zf0, d4_mv, put1d_some, d4_ia, put_at, put_no, ev_t, ev_c, reduceIte, Nat.reduceEqDiff, List.map_cons, List.map_nil]
  refine put1d_eq (v := .ref (Call.cells x4) 0) (xia_lst hx5 rfl) ?_
  simp only [d4_fa, put1d_some, Nat.reduceAdd, Nat.zero_add, Nat.add_zero, xfa_ref, d4_ld, put_at, put_no, ev_t, ev_c, reduceIte, Nat.reduceEqDiff, List.map_cons, List.map_nil]
  refine put1d_eq (v := .int .i64 x4.Begin) rfl ?_
  simp only [d4_bin, put1d_some, xgtr, d4_mv, run_draw_nil, run_ret, put_at, put_no, ev_t, ev_c, reduceIte, Nat.reduceEqDiff, List.map_cons, List.map_nil]
  have he := some_inj hF6
  subst he
  simp only [end_ret1, put_at, put_no, ev_t, ev_c, reduceIte, Nat.reduceEqDiff, List.map_cons, List.map_nil]
  exact rfl
theorem impl_RespectsTime_x {W : Nat → Bool} {h : Heap} (hW : ∀ b,
    h.length ≤ b → W b = true) (k : Nat) (l_0 : List Call) (order_1 : List Int) (r : Bool × Bool) (hF : impl_RespectsTime k l_0 order_1 = some r) : Ret E W 29 [lst Call.cells l_0,
    lst cI order_1] h (fun v h' => cut h.length h' E.sz false 9 v = some (.tup [.bool r.1, .bool r.2])) := by
  refine Ret.of (fn := x29) rfl (Run.of ?_)
  unfold impl_RespectsTime at hF
  have zf0 : argFr [lst Call.cells l_0, lst cI order_1] 0 = lst Call.cells l_0 := rfl
  have zf1 : argFr [lst Call.cells l_0, lst cI order_1] 1 = lst cI order_1 := rfl
  generalize argFr [lst Call.cells l_0, lst cI order_1] = fr0 at zf0 zf1 ⊢
  have hS : Sep h h.length [] := Sep.nil h
  simp only [x29, run_seq, run_reg, run_box, zf0, put_at, put_no, ev_t, ev_c, reduceIte, Nat.reduceEqDiff, List.map_cons, List.map_nil]
  refine put2_boxC (cs := [lst Call.cells l_0]) hS rfl rfl rfl (fun b1 h2 hS3 => ?_)
  simp only [run_mv, run_ops_nil, put_at, put_no, ev_t, ev_c, reduceIte, Nat.reduceEqDiff, List.map_cons, List.map_nil]
  refine frz_stepC hS3 hW (by simp only [put_at, put_no, ev_t, ev_c, reduceIte, Nat.reduceEqDiff, List.map_cons, List.map_nil]) (fun h5 hS6 => ?_)
  simp only [run_frz_nil, x29_3, run_seq, run_reg, run_ld, put_at, put_no, ev_t, ev_c, reduceIte, Nat.reduceEqDiff, List.map_cons, List.map_nil]
  refine put1_eq (v := lst Call.cells l_0) rfl ?_
  obtain ⟨v7, hx8, hF9⟩ := bind_some' hF
  simp only [run_call, put_at, put_no, ev_t, ev_c, reduceIte, Nat.reduceEqDiff, List.map_cons, List.map_nil]
  refine call1 rfl (mapM1 snap_lst mapM0) (impl_areCalls_x (fun b hb => decide_eq_true hb) l_0 v7 hx8) ?_
  simp only [run_un, put1_some, xnot, run_mv, put_at, put_no, ev_t, ev_c, reduceIte, Nat.reduceEqDiff, List.map_cons, List.map_nil]
  obtain ⟨v13, hx14, hF15⟩ := bind_some' hF9
  refine ops_j 5 (fun fr' h' => Sep h' h.length ([]) ∧ fr' 14 = .bool v13 ∧ fr' 1 = lst cI order_1 ∧ fr' 2 = .ref [lst Call.cells l_0] 0) (fun Q10 hN11 => ?_) ?_
  · simp only [List.take_succ_cons, List.take_zero]
    simp only [run_guard (g := 9), put_at, put_no, ev_t, ev_c, reduceIte, Nat.reduceEqDiff, List.map_cons, List.map_nil]
    refine guard_split (t := (!v7)) (fun hg12 => ?_) (fun hg12 => ?_)
    · rw [iteT hg12] at hx14
      simp only [hg12, run_guard (g := 9), guard_off', run_pick, put1_some, xpick_t, run_ops_nil, run_nil, put_at, put_no, ev_t, ev_c, reduceIte, Nat.reduceEqDiff, List.map_cons,
          List.map_nil]
      have e16 := some_inj hx14
      exact hN11 _ _ ⟨hS6, by rw [← e16]; simp only [put_at, put_no, ev_t, ev_c, reduceIte, Nat.reduceEqDiff, List.map_cons, List.map_nil], by simp only [zf1, put_at, put_no,
          ev_t, ev_c, reduceIte, Nat.reduceEqDiff, List.map_cons, List.map_nil], by simp only [put_at, put_no, ev_t, ev_c, reduceIte, Nat.reduceEqDiff, List.map_cons,
          List.map_nil]⟩
    · rw [iteF hg12] at hx14
      simp only [hg12, run_guard (g := 9), guard_false, run_ld, put_at, put_no, ev_t, ev_c, reduceIte, Nat.reduceEqDiff, List.map_cons, List.map_nil]
      refine put1_eq (v := lst Call.cells l_0) rfl ?_
      obtain ⟨v17, hx18, hF19⟩ := bind_some' hx14
      simp only [hg12, run_guard (g := 9), guard_false, zf1, run_mv, run_call, put_at, put_no, ev_t, ev_c, reduceIte, Nat.reduceEqDiff, List.map_cons, List.map_nil]
      refine call1 rfl (mapM1 snap_lst (mapM1 snap_lst mapM0)) (impl_isOrder_x (fun b hb => decide_eq_true hb) k l_0 order_1 v17 hx18) ?_
      simp only [hg12, run_guard (g := 9), guard_false, run_un, put1_some, xnot, run_pick, xpick_f, run_ops_nil, run_nil, put_at, put_no, ev_t, ev_c, reduceIte, Nat.reduceEqDiff,
          List.map_cons, List.map_nil]
      have e20 := some_inj hF19
      exact hN11 _ _ ⟨hS6, by rw [← e20]; simp only [put_at, put_no, ev_t, ev_c, reduceIte, Nat.reduceEqDiff, List.map_cons, List.map_nil], by simp only [zf1, put_at, put_no,
          ev_t, ev_c, reduceIte, Nat.reduceEqDiff, List.map_cons, List.map_nil], by simp only [put_at, put_no, ev_t, ev_c, reduceIte, Nat.reduceEqDiff, List.map_cons,
          List.map_nil]⟩
  · rintro fr21 h25 ⟨hS26, f22, f23, f24⟩
    simp only [List.drop_succ_cons, List.drop_zero]
    simp only [run_ops_nil, x29_1, f22, run_cond, put_at, put_no, ev_t, ev_c, reduceIte, Nat.reduceEqDiff, List.map_cons, List.map_nil]
    refine cond_split (t := v13) (fun hc27 => ?_) (fun hc27 => ?_)
    · rw [iteT hc27] at hF15
      simp only [run_seq, run_reg, run_mv, run_ops_nil, run_ret, put_at, put_no, ev_t, ev_c, reduceIte, Nat.reduceEqDiff, List.map_cons, List.map_nil]
      have he := some_inj hF15
      subst he
      simp only [end_ret2, put_at, put_no, ev_t, ev_c, reduceIte, Nat.reduceEqDiff, List.map_cons, List.map_nil]
      exact cut_tup (mapM1 rfl (mapM1 rfl mapM0))
    · rw [iteF hc27] at hF15
      obtain ⟨v28, hx29, hF30⟩ := bind_some' hF15
      simp only [run_skip, x29_2, run_seq, run_reg, f23, run_mv, run_mkF, f24, run_call, put_at, put_no, ev_t, ev_c, reduceIte, Nat.reduceEqDiff, List.map_cons, List.map_nil]
      refine call1 rfl (mapM1 snap_lst (mapM1 snap_fn mapM0)) (impl_inOrder_x (fun b hb => decide_eq_true hb) order_1 (g1 := 56) (caps1 := [.ref [lst Call.cells l_0] 0]) rfl
          (fun a0 a1 => impl_RespectsTime_1 a0 a1 l_0) (fun W h hW a0 a1 r hr => impl_RespectsTime_1_x hW a0 a1 l_0 r hr) v28 hx29) ?_
      simp only [run_mv, run_ops_nil, run_ret, put_at, put_no, ev_t, ev_c, reduceIte, Nat.reduceEqDiff, List.map_cons, List.map_nil]
      have he := some_inj hF30
      subst he
      simp only [end_ret2, put_at, put_no, ev_t, ev_c, reduceIte, Nat.reduceEqDiff, List.map_cons, List.map_nil]
      exact cut_tup (mapM1 rfl (mapM1 rfl mapM0))
end Go.Proofs.Ytddkoiapboeemaa.X
