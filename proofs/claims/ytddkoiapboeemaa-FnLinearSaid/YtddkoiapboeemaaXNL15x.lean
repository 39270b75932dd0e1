/- FnLinear's law, plain (under way). -/
import Derived.Test.YtddkoiapboeemaaXNL15s
import Derived.Test.YtddkoiapboeemaaXFit
import Derived.Test.YtddkoiapboeemaaXNL15u
import Derived.Test.YtddkoiapboeemaaXNL15cq
import Derived.Test.YtddkoiapboeemaaXNL15fq
import Derived.Test.YtddkoiapboeemaaXNL15gq
import Derived.Test.YtddkoiapboeemaaXNL15w
import Derived.Test.YtddkoiapboeemaaXNL15eq
set_option linter.unusedVariables false
set_option linter.unusedSimpArgs false
namespace Go.Proofs.Ytddkoiapboeemaa.X
open Go

theorem good_apart {l : List Call} (h : good l = true) {i j : Nat} {x y : Call} (hij : i < j) (hx : l[i]? = some x) (hy : l[j]? = some y) (hc : x.Client = y.Client) : ¬ (x.Begin < y.End ∧ y.Begin < x.End) := by
  intro hb
  unfold good at h
  simp only [Bool.and_eq_true, Bool.not_eq_true', List.any_eq_false] at h
  have := h.1 (y, j) (by rw [List.mem_zipIdx_iff_getElem?]; exact hy)
  unfold badAt at this
  simp only [Bool.or_eq_true, Bool.not_eq_true', not_or, List.any_eq_true, not_exists] at this
  have := this.2 (x, i)
  rw [List.mem_zipIdx_iff_getElem?] at this
  simp only [List.getElem?_take, hij, if_true, hx, true_and, Bool.and_eq_true, decide_eq_true_eq] at this
  apply this
  omega
/-- What answers in time answers client by client. -/
theorem lin_seq {l : List Call} (hg : good l = true) (h : (timeBest l).isSome = true) : (best l.length (legalB l) (relS l) l.length []).isSome = true := by
  obtain ⟨o, ho⟩ := Option.isSome_iff_exists.1 h
  obtain ⟨hf, _⟩ := best_some _ _ _ ho
  refine best_isSome l.length [] o (by simp) ?_
  rw [List.nil_append]
  refine ⟨hf.1, hf.2.1, hf.2.2.1, hf.2.2.2.1, ?_⟩
  refine List.Pairwise.imp_of_mem ?_ (List.Pairwise.and hf.2.1 hf.2.2.2.2)
  intro a b ha hb hab
  have h1 := hf.2.2.1 a ha
  have h2 := hf.2.2.1 b hb
  obtain ⟨x, hx, hx'⟩ := geti_in h1.1 h1.2
  obtain ⟨y, hy, hy'⟩ := geti_in h2.1 h2.2
  have hr := hab.2
  unfold relT at hr
  rw [hx', hy'] at hr
  simp only [decide_eq_true_eq] at hr
  unfold relS
  rw [hx', hy']
  simp only [Bool.or_eq_true, decide_eq_true_eq]
  by_cases hc : x.Client = y.Client
  · right
    have hgx := good_call hg (List.mem_of_getElem? hx')
    simp only [spec_l15Call, spec_l1In, Bool.and_eq_true, decide_eq_true_eq] at hgx
    rcases Nat.lt_or_gt_of_ne (show a.toNat ≠ b.toNat by have := hab.1; omega) with hlt | hlt
    · have := good_apart hg hlt hx' hy' hc
      omega
    · have := good_apart hg hlt hy' hx' hc.symm
      omega
  · exact .inl hc
/-- An order that is whole passes isOrder. -/
theorem isOrder_ev {l : List Call} {o : List Int} (h7 : l.length ≤ 7) (hl : o.length = l.length) (hnd : o.Nodup) (hin : Inl l.length o) : Ev (fun k => impl_isOrder k l o) true := by
  obtain ⟨d, hd, hp, hs⟩ := Sort_short (d0 := o) (by omega)
  have ea : appN 8 ([] : List Int) o = some o := by
    unfold appN
    rw [if_pos (by simp only [List.length_nil]; omega)]
    rfl
  have hm := areMembers_eq (d := d) (n := l.length) (by omega) (by rw [hp.length_eq, hl]) (hp.nodup_iff.2 hnd) (fun x hx => hin x (hp.mem_iff.1 hx)) hs
  refine Ev.eqv (F := fun k => (slices_Sort_int k o).bind fun v16 => ((if (decide ((o.length : Int) = (l.length : Int))) = true then ((impl_areMembers v16 (l.length : Int)).bind fun v26 => (some v26)) else (some false)).bind fun v26 => (some v26))) ?_ (fun k => by simp only [impl_isOrder, ea, Option.bind_some])
  refine Ev.bind hd (Ev.of ?_)
  rw [if_pos (by simp only [decide_eq_true_eq]; omega), hm]
  rfl
theorem IsLegal_ev {l : List Call} (hg : good l = true) {o : List Int} (hf : Full l.length (legalB l) (relT l) o) : Ev (fun k => impl_IsLegal k l o) (true, true) := by
  have h7 := good_len hg
  refine Ev.eqv (F := fun k => ((impl_isOrder k l o).bind fun v7 => (some (!v7))).bind fun v7 => (if v7 = true then (some (false, false)) else ((impl_isLegal l o).bind fun v22 => (some (v22, true))))) ?_ (fun k => by
    simp only [impl_IsLegal, areCalls_eq, GoodCalls_eq (show l.length ≤ 1048576 by omega), hg, Option.bind_some, Bool.not_true, Bool.false_eq_true, if_false])
  refine Ev.bind (a := false) (Ev.bind (isOrder_ev h7 hf.1 hf.2.1 hf.2.2.1) Ev.rfl) ?_
  refine Ev.iteF rfl (Ev.of ?_)
  rw [(legal_spec (good_oks hg) hf.2.2.1 (by rw [hf.1]; omega)).2, hf.2.2.2.1]
  rfl
theorem RespectsTime_ev {l : List Call} (hg : good l = true) {o : List Int} (hf : Full l.length (legalB l) (relT l) o) : Ev (fun k => impl_RespectsTime k l o) (true, true) := by
  have h7 := good_len hg
  refine Ev.eqv (F := fun k => ((impl_isOrder k l o).bind fun v7 => (some (!v7))).bind fun v7 => (if v7 = true then (some (false, false)) else ((impl_inOrder o (fun a0 a1 => impl_RespectsTime_1 a0 a1 l)).bind fun v22 => (some (v22, true))))) ?_ (fun k => by
    simp only [impl_RespectsTime, areCalls_eq, GoodCalls_eq (show l.length ≤ 1048576 by omega), hg, Option.bind_some, Bool.not_true, Bool.false_eq_true, if_false])
  refine Ev.bind (a := false) (Ev.bind (isOrder_ev h7 hf.1 hf.2.1 hf.2.2.1) Ev.rfl) ?_
  refine Ev.iteF rfl (Ev.of ?_)
  rw [inOrder_eq (may := fun a0 a1 => impl_RespectsTime_1 a0 a1 l) (R := relT l) (by rw [hf.1]; omega) (fun a ha b hb => may_time a b (hf.2.2.1 a ha).1 (hf.2.2.1 a ha).2 (hf.2.2.1 b hb).1 (hf.2.2.1 b hb).2), decide_eq_true hf.2.2.2.2]
  rfl
theorem Overlaps_eq : impl_OverlapsIn = spec_OverlapsIn := by
  funext l
  unfold impl_OverlapsIn spec_OverlapsIn
  rw [areCalls_eq]
  rfl
theorem sameInts_refl {a : List Int} (hl : a.length ≤ 1048576) : laws_sameInts a a = some true := by
  unfold laws_sameInts
  rw [if_neg (by simp)]
  have hr : rangeL (fun i2 x3 _ => laws_sameInts_b1 a i2 x3) a () = some (.nxt ()) := by
    refine rangeL_to (by omega) (fun i r s => r = a.drop i) rfl ?_ (fun _ _ _ => rfl)
    rintro i x r s h
    have hx : a[i]? = some x := by
      have : (a.drop i)[0]? = some x := by rw [← h]; rfl
      simpa using this
    refine .inl ⟨(), ?_, by rw [← List.drop_drop, ← h]; rfl⟩
    unfold laws_sameInts_b1
    rw [geti_nat hx, Option.bind_some, if_neg (by simp)]
  rw [hr]
  rfl
theorem good_iff (l : List Call) : good l = true ↔ (∀ x ∈ l, spec_l15Call x = true) ∧ l.Pairwise (fun y x => ¬ (y.Client = x.Client ∧ x.Begin < y.End ∧ y.Begin < x.End)) ∧ l.length ≤ 7 := by
  constructor
  · intro h
    refine ⟨fun x hx => good_call h hx, ?_, good_len h⟩
    rw [List.pairwise_iff_getElem]
    rintro i j hi hj hij ⟨h1, h2, h3⟩
    exact good_apart h hij (List.getElem?_eq_getElem hi) (List.getElem?_eq_getElem hj) h1 ⟨h3, h2⟩
  · rintro ⟨h1, h2, h3⟩
    unfold good
    simp only [Bool.and_eq_true, Bool.not_eq_true', List.any_eq_false, decide_eq_true_eq]
    refine ⟨?_, h3⟩
    rintro ⟨x, j⟩ hx
    rw [List.mem_zipIdx_iff_getElem?] at hx
    simp only at hx
    obtain ⟨hj, rfl⟩ := List.getElem?_eq_some_iff.1 hx
    unfold badAt
    simp only [Bool.or_eq_true, Bool.not_eq_true', not_or, List.any_eq_true, not_exists]
    refine ⟨by rw [h1 _ (List.getElem_mem hj)]; simp, ?_⟩
    rintro ⟨y, i⟩ ⟨hy, hc⟩
    rw [List.mem_zipIdx_iff_getElem?] at hy
    simp only at hy hc
    obtain ⟨hi, rfl⟩ := List.getElem?_eq_some_iff.1 hy
    rw [List.length_take] at hi
    simp only [Bool.and_eq_true, decide_eq_true_eq, List.getElem_take] at hc
    exact List.pairwise_iff_getElem.1 h2 i j (by omega) hj (by omega) ⟨hc.1.1, hc.1.2, hc.2⟩
theorem good_filter {l : List Call} (h : good l = true) (p : Call → Bool) : good (l.filter p) = true := by
  rw [good_iff] at h ⊢
  exact ⟨fun x hx => h.1 x (List.mem_filter.1 hx).1, List.Pairwise.filter _ h.2.1, Nat.le_trans (List.length_filter_le ..) h.2.2⟩
theorem rangeG_nxt {α σ ρ : Type} {B : Nat → α → σ → Option (Oc σ ρ)} : ∀ (l : List α) (i : Nat) (s : σ), (∀ (j : Nat) x s, l[j]? = some x → ∃ s', B (i + j) x s = some (.nxt s')) → ∃ s', rangeG B l i s = some (.nxt s') := by
  intro l
  induction l with
  | nil => intro i s _; exact ⟨s, rfl⟩
  | cons x r ih =>
    intro i s h
    obtain ⟨s', h0⟩ := h 0 x s rfl
    simp only [Nat.add_zero] at h0
    simp only [rangeG, h0]
    exact ih (i + 1) s' (fun j y s hy => by
      have := h (j + 1) y s (by simpa using hy)
      rwa [show i + (j + 1) = i + 1 + j by omega] at this)
theorem rangeL_nxt {α σ ρ : Type} {B : Nat → α → σ → Option (Oc σ ρ)} {l : List α} {s : σ} (hl : l.length ≤ 4611686018427387904) (h : ∀ (j : Nat) x s, l[j]? = some x → ∃ s', B j x s = some (.nxt s')) : ∃ s', rangeL B l s = some (.nxt s') := by
  unfold rangeL
  rw [if_pos hl]
  exact rangeG_nxt l 0 s (fun j x s hx => by simpa using h j x s hx)
theorem Overlaps_ok {l : List Call} (hl : l.length ≤ 1048576) : ∃ r, spec_OverlapsIn l = some r := by
  unfold spec_OverlapsIn
  rw [GoodCalls_eq hl, Option.bind_some]
  split
  · exact ⟨_, rfl⟩
  · obtain ⟨s', hs⟩ := rangeL_nxt (B := fun i7 x8 s111 => spec_OverlapsIn_b2 l i7 x8 s111) (l := l) (s := (0 : Int)) (by omega) (fun j x s hx => by
      have hj : j < l.length := (List.getElem?_eq_some_iff.1 hx).1
      unfold spec_OverlapsIn_b2
      rw [sl_take (Nat.le_of_lt hj), Option.bind_some]
      obtain ⟨s', hs⟩ := rangeL_nxt (B := fun i43 x44 s97 => spec_OverlapsIn_b1 x i43 x44 s97) (l := l.take j) (s := s) (by rw [List.length_take]; omega) (fun i y s hy => by
        unfold spec_OverlapsIn_b1
        split <;> exact ⟨_, rfl⟩)
      rw [hs]
      exact ⟨_, rfl⟩)
    rw [hs]
    exact ⟨_, rfl⟩
theorem OnObject_good {l : List Call} (hg : good l = true) {o : Int} (h0 : 0 ≤ o) (h2 : o ≤ 2) : Ev (fun k => impl_OnObject k l o) (onO o l, true) := by
  have h7 := good_len hg
  have := impl_OnObject_ev (l := l) (by omega) o
  rw [if_pos ⟨hg, by simp only [spec_l1In, Bool.and_eq_true, decide_eq_true_eq]; omega⟩] at this
  exact this
theorem lin_onO {l : List Call} (hg : good l = true) (o : Int) : Ev (fun k => impl_IsLinear k (onO o l)) ((timeBest (onO o l)).isSome, true) := by
  have h7 := good_len hg
  have hgo : good (onO o l) = true := good_filter hg _
  have h7' := good_len hgo
  have := impl_lin_ev (l := onO o l) (by omega)
  unfold linAns at this
  rw [if_pos hgo] at this
  exact this
theorem loop_objects {l : List Call} (hg : good l = true) : ∃ (b : Bool) (n : Int), Ev (fun k => loopF (fun s364 => laws_FnLinear_b1 k l s364.1 s364.2) k (true, 0)) (.nxt (b, n)) ∧ b = (timeBest l).isSome := by
  have key := Ev.loopQk (B := fun k (s364 : Bool × Int) => laws_FnLinear_b1 k l s364.1 s364.2) (s := (true, (0 : Int)))
    (fun o => ∃ (b : Bool) (n : Int), o = .nxt (b, n) ∧ (b = true ↔ ∀ o : Int, 0 ≤ o → o < 3 → (timeBest (onO o l)).isSome = true))
    (fun st => 0 ≤ st.2 ∧ st.2 ≤ 3 ∧ (st.1 = true ↔ ∀ o : Int, 0 ≤ o → o < st.2 → (timeBest (onO o l)).isSome = true)) (fun st => 3 - st.2.toNat) ⟨by simp, by simp, by simp; intro o h1 h2; omega⟩ ?_
  · obtain ⟨o, ho, b, n, rfl, hb⟩ := key
    refine ⟨b, n, ho, ?_⟩
    rw [Bool.eq_iff_iff, hb]
    constructor
    · intro h
      exact lin_of hg ((lin_local hg).2 (fun o h0 h2 => lin_to (good_filter hg _) (h o h0 (by omega))))
    · intro h o h0 h3
      exact lin_of (good_filter hg _) ((lin_local hg).1 (lin_to hg h) o h0 (by omega))
  · rintro ⟨b, n⟩ ⟨h0, h3, hb⟩
    simp only at h0 h3 hb
    by_cases hn : n < 3
    · refine .inl ⟨(b && (timeBest (onO n l)).isSome, n + 1), ?_, ⟨by show 0 ≤ n + 1; omega, by show n + 1 ≤ 3; omega, ?_⟩, by show 3 - (n + 1).toNat < 3 - n.toNat; omega⟩
      · refine Ev.iteT (by simpa using hn) ?_
        refine Ev.bind (OnObject_good hg h0 (by omega)) (Ev.bind (lin_onO hg n) (Ev.iteF (by simp) (Ev.of ?_)))
        rw [i64_id (by omega) (by omega)]
      · show (b && (timeBest (onO n l)).isSome) = true ↔ _
        rw [Bool.and_eq_true, hb]
        constructor
        · rintro ⟨h1, h2⟩ o g0 g1
          by_cases e : o = n
          · rw [e]; exact h2
          · exact h1 o g0 (by omega)
        · intro h
          exact ⟨fun o g0 g1 => h o g0 (by omega), h n h0 (by omega)⟩
    · refine .inr (.inl ⟨(b, n), Ev.iteF (by simpa using hn) Ev.rfl, b, n, rfl, ?_⟩)
      rw [hb]
      have : n = 3 := by omega
      subst this
      exact Iff.rfl
theorem FnLinear_pure (l : List Int) (w : wfL 1 inU8 l) : ∃ k, laws_FnLinear k l = some true := by
  suffices h : Ev (fun k => laws_FnLinear k l) true by
    obtain ⟨K, h⟩ := h
    exact ⟨K, h K (Nat.le_refl _)⟩
  unfold laws_FnLinear
  by_cases hbig : (1048576 : Int) < l.length
  · exact Ev.iteT (by simpa using hbig) Ev.rfl
  · refine Ev.iteF (by simpa using hbig) ?_
    obtain ⟨r, hr, hr8⟩ := DrawIsLinear_ok (l := l) (fun x hx => w.2 x hx)
    have hl : r.length ≤ 1048576 := by omega
    obtain ⟨ov, hov⟩ := Overlaps_ok hl
    refine Ev.bind hr ?_
    refine Ev.bind (impl_lin_ev hl) ?_
    refine Ev.bind (spec_lin_ev hl) ?_
    refine Ev.bind (impl_seq_ev hl) ?_
    refine Ev.bind (spec_seq_ev hl) ?_
    refine Ev.bind (impl_ord_ev hl) ?_
    refine Ev.bind (spec_ord_ev hl) ?_
    refine Ev.bindp (a := ov) (by rw [Overlaps_eq]; exact hov) ?_
    refine Ev.bindp hov ?_
    have hordl : (ordAns r).1.length ≤ 1048576 := Nat.le_trans (ordAns_len r) hl
    have hlin2 : (linAns r).2 = good r := by
      unfold linAns
      rcases Bool.eq_false_or_eq_true (good r) with h | h <;> rw [h] <;> rfl
    refine Ev.bind (a := false) (Ev.iteF (by simp) (Ev.of (by rw [sameInts_refl hordl]; rfl))) ?_
    refine Ev.bind (a := false) (Ev.iteF (by simp) (Ev.of (by
      simp only [impl_GoodCalls, areCalls_eq, GoodCalls_eq hl, Option.bind_some, hlin2]
      simp))) ?_
    refine Ev.iteF rfl ?_
    rcases Bool.eq_false_or_eq_true (good r) with hg | hg
    · refine Ev.iteF (by rw [hlin2, hg]; rfl) ?_
      have e1 : linAns r = ((timeBest r).isSome, true) := by unfold linAns; rw [if_pos hg]
      have e2 : (seqAns r).1 = (best r.length (legalB r) (relS r) r.length []).isSome := by unfold seqAns; rw [if_pos hg]
      have e3 : ordAns r = match timeBest r with | some o => (o, true) | none => ([], false) := by unfold ordAns; rw [if_pos hg]; cases timeBest r <;> rfl
      have e4 : (ordAns r).2 = (timeBest r).isSome := by rw [e3]; cases timeBest r <;> rfl
      refine Ev.iteF (by
        rw [e1, e2, e4]
        rcases Bool.eq_false_or_eq_true (timeBest r).isSome with h | h
        · rw [h, lin_seq hg h]; rfl
        · rw [h]; rfl) ?_
      have hend : Ev (fun k => laws_FnLinear_j1 k r (linAns r)) true := by
        obtain ⟨b, n, hlo, hb⟩ := loop_objects hg
        refine Ev.jn hlo (Ev.of ?_)
        unfold laws_FnLinear_j2
        rw [e1, hb]
        simp
      refine Ev.jn (s := ()) ?_ hend
      cases hb : timeBest r with
      | none =>
        refine Ev.iteF (by rw [e4, hb]; rfl) Ev.rfl
      | some o =>
        have hf := (best_some _ _ _ hb).1
        have e5 : (ordAns r).1 = o := by rw [e3, hb]
        refine Ev.iteT (by rw [e4, hb]; rfl) ?_
        rw [e5]
        exact Ev.bind (IsLegal_ev hg hf) (Ev.bind (RespectsTime_ev hg hf) (Ev.iteF rfl Ev.rfl))
    · refine Ev.iteT (by rw [hlin2, hg]; rfl) (Ev.of ?_)
      have : (ordAns r).1 = [] := by unfold ordAns; rw [if_neg (by rw [hg]; simp)]
      rw [this]
      rfl
end Go.Proofs.Ytddkoiapboeemaa.X
