/- What is asked of a good world: whether it is good, what is on the way, what the picture has. -/
import Derived.Test.YtpkiieniipenjaaXBL8g
import Derived.Test.YtpkiieniipenjaaXBLArefl
set_option linter.unusedVariables false
set_option linter.unusedSimpArgs false
namespace Go.Proofs.Ytpkiieniipenjaa.X
open Go

/-! sums, step by step -/
theorem acc_loop {α ρ : Type} {B : Nat → Nat → α → Int → Option (Oc Int ρ)} {l : List α} {g : α → Int} {s0 : Int} (hB : ∀ (i : Nat) (x : α) (s : Int), l[i]? = some x → 0 ≤ s → s ≤ 1000000000000 → Ev (fun k => B k i x s) (.nxt (s + g x))) (hg : ∀ x ∈ l, 0 ≤ g x ∧ g x ≤ 1000000000) (hl : l.length ≤ 100) (h0 : 0 ≤ s0 ∧ s0 ≤ 1000000000) : Ev (fun k => rangeL (B k) l s0) (.nxt (s0 + (l.map g).sum)) := by
  refine rangeL_Ev (by omega) (fun i q s => l.drop i = q ∧ 0 ≤ s ∧ s ≤ 1000000000 + 1000000000 * i ∧ s + (q.map g).sum = s0 + (l.map g).sum) ⟨by simp, h0.1, by omega, by simp⟩ (fun i x q s ⟨h1, h2, h3, h4⟩ => .inl ?_) (fun i s ⟨h1, h2, h3, h4⟩ => by rw [← h4]; simp)
  have hx : l[i]? = some x := by have := congrArg (fun z => z[0]?) h1; simpa using this
  have hi := (List.getElem?_eq_some_iff.1 hx).1
  have hgx := hg x (List.mem_of_getElem? hx)
  simp only [List.map_cons, List.sum_cons] at h4
  exact ⟨_, hB i x s hx h2 (by omega), by have := congrArg (List.drop 1) h1; simpa [List.drop_drop] using this, by omega, by omega, by omega⟩
theorem sum_small {l : List Int} {b : Int} (h : ∀ z ∈ l, 0 ≤ z ∧ z ≤ b) : 0 ≤ l.sum ∧ l.sum ≤ b * l.length := by
  induction l with
  | nil => simp
  | cons a r ih =>
    have h1 := h a (by simp)
    have h2 := ih (fun z hz => h z (by simp [hz]))
    simp only [List.sum_cons, List.length_cons, Int.natCast_add, Int.mul_add]
    omega
theorem map_id_sum {l : List Int} : (l.map fun x => x).sum = l.sum := by rw [List.map_id']
theorem SnInv.way_sum {p n : Nat} {s : Snap} (h : SnInv p n s) : ∀ c ∈ s.Chans, 0 ≤ c.Way.sum ∧ c.Way.sum ≤ 1000 := by
  intro c hc
  have h1 := h.ways c.Way.sum (by unfold wayS; exact List.mem_map.2 ⟨c, hc, rfl⟩)
  have h2 := sum_get h.ways (x := c.Way.sum) (by unfold wayS; exact List.mem_map.2 ⟨c, hc, rfl⟩)
  have h3 := sum_nn h.an
  have h4 := h.sum
  have h5 := h.tot
  exact ⟨h1, by omega⟩
theorem onWay_ev {p n : Nat} {s : Snap} (h : SnInv p n s) : Ev (fun _ => impl_Snap_onWay s) (wayS s.Chans).sum := by
  unfold impl_Snap_onWay
  have hc := h.ok.chl
  refine Ev.jn (s := 0 + (s.Chans.map fun c => c.Way.sum).sum) (acc_loop (B := fun _ i x s => impl_Snap_onWay_b2 i x s) (fun i c t hx h0 h1 => ?_) (fun c hcm => by have := h.way_sum c hcm; omega) (by omega) (by omega)) ?_
  · unfold impl_Snap_onWay_b2
    have hw := (h.ok.ch i c hx).2.2.2
    by_cases ht : t ≤ 1000000000
    · refine Ev.jn (s := t + (c.Way.map fun z => z).sum) (acc_loop (B := fun _ i x s => impl_Snap_onWay_b1 i x s) (fun j z u hz hu0 hu1 => Ev.of ?_) (fun z hz => by have := h.way_le hx hz; omega) (by omega) ⟨h0, ht⟩) ?_
      · have := h.way_le hx (List.mem_of_getElem? hz)
        unfold impl_Snap_onWay_b1
        rw [i64_id (by omega) (by omega)]
      · rw [map_id_sum]
        exact Ev.rfl
    · refine Ev.jn (s := t + c.Way.sum) ?_ Ev.rfl
      have key : ∀ (l : List Int) (i : Nat) (u : Int), (∀ z ∈ l, 0 ≤ z ∧ z ≤ 1000) → 0 ≤ u → u + 1000 * l.length ≤ 2000000000000 → rangeG (fun i x s => impl_Snap_onWay_b1 i x s) l i u = some (.nxt (u + l.sum)) := by
        intro l
        induction l with
        | nil => intro i u _ _ _; simp [rangeG]
        | cons z l ih =>
          intro i u hz h0 h1
          have hz0 := hz z (by simp)
          simp only [List.length_cons, Int.natCast_add, Int.mul_add] at h1
          have e : impl_Snap_onWay_b1 i z u = some (.nxt (u + z)) := by
            unfold impl_Snap_onWay_b1
            rw [i64_id (by omega) (by omega)]
          simp only [rangeG, e, List.sum_cons]
          rw [ih (i + 1) (u + z) (fun y hy => hz y (by simp [hy])) (by omega) (by omega)]
          congr 2
          omega
      refine Ev.of ?_
      unfold rangeL
      rw [if_pos (by omega)]
      exact key c.Way 0 t (fun z hz => h.way_le hx hz) h0 (by omega)
  · unfold impl_Snap_onWay_j2
    rw [Int.zero_add]
    exact Ev.rfl

/-! a picture -/
theorem Contains_bool_is {l : List Bool} {v : Bool} (hl : l.length ≤ 4611686018427387904) : Is (fun _ => slices_Contains_bool l v) (v ∈ l) := by
  unfold slices_Contains_bool slices_Index_bool
  rcases first_range (B := fun _ i x _ => slices_Index_bool_b1 v i x) (Q := fun _ x => v = x) (f := fun i => (i : Int)) hl (fun i x hx => by unfold slices_Index_bool_b1; exact ite_body (by simp)) with ⟨i, x, h1, rfl, h3, h4⟩ | ⟨h1, h2⟩
  · refine Is.bindv (Ev.jn_ret h4) (Is.of ?_)
    simp only [decide_eq_true_eq]
    exact ⟨fun _ => List.mem_of_getElem? h1, fun _ => by omega⟩
  · refine Is.bindv (Ev.jn h2 Ev.rfl) (Is.F ?_)
    intro h
    obtain ⟨i, hi⟩ := List.getElem?_of_mem h
    exact h1 i v hi rfl
theorem Max_zero {l : List Int} (hl : 1 ≤ l.length ∧ l.length ≤ 100) (h : ∀ z ∈ l, z = 0) : Ev (fun k => slices_Max_int k l) 0 := by
  unfold slices_Max_int
  have h0 : geti l 0 = some 0 := by
    obtain ⟨x, hx⟩ := get_lt (l := l) (i := 0) (by omega)
    show l[0]? = some 0
    rw [hx, h x (List.mem_of_getElem? hx)]
  refine Ev.bind (a := ()) (Ev.iteF (by simp; omega) Ev.rfl) ?_
  unfold slices_Max_int_j1
  refine Ev.bindp h0 (Ev.jn (s := (0, (l.length : Int))) (Ev.loop (fun st => ∃ i : Nat, 1 ≤ i ∧ i ≤ l.length ∧ st = (0, (i : Int))) (fun st => l.length - st.2.toNat) ⟨1, by omega, by omega, rfl⟩ ?_) Ev.rfl)
  rintro st ⟨i, h1, h2, rfl⟩
  unfold slices_Max_int_b1
  by_cases hi : i < l.length
  · obtain ⟨x, hx⟩ := get_lt hi
    have hx0 := h x (List.mem_of_getElem? hx)
    subst hx0
    refine .inl ⟨(0, ((i + 1 : Nat) : Int)), ?_, ⟨i + 1, by omega, by omega, rfl⟩, by simp only [Int.toNat_natCast]; omega⟩
    rw [if_pos (by simpa using hi), geti_nat hx, Option.bind_some, wadd (by omega)]
    rfl
  · have : i = l.length := by omega
    subst this
    exact .inr (.inl ⟨(0, (l.length : Int)), by rw [if_neg (by simp)], rfl⟩)
theorem isPicture_ev {p n k : Nat} {x : Picture} (hp : 2 ≤ p ∧ p ≤ 4) (hn : n ≤ 900) (hl : x.In.length = p ∧ x.Closed.length = p) (hin : ∀ z ∈ x.In, 0 ≤ z ∧ z ≤ 1000 * (n : Int)) (h : PicOk k x) : Ev (fun q => impl_isPicture q x (k : Int) (p : Int)) true := by
  unfold impl_isPicture
  have hf : Ev (fun _ => slices_ContainsFunc_int x.In (fun a0 => some (impl_isPicture_1 a0))) false := by
    unfold slices_ContainsFunc_int slices_IndexFunc_int
    refine Ev.bind (Ev.jn (nxt_range (by omega) (fun i z hz => ?_)) Ev.rfl) Ev.rfl
    have := hin z (List.mem_of_getElem? hz)
    unfold slices_IndexFunc_int_b1 impl_isPicture_1
    refine Ev.bind Ev.rfl (Ev.iteF ?_ Ev.rfl)
    simp only [impl_in, Bool.not_eq_false', Bool.and_eq_true, decide_eq_true_eq]
    omega
  refine Ev.bind (a := false) (Ev.iteF (by simp [hl]) (Ev.bind hf Ev.rfl)) (Ev.iteF rfl ?_)
  cases hT : x.Taken with
  | false =>
    obtain ⟨h1, h2, h3⟩ := h.no hT
    obtain ⟨b, e, hb⟩ := Contains_bool_is (l := x.Closed) (v := true) (by omega)
    have hbf : b = false := by
      cases b with
      | false => rfl
      | true => exact absurd (h3 true (hb.1 rfl)) (by decide)
    subst hbf
    refine Ev.iteT rfl (Ev.bind (a := true) (Ev.iteT (by simp [h1]) (Ev.bind (Max_zero (by omega) h2) Ev.rfl)) ?_)
    exact Ev.bind (Ev.iteT rfl (Ev.bind e Ev.rfl)) Ev.rfl
  | true =>
    obtain ⟨h1, h2, h3⟩ := h.yes hT
    refine Ev.iteF rfl (Ev.bind (a := true) (Ev.iteT ?_ (Ev.bindp (geti_nat h2) Ev.rfl)) ?_)
    · simp only [impl_in, Bool.and_eq_true, decide_eq_true_eq]; exact h1
    · exact Ev.bind (Ev.iteT rfl (Ev.bindp (geti_nat h3) Ev.rfl)) Ev.rfl
theorem new_impl {p : Nat} {a : Int} (hp : 2 ≤ p ∧ p ≤ 4) (ha : 0 ≤ a ∧ a ≤ 250) : Ev (fun _ => impl_newSnap (p : Int) a) (newS p a) := by
  have : p = 2 ∨ p = 3 ∨ p = 4 := by omega
  rcases this with rfl | rfl | rfl
  · exact new_i2 ha
  · exact new_i3 ha
  · exact new_i4 ha
theorem chans_len {p : Nat} (hp : 2 ≤ p ∧ p ≤ 4) : ((chansOf p).length : Int) = p * (p - 1) := by
  have : p = 2 ∨ p = 3 ∨ p = 4 := by omega
  rcases this with rfl | rfl | rfl <;> decide
theorem isSnap_ev {p n : Nat} {s : Snap} (hn : n ≤ 900) (h : SnInv p n s) (hg : SnG p s) : Ev (fun k => impl_isSnap k s) true := by
  have hp := h.ok.pp
  have ham := h.ok.am
  have hpl := h.ok.pl
  have hsent := h.sent
  have htot := h.tot
  have ht0 : 0 ≤ s.Total := by have := sum_nn h.an; have := sum_nn h.ways; have := h.sum; omega
  have hcl : (s.Chans.length : Int) = p * (p - 1) := by
    rw [← chans_len hp]
    have := congrArg List.length hg.ft
    simp only [prs, List.length_map] at this
    rw [this]
  have hw1 : IntKind.wrap .i64 ((p : Int) - 1) = (p : Int) - 1 := i64_id (by omega) (by omega)
  have hw2 : IntKind.wrap .i64 ((p : Int) * (p - 1)) = (p : Int) * (p - 1) := by
    rw [← hcl]
    have := h.ok.chl
    exact i64_id (by omega) (by omega)
  unfold impl_isSnap
  rw [ham, hw1, hw2]
  refine Ev.iteF ?_ (Ev.jn (s := 0 + (s.Amounts.map fun z => z).sum) (acc_loop (fun i a t hx h0 h1 => ?_) (fun a ha => by have := h.am_le ha; omega) (by omega) (by omega)) ?_)
  · simp only [impl_in, Bool.or_eq_false_iff, Bool.not_eq_false', Bool.and_eq_true, decide_eq_true_eq, decide_eq_false_iff_not]
    omega
  · have hab := h.am_le (List.mem_of_getElem? hx)
    obtain ⟨y, hy⟩ := get_lt (l := s.Pictures) (i := i) (by rw [hpl, ← ham]; exact (List.getElem?_eq_some_iff.1 hx).1)
    have hpic := isPicture_ev (n := n) hp hn (h.ok.pi i y hy) (h.inn i y hy) (hg.pic i y hy)
    unfold impl_isSnap_b1
    rw [ham]
    refine Ev.bind (a := false) (Ev.iteF ?_ (Ev.bindp (geti_nat hy) (Ev.bind hpic Ev.rfl))) (Ev.iteF rfl ?_)
    · simp only [impl_in, Bool.not_eq_false', Bool.and_eq_true, decide_eq_true_eq]; exact hab
    · rw [i64_id (by omega) (by omega)]
      exact Ev.rfl
  · unfold impl_isSnap_j4
    rw [ham, map_id_sum, Int.zero_add]
    refine Ev.bind (new_impl hp (by omega)) (Ev.jn (s := chansOf p) ?_ ?_)
    · have hl := h.ok.chl
      refine rangeL_Ev (by omega) (fun i q t => s.Chans.drop i = q ∧ t = chansOf p) ⟨rfl, rfl⟩ (fun i c q t ⟨h1, h2⟩ => .inl ⟨chansOf p, ?_, by have := congrArg (List.drop 1) h1; simpa [List.drop_drop] using this, rfl⟩) (fun i t ⟨h1, h2⟩ => by rw [h2])
      subst h2
      have hx : s.Chans[i]? = some c := by have := congrArg (fun z => z[0]?) h1; simpa using this
      obtain ⟨f, t, e1, e2, l1, l2, l3, e3, e4⟩ := h.ok.ends hx
      obtain ⟨m1, m2⟩ := hg.mks i c hx
      have hpx : (prs (chansOf p))[i]? = some (c.From, c.To) := by rw [← hg.ft]; simp [prs, hx]
      simp only [prs, List.getElem?_map, Option.map_eq_some_iff] at hpx
      obtain ⟨c0, hc0, hce⟩ := hpx
      have f1 : c0.From = c.From := congrArg Prod.fst hce
      have f2 : c0.To = c.To := congrArg Prod.snd hce
      have hwl := (h.ok.ch i c hx).2.2.2
      obtain ⟨xt, hxt⟩ := get_lt (l := s.Pictures) (i := t) (by rw [hpl]; exact l2)
      obtain ⟨xf, hxf⟩ := get_lt (l := s.Pictures) (i := f) (by rw [hpl]; exact l1)
      obtain ⟨b, hb⟩ := get_lt (l := xt.Closed) (i := f) (by rw [(h.ok.pi t xt hxt).2]; exact l1)
      rw [e3, e4, tk_eq hxf, cl_eq hxt hb] at m1 m2
      have gt : geti s.Pictures c.To = some xt := by rw [e2]; exact geti_nat hxt
      have gf : geti s.Pictures c.From = some xf := by rw [e1]; exact geti_nat hxf
      have gb : geti xt.Closed c.From = some b := by rw [e1]; exact geti_nat hb
      unfold impl_isSnap_b3
      refine Ev.bindp (geti_nat hc0) (Ev.iteF (by simp [f1, f2]; omega) (Ev.jn (s := (zeros c.Way : Int)) ?_ ?_))
      · have key : ∀ (l : List Int) (i m : Nat), (∀ z ∈ l, 0 ≤ z ∧ z ≤ 1000) → m + l.length ≤ 1000 → rangeG (fun i x s => impl_isSnap_b2 i x s) l i (m : Int) = some (.nxt ((m + zeros l : Nat) : Int)) := by
          intro l
          induction l with
          | nil => intro i m _ _; simp [rangeG, zeros]
          | cons z l ih =>
            intro i m hz hm
            have hz0 := hz z (by simp)
            simp only [List.length_cons] at hm
            have hin : (!(impl_in z 0 1000)) = false := by simp only [impl_in, Bool.not_eq_false', Bool.and_eq_true, decide_eq_true_eq]; exact hz0
            by_cases e : z = 0
            · have eb : impl_isSnap_b2 i z (m : Int) = some (.nxt ((m + 1 : Nat) : Int)) := by
                unfold impl_isSnap_b2
                rw [if_neg (by rw [hin]; decide), if_pos (by simpa using e), wadd (by omega)]
              simp only [rangeG, eb]
              rw [ih (i + 1) (m + 1) (fun y hy => hz y (by simp [hy])) (by omega)]
              simp only [zeros, if_pos e]
              congr 3
              omega
            · have eb : impl_isSnap_b2 i z (m : Int) = some (.nxt (m : Int)) := by
                unfold impl_isSnap_b2
                rw [if_neg (by rw [hin]; decide), if_neg (by simpa using e)]
              simp only [rangeG, eb]
              rw [ih (i + 1) m (fun y hy => hz y (by simp [hy])) (by omega)]
              simp only [zeros, if_neg e, Nat.zero_add]
        refine Ev.of ?_
        unfold rangeL
        rw [if_pos (by omega)]
        have := key c.Way 0 0 (fun z hz => h.way_le hx hz) (by omega)
        rw [Nat.zero_add] at this
        exact this
      · unfold impl_isSnap_j2
        refine Ev.bindp gt (Ev.bindp gb (Ev.bindp gf (Ev.bind (a := (zeros c.Way : Int)) ?_ ?_)))
        · rw [m1]
          cases hT : xf.Taken <;> cases b <;> exact Ev.rfl
        · unfold impl_isSnap_j1
          refine Ev.bind (a := false) (Ev.iteF (by simp) (Ev.bind (a := false) ?_ Ev.rfl)) (Ev.iteF rfl Ev.rfl)
          cases b with
          | false => exact Ev.iteF rfl Ev.rfl
          | true => exact Ev.iteT rfl (Ev.bindp gf (Ev.of (by rw [m2 rfl]; rfl)))
    · unfold impl_isSnap_j3
      refine Ev.bind (onWay_ev h) (Ev.of ?_)
      have hsum := h.sum
      rw [hsum, i64_id (by omega) (by omega)]
      simp
theorem OnWay_ev {p n : Nat} {s : Snap} (hn : n ≤ 900) (h : SnInv p n s) (hg : SnG p s) : Ev (fun k => impl_OnWay k s) ((wayS s.Chans).sum, true) := by
  unfold impl_OnWay
  exact Ev.bind (isSnap_ev hn h hg) (Ev.iteF rfl (Ev.bind (onWay_ev h) Ev.rfl))

/-! the picture -/
def whole (x : Picture) : Prop := x.Taken = true ∧ false ∉ x.Closed
theorem aS_whole : ∀ {A : List Int} {P : List Picture}, A.length = P.length → (∀ x ∈ P, whole x) → aS A P = (P.map (·.Amount)).sum := by
  intro A
  induction A with
  | nil => intro P h _; cases P with | nil => rfl | cons => simp at h
  | cons a A ih =>
    intro P h hw
    cases P with
    | nil => simp at h
    | cons x P =>
      have hx := (hw x (by simp)).1
      simp only [aS, wA, hx, if_true, List.map_cons, List.sum_cons]
      rw [ih (by simpa using h) (fun y hy => hw y (by simp [hy]))]
theorem sum_add {α : Type} {f g : α → Int} {l : List α} : (l.map fun x => f x + g x).sum = (l.map f).sum + (l.map g).sum := by
  induction l with
  | nil => rfl
  | cons a r ih => simp only [List.map_cons, List.sum_cons, ih]; omega
theorem whole_total {p n : Nat} {s : Snap} (h : SnInv p n s) (hg : SnG p s) (hw : ∀ x ∈ s.Pictures, whole x) : (s.Pictures.map fun x => x.Amount + x.In.sum).sum = s.Total := by
  have hv := hg.vs
  unfold virt at hv
  rw [aS_whole (by rw [h.ok.am, h.ok.pl]) hw] at hv
  have hc : chS s.Pictures s.Chans = 0 := by
    unfold chS
    have : s.Chans.map (preC s.Pictures) = s.Chans.map fun _ => (0 : Int) := List.map_congr_left (fun c hc => by
      obtain ⟨i, hi⟩ := List.getElem?_of_mem hc
      obtain ⟨f, t, e1, e2, l1, l2, l3, e3, e4⟩ := h.ok.ends hi
      obtain ⟨xt, hxt⟩ := get_lt (l := s.Pictures) (i := t) (by rw [h.ok.pl]; exact l2)
      obtain ⟨b, hb⟩ := get_lt (l := xt.Closed) (i := f) (by rw [(h.ok.pi t xt hxt).2]; exact l1)
      have hbt : b = true := by
        cases b with
        | true => rfl
        | false => exact absurd (List.mem_of_getElem? hb) (hw xt (List.mem_of_getElem? hxt)).2
      subst hbt
      simp only [preC, e3, e4, cl_eq hxt hb, if_true])
    rw [this]
    have : ∀ l : List Chan, (l.map fun _ => (0 : Int)).sum = 0 := by
      intro l
      induction l with
      | nil => rfl
      | cons a r ih => simp only [List.map_cons, List.sum_cons, ih]; rfl
    exact this _
  rw [sum_add]
  rw [hc, Int.add_zero] at hv
  exact hv
theorem picture_ev {p n : Nat} {s : Snap} (hn : n ≤ 900) (h : SnInv p n s) (hg : SnG p s) : ((∀ x ∈ s.Pictures, whole x) ∧ Ev (fun k => impl_PictureOf k s) (s.Total, true)) ∨ ((¬ ∀ x ∈ s.Pictures, whole x) ∧ Ev (fun k => impl_PictureOf k s) (0, false)) := by
  have hp := h.ok.pp
  have hpl := h.ok.pl
  have hbody : ∀ (i : Nat) (x : Picture) (u : Int), s.Pictures[i]? = some x → 0 ≤ u → u ≤ 1000000000 → ∃ b : Bool, Ev (fun _ => impl_PictureOf_b2 i x u) (if b = true then .ret (0, false) else .nxt (u + (x.Amount + x.In.sum))) ∧ (b = true ↔ ¬ whole x) := by
    intro i x u hx h0 h1
    have hl := h.ok.pi i x hx
    have hin := h.inn i x hx
    unfold impl_PictureOf_b2
    obtain ⟨b, e, hb⟩ : Is (fun _ => if (!x.Taken) = true then some true else ((slices_Contains_bool x.Closed false).bind fun v46 => (some v46))) (¬ whole x) := by
      refine Is.ite (fun hT => Is.T (fun hw => by have := hw.1; simp [this] at hT)) (fun hT => (Is.bind (Contains_bool_is (by omega)) (fun b hb => Is.of hb)).iff ?_)
      simp only [Bool.not_eq_false'] at hT
      simp only [whole, hT, true_and, Classical.not_not]
    refine ⟨b, Ev.bind e ?_, hb⟩
    cases b with
    | true => exact Ev.iteT rfl Ev.rfl
    | false =>
      have hw : whole x := Classical.not_not.1 (fun hh => Bool.false_ne_true (hb.2 hh))
      have ha := ((hg.pic i x hx).yes hw.1).1
      have e1 : IntKind.wrap .i64 (u + x.Amount) = u + x.Amount := i64_id (by omega) (by omega)
      rw [e1]
      refine Ev.iteF rfl (Ev.jn (s := u + (x.Amount + x.In.sum)) ?_ Ev.rfl)
      have key : ∀ (l : List Int) (j : Nat) (v : Int), (∀ z ∈ l, 0 ≤ z ∧ z ≤ 1000 * (n : Int)) → 0 ≤ v → v + 1000 * (n : Int) * l.length ≤ 2000000000000 → rangeG (fun i x s => impl_PictureOf_b1 i x s) l j v = some (.nxt (v + l.sum)) := by
        intro l
        induction l with
        | nil => intro j v _ _ _; simp [rangeG]
        | cons z l ih =>
          intro j v hz h0 h1
          have hz0 := hz z (by simp)
          simp only [List.length_cons, Int.natCast_add, Int.mul_add] at h1
          have hnn : 0 ≤ 1000 * (n : Int) * (l.length : Int) := Int.mul_nonneg (by omega) (by omega)
          have e : impl_PictureOf_b1 j z v = some (.nxt (v + z)) := by
            unfold impl_PictureOf_b1
            rw [i64_id (by omega) (by omega)]
          simp only [rangeG, e, List.sum_cons]
          rw [ih (j + 1) (v + z) (fun y hy => hz y (by simp [hy])) (by omega) (by omega)]
          congr 2
          omega
      refine Ev.of ?_
      unfold rangeL
      rw [if_pos (by omega)]
      have hb4 : 1000 * (n : Int) * x.In.length ≤ 1000 * 900 * 4 := by
        rw [hl.1]
        exact Int.mul_le_mul (by omega) (by omega) (by omega) (by omega)
      rw [key x.In 0 (u + x.Amount) hin (by omega) (by omega)]
      congr 2
      omega
  have hsmall : ∀ (i : Nat) (x : Picture), s.Pictures[i]? = some x → whole x → 0 ≤ x.Amount + x.In.sum ∧ x.Amount + x.In.sum ≤ 10000000 := by
    intro i x hx hw
    have ha := ((hg.pic i x hx).yes hw.1).1
    have hs := sum_small (h.inn i x hx)
    have hl := h.ok.pi i x hx
    have hb4 : 1000 * (n : Int) * x.In.length ≤ 1000 * 900 * 4 := by
      rw [hl.1]
      exact Int.mul_le_mul (by omega) (by omega) (by omega) (by omega)
    omega
  by_cases hw : ∀ x ∈ s.Pictures, whole x
  · refine .inl ⟨hw, ?_⟩
    unfold impl_PictureOf
    refine Ev.bind (isSnap_ev hn h hg) (Ev.iteF rfl (Ev.jn (s := s.Total) ?_ Ev.rfl))
    rw [← whole_total h hg hw]
    refine rangeL_Ev (by omega) (fun i q u => s.Pictures.drop i = q ∧ 0 ≤ u ∧ u ≤ 10000000 * (i : Int) ∧ u + (q.map fun x => x.Amount + x.In.sum).sum = (s.Pictures.map fun x => x.Amount + x.In.sum).sum) ⟨by simp, by omega, by omega, by simp⟩ (fun i x q u ⟨h1, h2, h3, h4⟩ => .inl ?_) (fun i u ⟨h1, h2, h3, h4⟩ => by rw [← h4]; simp)
    have hx : s.Pictures[i]? = some x := by have := congrArg (fun z => z[0]?) h1; simpa using this
    have hi := (List.getElem?_eq_some_iff.1 hx).1
    have hwx := hw x (List.mem_of_getElem? hx)
    have hsm := hsmall i x hx hwx
    obtain ⟨b, e, hb⟩ := hbody i x u hx h2 (by omega)
    have : b = false := by
      cases b with
      | false => rfl
      | true => exact absurd hwx (hb.1 rfl)
    subst this
    simp only [List.map_cons, List.sum_cons] at h4
    exact ⟨_, e, by have := congrArg (List.drop 1) h1; simpa [List.drop_drop] using this, by omega, by omega, by omega⟩
  · refine .inr ⟨hw, ?_⟩
    unfold impl_PictureOf
    refine Ev.bind (isSnap_ev hn h hg) (Ev.iteF rfl (Ev.jn_ret (r := (0, false)) ?_))
    refine rangeL_Ev (by omega) (fun i q u => s.Pictures.drop i = q ∧ 0 ≤ u ∧ u ≤ 10000000 * (i : Int) ∧ ∀ (j : Nat) (x : Picture), j < i → s.Pictures[j]? = some x → whole x) ⟨by simp, by omega, by omega, fun j x hj => by omega⟩ (fun i x q u ⟨h1, h2, h3, h4⟩ => ?_) (fun i u ⟨h1, h2, h3, h4⟩ => ?_)
    · have hx : s.Pictures[i]? = some x := by have := congrArg (fun z => z[0]?) h1; simpa using this
      have hi := (List.getElem?_eq_some_iff.1 hx).1
      obtain ⟨b, e, hb⟩ := hbody i x u hx h2 (by omega)
      cases b with
      | true => exact .inr (.inr ⟨_, e, rfl⟩)
      | false =>
        have hwx : whole x := Classical.not_not.1 (fun hh => Bool.false_ne_true (hb.2 hh))
        have hsm := hsmall i x hx hwx
        refine .inl ⟨_, e, by have := congrArg (List.drop 1) h1; simpa [List.drop_drop] using this, by omega, by omega, fun j y hj hy => ?_⟩
        rcases Nat.lt_or_ge j i with hji | hji
        · exact h4 j y hji hy
        · have : j = i := by omega
          subst this
          rw [hx] at hy; cases hy
          exact hwx
    · exfalso
      have hi : s.Pictures.length ≤ i := by have := congrArg List.length h1; simp at this; omega
      exact hw (fun x hx => by
        obtain ⟨j, hj⟩ := List.getElem?_of_mem hx
        have := (List.getElem?_eq_some_iff.1 hj).1
        exact h4 j x (by omega) hj)
end Go.Proofs.Ytpkiieniipenjaa.X
