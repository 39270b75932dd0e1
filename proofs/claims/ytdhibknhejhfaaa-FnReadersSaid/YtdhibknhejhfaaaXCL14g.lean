/- FnReaders: no two read one part in the newest generation, and what is committed does not fall. -/
import Derived.Test.YtdhibknhejhfaaaXCL14f
import Derived.Test.YtdhibknhejhfaaaXCL14p
import Derived.Test.YtdhibknhejhfaaaXCL14q
import Derived.Test.YtdhibknhejhfaaaXFit
set_option linter.unusedVariables false
set_option linter.unusedSimpArgs false
namespace Go.Proofs.Ytdhibknhejhfaaa.X
open Go

theorem Plays.ok {r r' : Readers_} {l : List GroupStep} {d : List Bool} (h : Plays r l d r') : GrOk r → GrOk r' := by
  induction h with
  | nil => exact id
  | cons hs _ ih => exact fun hr => ih hs.2.2.2.1
theorem Plays.grP {r r' : Readers_} {l : List GroupStep} {d : List Bool} (h : Plays r l d r') : grP r → grP r' := by
  induction h with
  | nil => exact id
  | cons hs _ ih => exact fun hr => ih (step_grP hr hs.2.2.2.2 hs.2.2.2.1)
def comLe (r r' : Readers_) : Prop := r'.Ends = r.Ends ∧ ∀ (p : Nat) (c c' : Int), r.Committed[p]? = some c → r'.Committed[p]? = some c' → c ≤ c'
theorem StepRel.com {r r' : Readers_} {x : GroupStep} {b : Bool} (h : StepRel r x b r') : comLe r r' ∧ r'.Committed.length = r.Committed.length := by
  have same : ∀ {C : List Int} (p : Nat) (c c' : Int), C[p]? = some c → C[p]? = some c' → c ≤ c' := fun p c c' h1 h2 => by rw [h1] at h2; cases h2; exact Int.le_refl _
  cases h with
  | no => exact ⟨⟨rfl, same⟩, rfl⟩
  | turn b => exact ⟨⟨rfl, same⟩, rfl⟩
  | sync y hy hin => exact ⟨⟨rfl, same⟩, rfl⟩
  | read y v hy hp => exact ⟨⟨rfl, same⟩, rfl⟩
  | commit y m v hk hy h5 hg hm hv =>
    refine ⟨⟨rfl, fun p c c' h1 h2 => ?_⟩, by simp⟩
    dsimp only at h2
    by_cases e : x.Part.toNat = p
    · subst e
      have hi : x.Part.toNat < r.Committed.length := (List.getElem?_eq_some_iff.1 hm).1
      rw [List.getElem?_set_self hi] at h2
      rw [hm] at h1
      cases h1; cases h2
      exact hv
    · rw [List.getElem?_set_ne e, h1] at h2
      cases h2
      exact Int.le_refl _
theorem Plays.com {r r' : Readers_} {l : List GroupStep} {d : List Bool} (h : Plays r l d r') : comLe r r' ∧ r'.Committed.length = r.Committed.length := by
  induction h with
  | nil r => exact ⟨⟨rfl, fun p c c' h1 h2 => by rw [h1] at h2; cases h2; exact Int.le_refl _⟩, rfl⟩
  | @cons r r1 r2 x l b d hs t ih =>
    obtain ⟨⟨a1, a2⟩, a3⟩ := hs.2.2.2.2.com
    obtain ⟨⟨b1, b2⟩, b3⟩ := ih
    refine ⟨⟨b1.trans a1, fun p c c' h1 h2 => ?_⟩, b3.trans a3⟩
    obtain ⟨m, hm⟩ := get_lt (l := r1.Committed) (i := p) (by rw [a3]; exact (List.getElem?_eq_some_iff.1 h1).1)
    exact Int.le_trans (a2 p c m h1 hm) (b2 p m c' hm h2)
theorem newR_grP {n : Nat} {E : List Int} (hn : 1 ≤ n ∧ n ≤ 5) (he : 1 ≤ E.length ∧ E.length ≤ 6) (hE : endsP E) : grP (newR n E) := by
  have h := newR_ok hn he hE
  refine ⟨⟨h.nr, h.ne, h.com, h.gen⟩, ⟨hE, fun p c hc e he => h.cat_ p c e hc he⟩, fun k x hx => ?_⟩
  have e : x = ⟨false, 0, [], List.replicate E.length 0⟩ := by
    obtain ⟨hi, e⟩ := List.getElem?_eq_some_iff.1 hx
    simpa [newR] using e.symm
  have hrd := h.rd k x hx
  subst e
  refine ⟨⟨Int.le_refl _, Int.le_refl _⟩, fun i x h => by simp at h, by simp [newR], fun _ => ⟨rfl, rfl⟩, fun p a ha => ⟨fun e he => hrd.at_ p a e ha he, fun _ => zero_at ha⟩, fun hin => by cases hin⟩
theorem sameReaders_refl {r : Readers_} (h : r.nn ≤ 1048576) : Ev (fun _ => laws_sameReaders r r) true := by
  obtain ⟨h1, h2, h3, h4⟩ := rd_nn h
  unfold laws_sameReaders
  refine Ev.bind (a := false) (Ev.iteF (by simp) (Ev.bind (sameInts_refl (by omega)) Ev.rfl)) ?_
  refine Ev.bind (a := false) (Ev.iteF rfl (Ev.bind (sameInts_refl (by omega)) Ev.rfl)) ?_
  refine Ev.iteF (by simp) (Ev.jn (nxt_rangeI (by omega) (fun i hi => ?_)) Ev.rfl)
  obtain ⟨x, hx⟩ := get_lt hi
  obtain ⟨a1, a2⟩ := h4 i x hx
  unfold laws_sameReaders_b1
  rw [geti_nat hx]
  refine Ev.bind (a := false) (Ev.iteF (by simp) (Ev.bind (sameInts_refl (by omega)) Ev.rfl)) ?_
  refine Ev.bind (a := false) (Ev.iteF rfl (Ev.bind (sameInts_refl (by omega)) Ev.rfl)) ?_
  exact Ev.iteF rfl Ev.rfl
/-- Who has a part in the newest generation. -/
def Owns (r : Readers_) (p : Int) (x : Reader) : Prop := (x.In = true ∧ x.Generation = r.Generation) ∧ p ∈ x.Share
theorem owns_one {r : Readers_} (h : grP r) {p : Int} {i j : Nat} {x y : Reader} (hi : r.Readers[i]? = some x) (hj : r.Readers[j]? = some y) (hx : Owns r p x) (hy : Owns r p y) : i = j := by
  obtain ⟨⟨a1, a2⟩, a3⟩ := hx
  obtain ⟨⟨b1, b2⟩, b3⟩ := hy
  rw [(h.2.2 i x hi).2.2.2.2.2 a1 a2] at a3
  rw [(h.2.2 j y hj).2.2.2.2.2 b1 b2] at b3
  exact share_disj hi hj a1 b1 a3 b3
theorem Is.andc {F : Nat → Option Bool} {b : Bool} {P Q : Prop} (hb : b = true ↔ P) (h : Is F Q) : Is (fun k => if b = true then (F k).bind fun v => some v else some false) (P ∧ Q) := by
  cases b with
  | true =>
    have hp := hb.1 rfl
    obtain ⟨c, e, hc⟩ := h
    exact ⟨c, Ev.bind e Ev.rfl, by simp [hp, hc]⟩
  | false => exact ⟨false, Ev.rfl, by simp at hb; simp [hb]⟩
theorem owner_ev {r : Readers_} (h : grP r) (hn : r.nn ≤ 1048576) (p : Int) : (∃ (i : Nat) (x : Reader), r.Readers[i]? = some x ∧ Owns r p x ∧ Ev (fun _ => impl_OwnerOf r p) ((i : Int), true)) ∨ ((∀ (i : Nat) (x : Reader), r.Readers[i]? = some x → ¬ Owns r p x) ∧ Ev (fun _ => impl_OwnerOf r p) (0, false)) := by
  obtain ⟨n1, n2, n3, n4⟩ := rd_nn hn
  obtain ⟨b, e, hb⟩ := impl_group_is hn
  have hbt : b = true := hb.2 h
  subst hbt
  rcases first_range (B := fun _ i1 x2 _ => slices_IndexFunc_Reader_b1 (fun a0 => impl_OwnerOf_1 a0 r p) i1 x2) (Q := fun _ x => Owns r p x) (f := fun i => (i : Int)) (l := r.Readers) (by omega) (fun i x hx => by
    unfold slices_IndexFunc_Reader_b1 impl_OwnerOf_1
    have := n4 i x hx
    obtain ⟨c, ec, hc⟩ := Is.and (b := (x.In && (decide (x.Generation = r.Generation)))) (P := x.In = true ∧ x.Generation = r.Generation) (by simp) (fun _ => Contains_int_is (l := x.Share) (v := p) (by omega))
    refine ⟨c, Ev.bind ec ?_, hc⟩
    cases c <;> exact Ev.rfl) with ⟨i, x, g1, g2, g3, g4⟩ | ⟨g1, g2⟩
  · refine .inl ⟨i, x, g1, g2, ?_⟩
    unfold impl_OwnerOf slices_IndexFunc_Reader
    exact Ev.bind e (Ev.iteF rfl (Ev.bind (Ev.jn_ret g4) (Ev.iteF (by simp) Ev.rfl)))
  · refine .inr ⟨g1, ?_⟩
    unfold impl_OwnerOf slices_IndexFunc_Reader
    exact Ev.bind e (Ev.iteF rfl (Ev.bind (Ev.jn g2 Ev.rfl) (Ev.iteT (by decide) Ev.rfl)))
theorem own_body {v18 : Readers_ × List Bool × Bool} {p i : Nat} {x : Reader} {s w : Int} (hx : v18.1.Readers[i]? = some x) (hs : x.Share.length ≤ 1048576) (h0 : 0 ≤ s) (h1 : s ≤ 100) : ∃ c : Bool, Ev (fun _ => laws_FnReaders_b1 v18 p i s w v18.1.Readers) (if c = true then .nxt (s + 1, (i : Int), v18.1.Readers) else .nxt (s, w, v18.1.Readers)) ∧ (c = true ↔ Owns v18.1 (p : Int) x) := by
  unfold laws_FnReaders_b1
  rw [geti_nat hx]
  simp only [Option.bind_some]
  obtain ⟨c, ec, hc⟩ := Is.andc (b := (x.In && (decide (x.Generation = v18.1.Generation)))) (P := x.In = true ∧ x.Generation = v18.1.Generation) (by simp) (laws_has_is (l := x.Share) (v := (p : Int)) (by omega))
  refine ⟨c, ?_, hc⟩
  refine Ev.bind ec ?_
  cases c with
  | true => rw [i64_id (by omega) (by omega)]; exact Ev.rfl
  | false => exact Ev.rfl
theorem count_none {v18 : Readers_ × List Bool × Bool} {p : Nat} (hn : v18.1.nn ≤ 1048576) (h : ∀ (i : Nat) (x : Reader), v18.1.Readers[i]? = some x → ¬ Owns v18.1 (p : Int) x) : Ev (fun _ => rangeI (fun i174 (s295 : Int × Int × List Reader) => laws_FnReaders_b1 v18 p i174 s295.1 s295.2.1 s295.2.2) (List.length v18.1.Readers : Int) (0, 0, v18.1.Readers)) (.nxt (0, 0, v18.1.Readers)) := by
  obtain ⟨n1, n2, n3, n4⟩ := rd_nn hn
  simp only [rangeI_L]
  refine rangeL_Ev (by simp; omega) (fun i q s => i + q.length = v18.1.Readers.length ∧ s = (0, 0, v18.1.Readers)) ⟨by simp, rfl⟩ (fun i x q s ⟨h1, hs⟩ => .inl ?_) (fun i s ⟨h1, hs⟩ => by rw [hs])
  subst hs
  simp only [List.length_cons] at h1
  obtain ⟨x, hx⟩ := get_lt (l := v18.1.Readers) (i := i) (by omega)
  obtain ⟨c, e, hc⟩ := own_body (p := p) (s := 0) (w := 0) hx (n4 i x hx).1 (by omega) (by omega)
  have : c = false := by
    cases c with
    | false => rfl
    | true => exact absurd (hc.1 rfl) (h i x hx)
  subst this
  exact ⟨_, e, by omega, rfl⟩
theorem count_one {v18 : Readers_ × List Bool × Bool} {p j : Nat} {y : Reader} (hn : v18.1.nn ≤ 1048576) (hg : grP v18.1) (hy : v18.1.Readers[j]? = some y) (ho : Owns v18.1 (p : Int) y) : Ev (fun _ => rangeI (fun i174 (s295 : Int × Int × List Reader) => laws_FnReaders_b1 v18 p i174 s295.1 s295.2.1 s295.2.2) (List.length v18.1.Readers : Int) (0, 0, v18.1.Readers)) (.nxt (1, (j : Int), v18.1.Readers)) := by
  obtain ⟨n1, n2, n3, n4⟩ := rd_nn hn
  have hj := (List.getElem?_eq_some_iff.1 hy).1
  simp only [rangeI_L]
  refine rangeL_Ev (by simp; omega) (fun i q s => i + q.length = v18.1.Readers.length ∧ s = if i ≤ j then (0, 0, v18.1.Readers) else (1, (j : Int), v18.1.Readers)) ⟨by simp, by simp⟩ (fun i x q s ⟨h1, hs⟩ => .inl ?_) (fun i s ⟨h1, hs⟩ => by rw [hs, if_neg (by simp at h1; omega)])
  simp only [List.length_cons] at h1
  obtain ⟨x, hx⟩ := get_lt (l := v18.1.Readers) (i := i) (by omega)
  rcases Nat.lt_trichotomy i j with hij | hij | hij
  · rw [if_pos (by omega)] at hs
    subst hs
    obtain ⟨c, e, hc⟩ := own_body (p := p) (s := 0) (w := 0) hx (n4 i x hx).1 (by omega) (by omega)
    have : c = false := by
      cases c with
      | false => rfl
      | true => exact absurd (owns_one hg hx hy (hc.1 rfl) ho) (by omega)
    subst this
    exact ⟨_, e, by omega, by rw [if_pos (by omega)]⟩
  · subst hij
    rw [if_pos (by omega)] at hs
    subst hs
    obtain ⟨c, e, hc⟩ := own_body (p := p) (s := 0) (w := 0) hx (n4 i x hx).1 (by omega) (by omega)
    rw [hy] at hx
    cases hx
    have : c = true := hc.2 ho
    subst this
    exact ⟨_, e, by omega, by rw [if_neg (by omega)]; rfl⟩
  · rw [if_neg (by omega)] at hs
    subst hs
    obtain ⟨c, e, hc⟩ := own_body (p := p) (s := 1) (w := (j : Int)) hx (n4 i x hx).1 (by omega) (by omega)
    have : c = false := by
      cases c with
      | false => rfl
      | true => exact absurd (owns_one hg hx hy (hc.1 rfl) ho) (by omega)
    subst this
    exact ⟨_, e, by omega, by rw [if_neg (by omega)]⟩
/-- What is left to read. -/
def leftN (E C : List Int) : Int := match E, C with
  | e :: E, c :: C => (e - c) + leftN E C
  | _, _ => 0
theorem left_mono : ∀ {E C C' : List Int}, C.length = E.length → C'.length = E.length → (∀ (p : Nat) (c c' : Int), C[p]? = some c → C'[p]? = some c' → c ≤ c') → leftN E C' ≤ leftN E C := by
  intro E
  induction E with
  | nil => intro C C' _ _ _; simp [leftN]
  | cons e E ih =>
    intro C C' h1 h2 h
    match C, C', h1, h2 with
    | c :: C, c' :: C', h1, h2 =>
      have h0 := h 0 c c' rfl rfl
      have := ih (C := C) (C' := C') (by simpa using h1) (by simpa using h2) (fun p a b ha hb => h (p + 1) a b (by simpa using ha) (by simpa using hb))
      simp only [leftN]
      omega
theorem left_ev {r : Readers_} (h : grP r) (hn : r.nn ≤ 1048576) : Ev (fun _ => impl_LeftToRead r) (leftN r.Ends r.Committed, true) := by
  obtain ⟨b, e, hb⟩ := impl_group_is hn
  have hbt : b = true := hb.2 h
  subst hbt
  have hok := grP_ok h
  have hlen := hok.ne
  unfold impl_LeftToRead
  refine Ev.bind e (Ev.iteF rfl (Ev.jn (s := leftN r.Ends r.Committed) ?_ Ev.rfl))
  refine rangeL_Ev (by omega) (fun i q s => r.Ends.drop i = q ∧ 0 ≤ s ∧ s ≤ 100 * i ∧ s + leftN q (r.Committed.drop i) = leftN r.Ends r.Committed) ⟨by simp, by omega, by omega, by simp⟩ (fun i x q s ⟨h1, h2, h3, h4⟩ => .inl ?_) (fun i s ⟨h1, h2, h3, h4⟩ => by rw [← h4]; simp [leftN])
  have hx : r.Ends[i]? = some x := by have := congrArg (fun z => z[0]?) h1; simpa using this
  have hi := (List.getElem?_eq_some_iff.1 hx).1
  obtain ⟨c, hc⟩ := get_lt (l := r.Committed) (i := i) (by rw [hok.com]; omega)
  have hce := hok.cat_ i c x hc hx
  have hee := hok.ends i x hx
  have hd : r.Committed.drop i = c :: r.Committed.drop (i + 1) := by
    have hil := (List.getElem?_eq_some_iff.1 hc).1
    rw [List.drop_eq_getElem_cons hil]
    congr 1
    exact (List.getElem?_eq_some_iff.1 hc).2
  rw [hd] at h4
  simp only [leftN] at h4
  refine ⟨s + (x - c), Ev.of ?_, by have := congrArg (List.drop 1) h1; simpa [List.drop_drop] using this, by omega, by omega, by omega⟩
  unfold impl_LeftToRead_b1
  rw [geti_nat hc, Option.bind_some, i64_id (n := x - c) (by omega) (by omega), i64_id (by omega) (by omega)]
theorem FnReaders_pure (v_0 : List Int) (w0 : wfL 1 inU8 v_0) (v_1 : List Int) (w1 : wfL 1 inU8 v_1) : ∃ k, laws_FnReaders k v_0 v_1 = some true := by
  suffices h : Ev (fun k => laws_FnReaders k v_0 v_1) true by
    obtain ⟨K, h⟩ := h
    exact ⟨K, h K (Nat.le_refl _)⟩
  have wl0 := w0.1
  have wl1 := w1.1
  unfold laws_FnReaders
  by_cases hbig : (1048576 : Int) < IntKind.wrap .i64 ((List.length v_0 : Int) + (List.length v_1 : Int))
  · exact Ev.iteT (by simpa using hbig) Ev.rfl
  refine Ev.iteF (by simpa using hbig) ?_
  obtain ⟨n, E, l, hdr, hE, hl, hd⟩ := DrawPlay_ok (code := v_0) (fun x hx => w0.2 x hx)
  refine Ev.bind hdr ?_
  obtain ⟨⟨r0, b⟩, e1, e2, hr⟩ := new_ok n E (by omega)
  by_cases hok : b = true ∧ l.length ≤ 80
  · obtain ⟨rfl, hl80⟩ := hok
    obtain ⟨hg0, m0, hm, hm1, hm2, hm3⟩ := hr rfl
    obtain ⟨d, r', hp, hg'⟩ := plays_ex (l := l) (fun x hx => by have := hd x hx; exact ⟨by unfold DrawnS at this; omega, by unfold DrawnS at this; omega⟩) hg0
    have hnn : r'.nn ≤ 1048576 := Nat.le_trans hg'.nn_le (by omega)
    have hgr0 : grP r0 := by
      have hm : r0 = newR m0 E := hm
      rw [hm]
      exact newR_grP hm1 hm2 hm3
    have hgr := hp.grP hgr0
    refine Ev.bind (play_impl e2 hp hl80) (Ev.bind (play_spec e1 hg0 hp hg' hl80) ?_)
    have hdl := hp.len
    refine Ev.bind (a := false) (Ev.iteF (by simp) (Ev.bind (sameBools_refl (by dsimp only; omega)) Ev.rfl)) ?_
    refine Ev.bind (a := false) (Ev.iteF rfl (Ev.bind (sameReaders_refl hnn) Ev.rfl)) ?_
    refine Ev.iteF rfl (Ev.iteF rfl ?_)
    obtain ⟨b, eb, hb⟩ := impl_group_is hnn
    have hbt : b = true := hb.2 hgr
    subst hbt
    unfold impl_GoodReaders
    refine Ev.bind (Ev.bind eb Ev.rfl) (Ev.iteF rfl ?_)
    refine Ev.jn (s := r'.Readers) ?_ ?_
    · simp only [rangeI_L]
      refine rangeL_Ev (by simp; omega) (fun i q s => s = r'.Readers) rfl (fun i x q s hs => .inl ⟨r'.Readers, ?_, rfl⟩) (fun i s hs => by rw [hs])
      subst hs
      unfold laws_FnReaders_b2
      rcases owner_ev hgr hnn (i : Int) with ⟨j, y, g1, g2, g3⟩ | ⟨g1, g2⟩
      · refine Ev.jn (count_one (v18 := (r', d, true)) hnn hgr g1 g2) ?_
        unfold laws_FnReaders_j1
        exact Ev.bind g3 (Ev.iteF (by simp) Ev.rfl)
      · refine Ev.jn (count_none (v18 := (r', d, true)) hnn g1) ?_
        unfold laws_FnReaders_j1
        exact Ev.bind g2 (Ev.iteF (by simp) Ev.rfl)
    · unfold laws_FnReaders_j3
      obtain ⟨m, em, q0, q1⟩ := numberOf_ok (l := v_1) (by omega) (fun x hx => w1.2 x hx)
      have ew : IntKind.wrap .i64 ((List.length l : Int) + 1) = (List.length l : Int) + 1 := i64_id (by omega) (by omega)
      refine Ev.bind em ?_
      dsimp only
      rw [ew]
      have hk0 : 0 ≤ Int.tmod m ((List.length l : Int) + 1) := Int.tmod_nonneg _ q0
      have hk1 : Int.tmod m ((List.length l : Int) + 1) < (List.length l : Int) + 1 := Int.tmod_lt_of_pos _ (by omega)
      rw [ck_pos (by omega)]
      generalize Int.tmod m ((List.length l : Int) + 1) = q at hk0 hk1
      obtain ⟨rk, c1, c2⟩ := hp.cut q.toNat
      have hsl : sl l 0 q = some (l.take q.toNat) := by unfold sl; rw [if_pos (by omega)]; rfl
      have hkok : GrOk rk := c1.ok hg0
      have hknn : rk.nn ≤ 1048576 := Nat.le_trans hkok.nn_le (by omega)
      have hkg := c1.grP hgr0
      obtain ⟨⟨d1, d2⟩, d3⟩ := c2.com
      refine Ev.bindp hsl (Ev.bind (play_impl e2 c1 (by rw [List.length_take]; omega)) (Ev.bind (left_ev hkg hknn) (Ev.bind (left_ev hgr hnn) ?_)))
      have hmono : leftN r'.Ends r'.Committed ≤ leftN rk.Ends rk.Committed := by
        rw [d1]
        exact left_mono hkok.com (by rw [d3]; exact hkok.com) d2
      refine Ev.iteF (by simp; omega) (Ev.jn (nxt_rangeI (by omega) (fun i hi => ?_)) Ev.rfl)
      unfold laws_FnReaders_b3
      have hEe : r'.Ends = E := by
        have hm : r0 = newR m0 E := hm
        rw [hp.com.1.1, hm]
        rfl
      obtain ⟨a, ha⟩ := get_lt (l := rk.Committed) (i := i) (by rw [← d3, hg'.com, hEe]; exact hi)
      obtain ⟨c, hc⟩ := get_lt (l := r'.Committed) (i := i) (by rw [hg'.com, hEe]; exact hi)
      rw [geti_nat ha]
      simp only [geti_nat hc, Option.bind_some]
      have := d2 i a c ha hc
      exact Ev.iteF (by simp; omega) Ev.rfl
  · refine Ev.bind (play_impl_no e2 ?_) (Ev.bind (play_spec_no e1 ?_) ?_)
    · cases b with
      | false => exact .inl rfl
      | true => exact .inr (by simp at hok; omega)
    · cases b with
      | false => exact .inl rfl
      | true => exact .inr (by simp at hok; omega)
    · refine Ev.bind (a := false) (Ev.iteF rfl (Ev.bind (sameBools_refl (by decide)) Ev.rfl)) ?_
      refine Ev.bind (a := false) (Ev.iteF rfl (Ev.bind (sameReaders_refl (by decide)) Ev.rfl)) ?_
      exact Ev.iteF rfl (Ev.iteT rfl Ev.rfl)
end Go.Proofs.Ytdhibknhejhfaaa.X
