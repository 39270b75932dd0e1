/- FnPictures: the picture that is taken while all goes on has just what there is. -/
import Derived.Test.YtpkiieniipenjaaXBL8i
import Derived.Test.YtpkiieniipenjaaXBL8q
import Derived.Test.YtpkiieniipenjaaZFit
set_option linter.unusedVariables false
set_option linter.unusedSimpArgs false
namespace Go.Proofs.Ytpkiieniipenjaa.X
open Go

theorem sameSnaps_refl {s : Snap} (h : s.nn ≤ 1048576) : Ev (fun _ => laws_sameSnaps s s) true := by
  obtain ⟨h1, h2, h3, h4, h5⟩ := sn_nn h
  unfold laws_sameSnaps
  refine Ev.bind (sameInts_refl (by omega)) (Ev.iteF (by simp) (Ev.jn (nxt_rangeI (by omega) (fun i hi => ?_)) ?_))
  · obtain ⟨c, hc⟩ := get_lt hi
    have := h4 i c hc
    unfold laws_sameSnaps_b1
    simp only [geti_nat hc, Option.bind_some]
    refine Ev.bind (a := false) (Ev.iteF (by simp) (Ev.of (by simp))) (Ev.iteF rfl ?_)
    exact Ev.bind (sameInts_refl (by omega)) (Ev.iteF rfl Ev.rfl)
  · unfold laws_sameSnaps_j2
    refine Ev.jn (nxt_rangeI (by omega) (fun i hi => ?_)) Ev.rfl
    obtain ⟨x, hx⟩ := get_lt hi
    obtain ⟨a1, a2⟩ := h5 i x hx
    unfold laws_sameSnaps_b2
    simp only [geti_nat hx, Option.bind_some]
    refine Ev.bind (a := false) (Ev.iteF (by simp) (Ev.bind (sameInts_refl (by omega)) Ev.rfl)) ?_
    exact Ev.bind (a := false) (Ev.iteF rfl (Ev.bind (sameBools_refl (by omega)) Ev.rfl)) (Ev.iteF rfl Ev.rfl)
theorem Plays.total {p n : Nat} {s s' : Snap} {l : List SnapStep} {d : List Bool} (h : Plays p n s l d s') : s'.Total = s.Total := by
  induction h with
  | nil => rfl
  | cons _ _ _ _ hr _ ih => rw [ih, hr.total]
theorem FnPictures_pure (v_0 : List Int) (w0 : wfL 1 inU8 v_0) : ∃ k, laws_FnPictures k v_0 = some true := by
  suffices h : Ev (fun k => laws_FnPictures k v_0) true by
    obtain ⟨K, h⟩ := h
    exact ⟨K, h K (Nat.le_refl _)⟩
  unfold laws_FnPictures
  by_cases hbig : (1048576 : Int) < (List.length v_0 : Int)
  · exact Ev.iteT (by simpa using hbig) Ev.rfl
  refine Ev.iteF (by simpa using hbig) ?_
  obtain ⟨n, a, l, hdr, hl⟩ := DrawPlay_ok (code := v_0) (fun x hx => w0.2 x hx)
  refine Ev.bind hdr ?_
  have hno : ∀ {r1 r2 : Snap × List Bool × Bool}, r1 = (⟨[], [], [], 0, 0⟩, [], false) → r2 = (⟨[], [], [], 0, 0⟩, [], false) → (!(r1.2.2 == r2.2.2)) = false := by
    rintro r1 r2 rfl rfl; rfl
  have out : (¬ ((2 ≤ n ∧ n ≤ 4) ∧ (0 ≤ a ∧ a ≤ 250)) ∨ 80 < l.length) → Ev (fun k => spec_PlaySnap k n a l) (⟨[], [], [], 0, 0⟩, [], false) → Ev (fun k => ((impl_PlaySnap n a l).bind fun v14 => ((spec_PlaySnap k n a l).bind fun v46 => ((if
    (!(v14.2.2 == v46.2.2)) = true then (some true) else ((laws_sameBools v14.2.1 v46.2.1).bind fun v81 => (some (!v81)))).bind fun v81 => ((if v81 = true then (some true) else
    ((laws_sameSnaps v14.1 v46.1).bind fun v102 => (some (!v102)))).bind fun v102 => (if v102 = true then (some false) else (if (!v14.2.2) = true then (some (decide
    ((List.length v14.2.1 : Int) = 0))) else ((impl_OnWay k v14.1).bind fun v121 => (jn (rangeI (fun i126 s158 => laws_FnPictures_b1 v14 i126 s158)
    (List.length v14.1.Amounts : Int) v121.1) (fun s291 => laws_FnPictures_j1 k (n, a, l) v14 v121 s291)))))))))) true := by
    intro h1 h2
    refine Ev.bind (play_impl_no h1) (Ev.bind h2 ?_)
    refine Ev.bind (a := false) (Ev.iteF rfl (Ev.bind (sameBools_refl (by decide)) Ev.rfl)) ?_
    refine Ev.bind (a := false) (Ev.iteF rfl (Ev.bind (sameSnaps_refl (by decide)) Ev.rfl)) ?_
    exact Ev.iteF rfl (Ev.iteT rfl Ev.rfl)
  rcases new_ok n a with ⟨p, rfl, hp2, ha, e1, e2⟩ | ⟨hn, e1⟩
  rotate_left
  · exact out (.inl hn) (play_spec_no e1 (.inl rfl))
  by_cases hl80 : l.length ≤ 80
  rotate_left
  · exact out (.inr (by omega)) (play_spec_no e1 (.inr (by omega)))
  obtain ⟨d, s, hpl, hs⟩ := plays_ex (l := l) (n := 0) (newS_inv hp2 ha) (by omega)
  have hg := hpl.keepG (newS_G hp2)
  have hdl := hpl.len
  have htot : s.Total = (p : Int) * a := hpl.total
  have hsn := Nat.le_trans hs.ok.nn_le (show 1000 ≤ 1048576 by omega)
  refine Ev.bind (play_impl hp2 ha e2 hpl hl80) (Ev.bind (play_spec e1 hpl hs.ok hl80) ?_)
  refine Ev.bind (a := false) (Ev.iteF (by simp) (Ev.bind (sameBools_refl (by dsimp only; omega)) Ev.rfl)) ?_
  refine Ev.bind (a := false) (Ev.iteF rfl (Ev.bind (sameSnaps_refl hsn) Ev.rfl)) ?_
  refine Ev.iteF rfl (Ev.iteF rfl (Ev.bind (OnWay_ev (by omega) hs hg) ?_))
  have ham := hs.ok.am
  have hwn := sum_nn hs.ways
  have han := sum_nn hs.an
  have hsum := hs.sum
  have ht := hs.tot
  refine Ev.jn (s := s.Total) ?_ ?_
  · simp only [rangeI_L]
    refine rangeL_Ev (by simp; omega) (fun i q u => i + q.length = s.Amounts.length ∧ (wayS s.Chans).sum ≤ u ∧ u ≤ 1000 + 1000 * (i : Int) ∧ u + (s.Amounts.drop i).sum = s.Total) ⟨by simp, Int.le_refl _, by omega, by simp; omega⟩ (fun i x q u ⟨h1, h2, h3, h4⟩ => .inl ?_) (fun i u ⟨h1, h2, h3, h4⟩ => ?_)
    · simp only [List.length_cons] at h1
      have hi : i < s.Amounts.length := by omega
      have hx : s.Amounts[i]? = some s.Amounts[i] := List.getElem?_eq_getElem hi
      have hab := hs.am_le (List.mem_of_getElem? hx)
      rw [List.drop_eq_getElem_cons hi, List.sum_cons] at h4
      refine ⟨u + s.Amounts[i], Ev.of ?_, by omega, by omega, by omega, by omega⟩
      unfold laws_FnPictures_b1
      rw [geti_nat hx, Option.bind_some, i64_id (by omega) (by omega)]
    · simp only [List.length_nil, Nat.add_zero] at h1
      rw [h1, List.drop_length] at h4
      simp at h4
      rw [h4]
  · unfold laws_FnPictures_j1
    unfold impl_GoodSnap
    have hm := mul_ok (n := (p : Int)) (by omega) (by omega) ha
    refine Ev.bind (Ev.bind (isSnap_ev (by omega) hs hg) Ev.rfl) (Ev.iteF ?_ ?_)
    · dsimp only
      rw [hm, htot]
      simp
    have hpic : ∃ v : Int × Bool, Ev (fun k => impl_PictureOf k s) v ∧ (v.2 && decide (v.1 ≠ s.Total)) = false := by
      rcases picture_ev (by omega) hs hg with ⟨_, e⟩ | ⟨_, e⟩
      · exact ⟨_, e, by simp⟩
      · exact ⟨_, e, rfl⟩
    obtain ⟨v, ev, hv⟩ := hpic
    refine Ev.bind ev (Ev.iteF hv ?_)
    obtain ⟨f, m, two, ef, hd⟩ := finish_ev (by omega) hs hg
    refine Ev.bind ef ?_
    cases two with
    | false => exact Ev.iteF rfl Ev.rfl
    | true =>
      have hD := hd rfl
      obtain ⟨q, hq, hi⟩ := hD.inv
      refine Ev.iteT rfl ?_
      rcases picture_ev hq hi hD.g with ⟨_, e⟩ | ⟨hnw, e⟩
      · refine Ev.bind e (Ev.bind (OnWay_ev hq hi hD.g) (Ev.bind (a := false) (Ev.iteF ?_ (Ev.bind (Ev.bind (isSnap_ev hq hi hD.g) Ev.rfl) Ev.rfl)) (Ev.iteF rfl Ev.rfl)))
        rw [hD.way, hD.tot]
        simp
      · exact absurd hD.whole hnw
end Go.Proofs.Ytpkiieniipenjaa.X
