/- SettleGroup: one answer. -/
import Derived.Test.YtefgfcalgjmhjaaXAL11a
import Derived.Test.YtefgfcalgjmhjaaXAW
set_option linter.unusedVariables false
set_option linter.unusedSimpArgs false
namespace Go.Proofs.Ytefgfcalgjmhjaa.X
open Go

theorem appN_nil {α : Type} {b : Nat} {l : List α} (h : l.length * b ≤ 70368744177664) : appN b ([] : List α) l = some l := by
  unfold appN
  rw [if_pos (by simpa using h)]
  simp
theorem own_loop {B : Nat → Replica → Group → Option (Oc Group Group)} {g : Group} (h : g.nn ≤ 1048576) (hB : ∀ i x s, g.Replicas[i]? = some x → s.Replicas.length ≤ 1048576 → B i x s = some (.nxt ⟨s.Epoch, s.Leader, g.InStep, s.High, s.Replicas ++ [x]⟩)) :
    Ev (fun _ => rangeL B g.Replicas ⟨g.Epoch, g.Leader, g.InStep, g.High, []⟩) (.nxt g) := by
  obtain ⟨n1, n2, n3⟩ := gr_nn h
  refine rangeL_Ev (B := fun _ => B) (by omega) (fun i q s => g.Replicas.drop i = q ∧ s = ⟨g.Epoch, g.Leader, g.InStep, g.High, g.Replicas.take i⟩) ⟨rfl, by simp⟩ (fun i x q s ⟨hq, hs⟩ => .inl ?_) (fun i s ⟨hq, hs⟩ => ?_)
  · subst hs
    have hx : g.Replicas[i]? = some x := by have := congrArg (fun z => z[0]?) hq; simpa using this
    refine ⟨_, Ev.of (hB i x _ hx (by dsimp only; rw [List.length_take]; omega)), by have := congrArg (List.drop 1) hq; simpa [List.drop_drop] using this, ?_⟩
    dsimp only
    rw [List.take_add_one, hx]
    rfl
  · subst hs
    have hi : g.Replicas.length ≤ i := by have := congrArg List.length hq; simp at this; omega
    rw [List.take_of_length_le hi]
theorem own_spec {g : Group} (h : g.nn ≤ 1048576) : Ev (fun _ => spec_l11Own g) g := by
  obtain ⟨n1, n2, n3⟩ := gr_nn h
  unfold spec_l11Own
  refine Ev.bindp (appN_nil (by omega)) (Ev.jn (own_loop h (fun i x s hx hs => ?_)) Ev.rfl)
  have := n3 i x hx
  unfold spec_l11Own_b1
  rw [appN_nil (by omega), Option.bind_some]
  unfold appN
  rw [if_pos (by simp; omega)]
  rfl
theorem own_impl {g : Group} (h : g.nn ≤ 1048576) : Ev (fun _ => impl_copyGroup g) g := by
  obtain ⟨n1, n2, n3⟩ := gr_nn h
  unfold impl_copyGroup
  refine Ev.bindp (appN_nil (by omega)) (Ev.jn (own_loop h (fun i x s hx hs => ?_)) Ev.rfl)
  have := n3 i x hx
  unfold impl_copyGroup_b1
  rw [appN_nil (by omega), Option.bind_some]
  unfold appN
  rw [if_pos (by simp; omega)]
  rfl

def iota (n : Nat) : List Int := (List.range n).map fun (i : Nat) => (i : Int)
theorem iota_len {n : Nat} : (iota n).length = n := by simp [iota]
theorem iota_succ {n : Nat} : iota (n + 1) = iota n ++ [(n : Int)] := by simp [iota, List.range_succ]
theorem iota_mem {n : Nat} {z : Int} (h : z ∈ iota n) : 0 ≤ z ∧ z < n := by
  simp only [iota, List.mem_map, List.mem_range] at h
  obtain ⟨i, h1, rfl⟩ := h
  omega
/-- A number put into a row that rises. -/
theorem put_ev {A B : List Int} {v : Int} (hl : (A ++ B).length ≤ 1000) (hA : ∀ z ∈ A, z < v) (hB : ∀ z ∈ B, v ≤ z) : Ev (fun k => spec_l1Put k (A ++ B) v) (if B.head? = some v then A ++ B else A ++ v :: B) := by
  unfold spec_l1Put
  have hlA : A.length + B.length ≤ 1000 := by simpa using hl
  refine Ev.jn (s := (A.length : Int)) (Ev.loop (fun s => ∃ i : Nat, i ≤ A.length ∧ s = (i : Int)) (fun s => A.length - s.toNat) ⟨0, by omega, rfl⟩ ?_) ?_
  · rintro s ⟨i, hi, rfl⟩
    unfold spec_l1Put_b1
    by_cases h : i < A.length
    · have hg : (A ++ B)[i]? = some A[i] := by rw [List.getElem?_append_left h]; exact List.getElem?_eq_getElem h
      refine .inl ⟨((i + 1 : Nat) : Int), ?_, ⟨i + 1, by omega, rfl⟩, by simp only [Int.toNat_natCast]; omega⟩
      rw [if_pos (by simp; omega), geti_nat hg, Option.bind_some, Option.bind_some, if_pos (by simpa using hA _ (List.getElem_mem h)), wadd (by omega)]
    · have hi : i = A.length := by omega
      subst hi
      refine .inr (.inl ⟨_, ?_, rfl⟩)
      by_cases hb : B = []
      · subst hb
        rw [if_neg (by simp)]
        rfl
      · obtain ⟨w, B', rfl⟩ := List.exists_cons_of_ne_nil hb
        have hg : (A ++ w :: B')[A.length]? = some w := by simp
        have := hB w (by simp)
        rw [if_pos (by simp; omega), geti_nat hg, Option.bind_some, Option.bind_some, if_neg (by simp; omega)]
  · unfold spec_l1Put_j1
    have tail : ∀ {C : List Int}, C = B → Ev (fun _ => ((sl (A ++ B) 0 (A.length : Int)).bind fun l76 => ((appN 8 ([] : List Int) l76).bind fun l83 => ((appN 8 l83 [v]).bind fun l98 => ((sl (A ++ B) (A.length : Int) (List.length (A ++ B))).bind fun l107 => ((appN 8 l98 l107).bind fun l114 => (some l114))))))) (A ++ v :: B) := by
      intro C _
      have s1 : sl (A ++ B) 0 (A.length : Int) = some A := by rw [sl_take (by simp)]; simp
      have s2 : sl (A ++ B) (A.length : Int) ((A ++ B).length : Nat) = some B := by rw [sl_drop (by simp)]; simp
      refine Ev.bindp s1 (Ev.bindp (appN_nil (by omega)) (Ev.bindp (a := A ++ [v]) (by unfold appN; rw [if_pos (by simp; omega)]) (Ev.bindp s2 (Ev.bindp (a := A ++ v :: B) ?_ Ev.rfl))))
      unfold appN
      rw [if_pos (by simp; omega)]
      simp
    by_cases hb : B = []
    · subst hb
      have e0 : (if ([] : List Int).head? = some v then A ++ [] else A ++ v :: []) = A ++ v :: [] := if_neg (by simp)
      rw [e0]
      refine Ev.bind (a := false) (Ev.iteF (by simp) Ev.rfl) (Ev.iteF rfl (tail rfl))
    · obtain ⟨w, B', rfl⟩ := List.exists_cons_of_ne_nil hb
      have hg : (A ++ w :: B')[A.length]? = some w := by simp
      refine Ev.bind (a := decide (w = v)) (Ev.iteT (by simp; omega) (Ev.bindp (geti_nat hg) Ev.rfl)) ?_
      by_cases e : w = v
      · subst e
        have e0 : (if (w :: B').head? = some w then A ++ w :: B' else A ++ w :: w :: B') = A ++ w :: B' := if_pos (by simp)
        rw [e0]
        exact Ev.iteT (by simp) Ev.rfl
      · have e0 : (if (w :: B').head? = some v then A ++ w :: B' else A ++ v :: w :: B') = A ++ v :: w :: B' := if_neg (by simpa using e)
        rw [e0]
        exact Ev.iteF (by simpa using e) (tail rfl)
theorem memP_pair {l : List Int} {n : Int} (h : memP l n) : l.Pairwise (· < ·) := by
  rw [List.pairwise_iff_getElem]
  have key : ∀ d i (hi : i < l.length) (hj : i + d + 1 < l.length), l[i] < l[i + d + 1] := by
    intro d
    induction d with
    | zero =>
      intro i hi hj
      have := (h (i + 1) l[i + 1] (List.getElem?_eq_getElem hj)).2.2 l[i] (by omega) (by simp)
      simpa using this
    | succ d ih =>
      intro i hi hj
      have h1 := ih i hi (by omega)
      have h2 := (h (i + d + 1 + 1) l[i + d + 1 + 1] (List.getElem?_eq_getElem (by omega))).2.2 l[i + d + 1] (by omega) (by simp)
      have : l[i + (d + 1) + 1] = l[i + d + 1 + 1] := by congr 1
      rw [this]
      omega
  intro i j hi hj hij
  have := key (j - i - 1) i hi (by omega)
  have e : i + (j - i - 1) + 1 = j := by omega
  simpa [e] using this
/-- What is left of a row that rises, from a number on. -/
def from_ (l : List Int) (i : Int) : List Int := l.filter fun z => decide (i ≤ z)
theorem from_step {l : List Int} (h : l.Pairwise (· < ·)) {i : Int} : from_ l i = if (from_ l i).head? = some i then i :: from_ l (i + 1) else from_ l (i + 1) := by
  induction l with
  | nil => simp [from_]
  | cons x l ih =>
    have hp := List.pairwise_cons.1 h
    have ih := ih hp.2
    unfold from_ at ih ⊢
    by_cases h1 : x < i
    · rw [List.filter_cons_of_neg (by simp; omega), List.filter_cons_of_neg (by simp; omega)]
      exact ih
    · rw [List.filter_cons_of_pos (by simp; omega)]
      by_cases h2 : x = i
      · subst h2
        rw [if_pos (by simp), List.filter_cons_of_neg (by simp; omega)]
        congr 1
        apply List.filter_congr
        intro z hz
        have := hp.1 z hz
        simp only [decide_eq_decide]; omega
      · rw [if_neg (by simpa using h2), List.filter_cons_of_pos (by simp; omega)]
        congr 1
        apply List.filter_congr
        intro z hz
        have := hp.1 z hz
        simp only [decide_eq_decide]; omega
theorem memP_len {l : List Int} {n : Nat} (h : memP l n) : l.length ≤ n := by
  have key : ∀ i (hi : i < l.length), (i : Int) ≤ l[i] := by
    intro i
    induction i with
    | zero => intro hi; exact (h 0 l[0] (List.getElem?_eq_getElem hi)).1
    | succ i ih =>
      intro hi
      have h1 := ih (by omega)
      have h2 := (h (i + 1) l[i + 1] (List.getElem?_eq_getElem hi)).2.2 l[i] (by omega) (by simp)
      omega
  by_cases h0 : l.length = 0
  · omega
  · have h1 := key (l.length - 1) (by omega)
    have h2 := (h (l.length - 1) l[l.length - 1] (List.getElem?_eq_getElem (by omega))).2.1
    omega

/-- All replicas that came before have all; the others are as they were. -/
def reps (R : List Replica) (x : Replica) (i : Nat) : List Replica := List.replicate i x ++ R.drop i
theorem reps_get {R : List Replica} {x : Replica} {i j : Nat} (hi : i ≤ R.length) (hj : j < R.length) : (reps R x i)[j]? = some (if j < i then x else R[j]) := by
  unfold reps
  by_cases h : j < i
  · rw [List.getElem?_append_left (by simpa using h), if_pos h]
    simp [h]
  · rw [List.getElem?_append_right (by simpa using h), if_neg h, List.length_replicate, List.getElem?_drop, show i + (j - i) = j by omega]
    exact List.getElem?_eq_getElem hj
theorem reps_set {R : List Replica} {x : Replica} {i : Nat} (hi : i < R.length) : (reps R x i).set i x = reps R x (i + 1) := by
  unfold reps
  rw [List.set_append_right _ _ (by simp), List.length_replicate, Nat.sub_self, List.drop_eq_getElem_cons hi, List.set_cons_zero, List.replicate_succ']
  simp
theorem reps_len {R : List Replica} {x : Replica} {i : Nat} (hi : i ≤ R.length) : (reps R x i).length = R.length := by
  unfold reps; simp; omega
theorem reps_all {R : List Replica} {x : Replica} : reps R x R.length = List.replicate R.length x := by
  unfold reps; simp
section
variable {g : Group}
/-- One replica that has fetched all (the program's). -/
theorem fetch_impl {s : Group} {i : Nat} {x y : Replica} {L : List Row} (hL : L.length ≤ 30) (hx : s.Replicas[i]? = some x) (hxl : x.Log.length ≤ 30) (hy : geti s.Replicas s.Leader = some y) (hyl : y.Log = L) (hne : s.Leader ≠ (i : Int)) :
    Ev (fun k => impl_Group_fetch k s (i : Int) 30) ⟨s.Epoch, s.Leader, s.InStep, s.High, s.Replicas.set i ⟨L, s.Epoch, L.length⟩⟩ := by
  have hi : i < s.Replicas.length := (List.getElem?_eq_some_iff.1 hx).1
  have hp := pre_le (a := x.Log) (b := L)
  have hs := shared_ev (g := s) (i := (i : Int)) (x := x) (y := y) (by omega) (by rw [hyl]; omega) (geti_nat hx) rfl hy
  rw [hyl] at hs
  unfold impl_Group_fetch
  have s1 : sl L ((pre x.Log L : Nat) : Int) (L.length : Nat) = some (L.drop (pre x.Log L)) := sl_drop hp.2
  have s2 : sl x.Log 0 ((pre x.Log L : Nat) : Int) = some (x.Log.take (pre x.Log L)) := sl_take hp.1
  have hm : mnI 30 ((L.drop (pre x.Log L)).length : Int) = ((L.drop (pre x.Log L)).length : Nat) := by
    unfold mnI
    have : (L.drop (pre x.Log L)).length ≤ 30 := by rw [List.length_drop]; omega
    split <;> omega
  refine Ev.bind hs (Ev.bindp hy ?_)
  rw [hyl]
  refine Ev.bindp s1 (Ev.bindp (geti_nat hx) ?_)
  simp only [ck_pos hne]
  refine Ev.bindp s2 (Ev.bindp (appN_nil (by rw [List.length_take]; omega)) ?_)
  rw [hm]
  refine Ev.bindp (a := L.drop (pre x.Log L)) (by rw [sl_take (Nat.le_refl _), List.take_length]) (Ev.bindp (a := L) ?_ ?_)
  · unfold appN
    rw [if_pos (by rw [List.length_take, List.length_drop]; omega), pre_take, List.take_append_drop]
  · refine Ev.bind (a := ⟨s.Epoch, s.Leader, s.InStep, s.High, s.Replicas.set i ⟨L, s.Epoch, L.length⟩⟩) ?_ Ev.rfl
    unfold impl_Group_know
    refine Ev.bindp (geti_nat (i := i) (x := ⟨L, x.Epoch, x.Known⟩) (by dsimp only; rw [Int.toNat_natCast, List.getElem?_set_self hi])) ?_
    dsimp only
    rw [Int.toNat_natCast, List.set_set]
    exact Ev.rfl
/-- One replica that has fetched all (the specification's). -/
theorem fetch_spec {s : Group} {i : Nat} {x y : Replica} {L : List Row} (hL : L.length ≤ 30) (hx : s.Replicas[i]? = some x) (hxl : x.Log.length ≤ 30) (hy : geti s.Replicas s.Leader = some y) (hyl : y.Log = L) (hne : s.Leader ≠ (i : Int)) :
    Ev (fun k => spec_l11Fetch k s (i : Int) 30) ⟨s.Epoch, s.Leader, s.InStep, s.High, s.Replicas.set i ⟨L, s.Epoch, L.length⟩⟩ := by
  have hp := pre_le (a := x.Log) (b := L)
  unfold spec_l11Fetch
  refine Ev.bindp hy (Ev.bindp (geti_nat hx) ?_)
  simp only [ck_pos hne]
  rw [hyl]
  refine Ev.bind (same_ev (by omega)) ?_
  rw [i64_id (n := (List.length L : Int) - ((pre x.Log L : Nat) : Int)) (by omega) (by omega)]
  refine Ev.bind (a := (List.length L : Int) - ((pre x.Log L : Nat) : Int)) ?_ ?_
  · by_cases h : (List.length L : Int) - ((pre x.Log L : Nat) : Int) < 30
    · exact Ev.iteT (by simpa using h) Ev.rfl
    · refine Ev.iteF (by simpa using h) ?_
      rw [show (List.length L : Int) - ((pre x.Log L : Nat) : Int) = 30 by omega]
      exact Ev.rfl
  · unfold spec_l11Fetch_j1
    rw [hyl, show ((pre x.Log L : Nat) : Int) + ((List.length L : Int) - ((pre x.Log L : Nat) : Int)) = (L.length : Nat) by omega, i64_id (by omega) (by omega)]
    refine Ev.bindp (a := L) (by rw [sl_take (Nat.le_refl _), List.take_length]) (Ev.bindp (appN_nil (by omega)) ?_)
    rw [Int.toNat_natCast]
    exact Ev.rfl
end
theorem sumN_rep {α : Type} {f : α → Nat} {x : α} : ∀ {n : Nat}, sumN f (List.replicate n x) = n * f x := by
  intro n
  induction n with
  | zero => simp [sumN]
  | succ n ih => rw [List.replicate_succ]; simp only [sumN, ih]; rw [Nat.succ_mul]; omega
theorem know_impl {s : Group} {i : Nat} {x : Replica} (hx : s.Replicas[i]? = some x) : Ev (fun _ => impl_Group_know s (i : Int)) ⟨s.Epoch, s.Leader, s.InStep, s.High, s.Replicas.set i ⟨x.Log, s.Epoch, x.Log.length⟩⟩ := by
  unfold impl_Group_know
  refine Ev.bindp (geti_nat hx) ?_
  rw [Int.toNat_natCast]
  exact Ev.rfl
theorem impl_b1_step {i : Nat} {s s' : Group} (h1 : (i : Int) = s.Leader → Ev (fun _ => impl_Group_know s (i : Int)) s') (h2 : (i : Int) ≠ s.Leader → Ev (fun k => impl_Group_fetch k s (i : Int) 30) s') (hl : s'.InStep.length ≤ 1000) : Ev (fun k => impl_SettleGroup_b1 k i s) (.nxt ⟨s'.Epoch, s'.Leader, s'.InStep ++ [(i : Int)], s'.High, s'.Replicas⟩) := by
  have hfin : Ev (fun _ => impl_SettleGroup_j1 i s') (.nxt ⟨s'.Epoch, s'.Leader, s'.InStep ++ [(i : Int)], s'.High, s'.Replicas⟩) := by
    unfold impl_SettleGroup_j1
    rw [app1_ev (by omega), Option.bind_some]
    exact Ev.rfl
  unfold impl_SettleGroup_b1
  by_cases e : (i : Int) = s.Leader
  · exact Ev.bind (Ev.iteT (by simpa using e) (Ev.bind (h1 e) Ev.rfl)) hfin
  · exact Ev.bind (Ev.iteF (by simpa using e) (Ev.bind (h2 e) Ev.rfl)) hfin
theorem spec_b1_step {i : Nat} {s s' : Group} {l : List Int} (h1 : (i : Int) = s.Leader → s = s') (h2 : (i : Int) ≠ s.Leader → Ev (fun k => spec_l11Fetch k s (i : Int) 30) s') (hl : Ev (fun k => spec_l1Put k s'.InStep (i : Int)) l) : Ev (fun k => spec_SettleGroup_b1 k i s) (.nxt ⟨s'.Epoch, s'.Leader, l, s'.High, s'.Replicas⟩) := by
  have hfin : Ev (fun k => spec_SettleGroup_j1 k i s') (.nxt ⟨s'.Epoch, s'.Leader, l, s'.High, s'.Replicas⟩) := by
    unfold spec_SettleGroup_j1
    exact Ev.bind hl Ev.rfl
  unfold spec_SettleGroup_b1
  by_cases e : (i : Int) = s.Leader
  · have := h1 e
    subst this
    exact Ev.bind (Ev.iteF (by simpa using e) Ev.rfl) hfin
  · exact Ev.bind (Ev.iteT (by simpa using e) (Ev.bind (h2 e) Ev.rfl)) hfin
theorem settle_impl {v_0 : Group} {L : List Row} {X y : Replica} (r1 : 2 ≤ v_0.Replicas.length) (r2 : v_0.Replicas.length ≤ 4) (hm : memP v_0.InStep v_0.Replicas.length) (hr : ∀ (j : Nat) (z : Replica), v_0.Replicas[j]? = some z → z.Log.length ≤ 30) (hy2 : v_0.Replicas[v_0.Leader.toNat]? = some y) (hyl : y.Log = L) (l1 : 0 ≤ v_0.Leader) (l2 : v_0.Leader < v_0.Replicas.length) (hLl : L.length ≤ 30) (hN : (⟨L, v_0.Epoch, (L.length : Int)⟩ : Replica) = X) : Ev (fun k => rangeI (fun i59 s155 => impl_SettleGroup_b1 k i59 s155) (List.length v_0.Replicas : Int) ⟨v_0.Epoch, v_0.Leader, [], v_0.High, v_0.Replicas⟩) (.nxt ⟨v_0.Epoch, v_0.Leader, iota v_0.Replicas.length, v_0.High, List.replicate v_0.Replicas.length X⟩) := by
  have hld : v_0.Leader = ((v_0.Leader.toNat : Nat) : Int) := by omega
  have hldlt : v_0.Leader.toNat < v_0.Replicas.length := by omega
  have hXL : X.Log = L := by rw [← hN]
  have hlog : ∀ j (hj : j < v_0.Replicas.length), (v_0.Replicas[j]).Log.length ≤ 30 := fun j hj => hr j _ (List.getElem?_eq_getElem hj)
  have gInt : ∀ {R : List Replica} {z : Replica}, R[v_0.Leader.toNat]? = some z → geti R v_0.Leader = some z := fun h => by unfold geti; rw [if_pos l1]; exact h
  have hnl := memP_len hm
  simp only [rangeI_L]
  refine rangeL_Ev (B := fun k i _ s => impl_SettleGroup_b1 k i s) (by simp; omega) (fun i q s => i + q.length = v_0.Replicas.length ∧ s = ⟨v_0.Epoch, v_0.Leader, iota i, v_0.High, reps v_0.Replicas X i⟩) ⟨by simp, by simp [reps, iota]⟩ (fun i u q s ⟨h1, hs⟩ => .inl ?_) (fun i s ⟨h1, hs⟩ => ?_)
  · subst hs
    simp only [List.length_cons] at h1
    have hi : i < v_0.Replicas.length := by omega
    refine ⟨⟨v_0.Epoch, v_0.Leader, iota (i + 1), v_0.High, reps v_0.Replicas X (i + 1)⟩, ?_, by omega, rfl⟩
    have hxi := reps_get (R := v_0.Replicas) (x := X) (i := i) (j := i) (by omega) hi
    rw [if_neg (by omega)] at hxi
    have hyl2 := reps_get (R := v_0.Replicas) (x := X) (i := i) (j := v_0.Leader.toNat) (by omega) hldlt
    have hst := impl_b1_step (i := i) (s := ⟨v_0.Epoch, v_0.Leader, iota i, v_0.High, reps v_0.Replicas X i⟩) (s' := ⟨v_0.Epoch, v_0.Leader, iota i, v_0.High, reps v_0.Replicas X (i + 1)⟩) (fun e => by
      have e : (i : Int) = v_0.Leader := e
      have ei : i = v_0.Leader.toNat := by omega
      have hz : (v_0.Replicas[i]).Log = L := by
        have : v_0.Replicas[i]? = some y := by rw [ei]; exact hy2
        have h2 := List.getElem?_eq_getElem hi
        rw [this] at h2
        rw [← hyl]
        exact congrArg Replica.Log (Option.some.inj h2).symm
      have hk := know_impl (s := ⟨v_0.Epoch, v_0.Leader, iota i, v_0.High, reps v_0.Replicas X i⟩) (i := i) hxi
      dsimp only at hk
      rw [hz, hN, reps_set hi] at hk
      exact hk) (fun e => by
      have e : (i : Int) ≠ v_0.Leader := e
      have := fetch_impl (s := ⟨v_0.Epoch, v_0.Leader, iota i, v_0.High, reps v_0.Replicas X i⟩) (i := i) hLl hxi (hlog i hi) (gInt hyl2) (by
        split
        · exact hXL
        · have h2 := List.getElem?_eq_getElem hldlt
          rw [hy2] at h2
          rw [← hyl]
          exact congrArg Replica.Log (Option.some.inj h2).symm) (fun h => e h.symm)
      dsimp only at this
      rw [hN, reps_set hi] at this
      exact this) (by dsimp only; rw [iota_len]; omega)
    dsimp only at hst
    rw [← iota_succ] at hst
    exact hst
  · subst hs
    simp only [List.length_nil, Nat.add_zero] at h1
    rw [h1, reps_all]
theorem settle_spec {v_0 : Group} {L : List Row} {X y : Replica} (r1 : 2 ≤ v_0.Replicas.length) (r2 : v_0.Replicas.length ≤ 4) (hm : memP v_0.InStep v_0.Replicas.length) (hr : ∀ (j : Nat) (z : Replica), v_0.Replicas[j]? = some z → z.Log.length ≤ 30) (hy2 : v_0.Replicas[v_0.Leader.toNat]? = some y) (hyl : y.Log = L) (l1 : 0 ≤ v_0.Leader) (l2 : v_0.Leader < v_0.Replicas.length) (hLl : L.length ≤ 30) (hN : (⟨L, v_0.Epoch, (L.length : Int)⟩ : Replica) = X) : Ev (fun k => rangeI (fun i92 s171 => spec_SettleGroup_b1 k i92 s171) (List.length v_0.Replicas : Int) ⟨v_0.Epoch, v_0.Leader, v_0.InStep, v_0.High, v_0.Replicas.set v_0.Leader.toNat X⟩) (.nxt ⟨v_0.Epoch, v_0.Leader, iota v_0.Replicas.length, v_0.High, List.replicate v_0.Replicas.length X⟩) := by
  have hld : v_0.Leader = ((v_0.Leader.toNat : Nat) : Int) := by omega
  have hldlt : v_0.Leader.toNat < v_0.Replicas.length := by omega
  have hXL : X.Log = L := by rw [← hN]
  have hlog : ∀ j (hj : j < v_0.Replicas.length), (v_0.Replicas[j]).Log.length ≤ 30 := fun j hj => hr j _ (List.getElem?_eq_getElem hj)
  have gInt : ∀ {R : List Replica} {z : Replica}, R[v_0.Leader.toNat]? = some z → geti R v_0.Leader = some z := fun h => by unfold geti; rw [if_pos l1]; exact h
  have hnl := memP_len hm
  have hp := memP_pair hm
  simp only [rangeI_L]
  generalize hR : v_0.Replicas.set v_0.Leader.toNat X = R
  have hRl : R.length = v_0.Replicas.length := by rw [← hR]; simp
  have hRL : R[v_0.Leader.toNat]? = some X := by rw [← hR]; exact List.getElem?_set_self hldlt
  have hRz : ∀ (j : Nat) (z : Replica), R[j]? = some z → z.Log.length ≤ 30 := fun j z h2 => by
    rw [← hR] at h2
    by_cases e : v_0.Leader.toNat = j
    · subst e
      rw [List.getElem?_set_self hldlt] at h2
      rw [← Option.some.inj h2, hXL]; exact hLl
    · rw [List.getElem?_set_ne e] at h2
      exact hr j _ h2
  have hRg : ∀ j (hj : j < R.length), (R[j]).Log.length ≤ 30 := fun j hj => hRz j _ (List.getElem?_eq_getElem hj)
  refine rangeL_Ev (B := fun k i _ s => spec_SettleGroup_b1 k i s) (by simp; omega) (fun i q s => i + q.length = v_0.Replicas.length ∧ s = ⟨v_0.Epoch, v_0.Leader, iota i ++ from_ v_0.InStep i, v_0.High, reps R X i⟩) ⟨by simp, ?_⟩ (fun i u q s ⟨h1, hs⟩ => .inl ?_) (fun i s ⟨h1, hs⟩ => ?_)
  · have : from_ v_0.InStep ((0 : Nat) : Int) = v_0.InStep := by
      unfold from_
      rw [List.filter_eq_self]
      intro z hz
      obtain ⟨j, hj⟩ := List.getElem?_of_mem hz
      have := (hm j z hj).1
      simpa using this
    simp [reps, iota, this]
    exact this.symm
  · subst hs
    simp only [List.length_cons] at h1
    have hi : i < v_0.Replicas.length := by omega
    refine ⟨⟨v_0.Epoch, v_0.Leader, iota (i + 1) ++ from_ v_0.InStep ((i + 1 : Nat) : Int), v_0.High, reps R X (i + 1)⟩, ?_, by omega, rfl⟩
    have hxi := reps_get (R := R) (x := X) (i := i) (j := i) (by omega) (by omega)
    rw [if_neg (by omega)] at hxi
    have hyl2 := reps_get (R := R) (x := X) (i := i) (j := v_0.Leader.toNat) (by omega) (by omega)
    have hLR : R[v_0.Leader.toNat]'(by omega) = X := by
      have h2 := List.getElem?_eq_getElem (l := R) (i := v_0.Leader.toNat) (by omega)
      rw [hRL] at h2
      exact (Option.some.inj h2).symm
    have hfl : (from_ v_0.InStep (i : Int)).length ≤ 1000 - i := by
      have : (from_ v_0.InStep (i : Int)).length ≤ v_0.InStep.length := List.length_filter_le _ _
      omega
    have hput := put_ev (A := iota i) (B := from_ v_0.InStep i) (v := (i : Int)) (by rw [List.length_append, iota_len]; omega) (fun z hz => (iota_mem hz).2) (fun z hz => by unfold from_ at hz; simpa using (List.mem_filter.1 hz).2)
    have e : (if (from_ v_0.InStep i).head? = some (i : Int) then iota i ++ from_ v_0.InStep i else iota i ++ (i : Int) :: from_ v_0.InStep i) = iota (i + 1) ++ from_ v_0.InStep ((i + 1 : Nat) : Int) := by
      have hst := from_step hp (i := (i : Int))
      have ec : ((i + 1 : Nat) : Int) = (i : Int) + 1 := by omega
      rw [iota_succ, ec]
      by_cases hh : (from_ v_0.InStep i).head? = some (i : Int)
      · rw [if_pos hh] at hst ⊢
        rw [hst]
        simp
      · rw [if_neg hh] at hst ⊢
        rw [hst]
        simp
    rw [e] at hput
    exact spec_b1_step (i := i) (s := ⟨v_0.Epoch, v_0.Leader, iota i ++ from_ v_0.InStep i, v_0.High, reps R X i⟩) (s' := ⟨v_0.Epoch, v_0.Leader, iota i ++ from_ v_0.InStep i, v_0.High, reps R X (i + 1)⟩) (fun e => by
      have e : (i : Int) = v_0.Leader := e
      have ei : i = v_0.Leader.toNat := by omega
      have : reps R X i = reps R X (i + 1) := by
        rw [← reps_set (R := R) (x := X) (i := i) (by omega)]
        refine (List.ext_getElem? (fun j => ?_)).symm
        by_cases hj : i = j
        · subst hj
          rw [List.getElem?_set_self (by rw [reps_len (by omega)]; omega), hxi]
          congr 1
          simp only [ei]
          exact hLR.symm
        · rw [List.getElem?_set_ne hj]
      rw [this]) (fun e => by
      have e : (i : Int) ≠ v_0.Leader := e
      have := fetch_spec (s := ⟨v_0.Epoch, v_0.Leader, iota i ++ from_ v_0.InStep i, v_0.High, reps R X i⟩) (i := i) hLl hxi (hRg i (by omega)) (gInt hyl2) (by
        split
        · exact hXL
        · rw [hLR]; exact hXL) (fun h => e h.symm)
      dsimp only at this
      rw [hN, reps_set (by omega)] at this
      exact this) hput
  · subst hs
    simp only [List.length_nil, Nat.add_zero] at h1
    subst h1
    have : from_ v_0.InStep (v_0.Replicas.length : Int) = [] := by
      unfold from_
      rw [List.filter_eq_nil_iff]
      intro z hz
      obtain ⟨j, hj⟩ := List.getElem?_of_mem hz
      have := (hm j z hj).2.1
      simp; omega
    rw [this, List.append_nil, ← hRl, reps_all]
theorem SettleGroup_core (v_0 : Group) (w0 : Group.wf v_0) (b0 : v_0.nn ≤ 1048576) : ∃ (r : Group × Int × Bool), Ev (fun k => spec_SettleGroup k v_0) r ∧ Ev (fun k => impl_SettleGroup k v_0) r ∧ r.1.nn ≤ 1048576 := by
  obtain ⟨b, e1, hb⟩ := spec_gg_is b0
  obtain ⟨b', e0, e2⟩ := (spec_gg_is b0).two (impl_gg_is b0)
  have := e1.two e0
  subst this
  unfold spec_SettleGroup impl_SettleGroup
  cases b with
  | false => exact ⟨(⟨0, 0, [], 0, []⟩, 0, false), Ev.bind e1 (Ev.iteT rfl Ev.rfl), Ev.bind e2 (Ev.iteT rfl Ev.rfl), by decide⟩
  | true =>
    obtain ⟨⟨⟨r1, r2⟩, ⟨ep1, ep2⟩⟩, ⟨hm, hLin, hH⟩, hr⟩ := hb.1 rfl
    obtain ⟨y, hy, hy2, hyl, l1, l2⟩ := lead_of hm hLin
    have hLl : (lead v_0).length ≤ 30 := by rw [← hyl]; exact (hr _ _ hy2).1.2
    have hr30 : ∀ (j : Nat) (z : Replica), v_0.Replicas[j]? = some z → z.Log.length ≤ 30 := fun j z hz => (hr j z hz).1.2
    have hHL : v_0.High ≤ (lead v_0).length := by
      obtain ⟨i, hi⟩ := List.getElem?_of_mem hLin
      have := (hr _ _ hy2).2.2.2.1 (by rw [Int.toNat_of_nonneg l1]; exact hLin)
      rw [hyl, pre_self] at this
      exact this
    generalize hLL : lead v_0 = L at *
    have hld : v_0.Leader = ((v_0.Leader.toNat : Nat) : Int) := by omega
    have hldlt : v_0.Leader.toNat < v_0.Replicas.length := by omega
    generalize hN : (⟨L, v_0.Epoch, (L.length : Int)⟩ : Replica) = X
    have hXL : X.Log = L := by rw [← hN]
    have hnl := memP_len hm
    have gInt : ∀ {R : List Replica} {z : Replica}, R[v_0.Leader.toNat]? = some z → geti R v_0.Leader = some z := fun h => by unfold geti; rw [if_pos l1]; exact h
    have hI := settle_impl r1 r2 hm hr30 hy2 hyl l1 l2 hLl hN
    have hS := settle_spec r1 r2 hm hr30 hy2 hyl l1 l2 hLl hN
    have hfinal : Group.nn ⟨v_0.Epoch, v_0.Leader, iota v_0.Replicas.length, (L.length : Int), List.replicate v_0.Replicas.length X⟩ ≤ 1048576 := by
      have h2 : Group.nn ⟨v_0.Epoch, v_0.Leader, iota v_0.Replicas.length, (L.length : Int), List.replicate v_0.Replicas.length X⟩ = (iota v_0.Replicas.length).length + (nnL Replica.nn (List.replicate v_0.Replicas.length X) + 0) := rfl
      have h3 : nnL Replica.nn (List.replicate v_0.Replicas.length X) = (List.replicate v_0.Replicas.length X).length + sumN Replica.nn (List.replicate v_0.Replicas.length X) := rfl
      have h4 : X.nn = X.Log.length + 0 := rfl
      rw [h2, h3, sumN_rep, iota_len, List.length_replicate, h4, hXL]
      have : v_0.Replicas.length * (L.length + 0) ≤ 4 * 30 := Nat.mul_le_mul r2 (by omega)
      omega
    have hget : geti (List.replicate v_0.Replicas.length X) v_0.Leader = some X := gInt (by simp [hldlt])
    refine ⟨(⟨v_0.Epoch, v_0.Leader, iota v_0.Replicas.length, (L.length : Int), List.replicate v_0.Replicas.length X⟩, (L.length : Int) - v_0.High, true), Ev.bind e1 (Ev.iteF rfl (Ev.bind (own_spec b0) (Ev.bindp hy ?_))), Ev.bind e2 (Ev.iteF rfl (Ev.bind (own_impl b0) (Ev.jn hI ?_))), hfinal⟩
    · rw [hyl, hN]
      refine Ev.jn hS ?_
      unfold spec_SettleGroup_j3
      have hleast : Ev (fun _ => spec_l11Least ⟨v_0.Epoch, v_0.Leader, iota v_0.Replicas.length, v_0.High, List.replicate v_0.Replicas.length X⟩) (L.length : Int) := by
        unfold spec_l11Least
        refine Ev.jn (rangeL_Ev (B := fun _ i x s => spec_l11Least_b1 _ i x s) (by dsimp only; rw [iota_len]; omega) (fun i q s => (∀ z ∈ q, 0 ≤ z ∧ z < v_0.Replicas.length) ∧ i + q.length = v_0.Replicas.length ∧ s = if i = 0 then 30 else (L.length : Int)) ⟨fun z hz => iota_mem hz, by dsimp only; rw [iota_len]; omega, rfl⟩ (fun i z q s ⟨h0, h1, hs⟩ => .inl ?_) (fun i s ⟨h0, h1, hs⟩ => ?_)) Ev.rfl
        · subst hs
          obtain ⟨z0, z1⟩ := h0 z (by simp)
          refine ⟨(L.length : Int), ?_, fun w hw => h0 w (by simp [hw]), by simp only [List.length_cons] at h1; omega, by rw [if_neg (by omega)]⟩
          unfold spec_l11Least_b1
          have hz : geti (List.replicate v_0.Replicas.length X) z = some X := by
            unfold geti; rw [if_pos z0]
            have : z.toNat < v_0.Replicas.length := by omega
            simp [this]
          refine Ev.bindp hz (Ev.iteF (by rw [← hN]; simp) ?_)
          have hk : X.Known = (L.length : Int) := by rw [← hN]
          rw [hk]
          by_cases h5 : i = 0
          · rw [if_pos h5]
            by_cases h6 : (L.length : Int) < 30
            · exact Ev.iteT (by simpa using h6) Ev.rfl
            · refine Ev.iteF (by simpa using h6) ?_
              rw [show (30 : Int) = (L.length : Int) by omega]
              exact Ev.rfl
          · rw [if_neg h5]
            exact Ev.iteF (by simp) Ev.rfl
        · simp only [List.length_nil, Nat.add_zero] at h1
          rw [hs, if_neg (by omega)]
      refine Ev.bind hleast ?_
      refine Ev.bind (a := ⟨v_0.Epoch, v_0.Leader, iota v_0.Replicas.length, (L.length : Int), List.replicate v_0.Replicas.length X⟩) ?_ ?_
      · dsimp only
        by_cases h5 : v_0.High < (L.length : Int)
        · exact Ev.iteT (by simpa using h5) Ev.rfl
        · refine Ev.iteF (by simpa using h5) ?_
          rw [show v_0.High = (L.length : Int) by omega]
          exact Ev.rfl
      · unfold spec_SettleGroup_j2
        dsimp only
        refine Ev.bind (own_spec hfinal) ?_
        rw [i64_id (by omega) (by omega)]
        exact Ev.rfl
    · unfold impl_SettleGroup_j2
      refine Ev.bindp hget ?_
      dsimp only
      rw [hXL, i64_id (by omega) (by omega)]
      exact Ev.rfl
end Go.Proofs.Ytefgfcalgjmhjaa.X
