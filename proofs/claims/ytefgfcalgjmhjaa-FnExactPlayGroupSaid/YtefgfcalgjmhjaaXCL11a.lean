/- Groups of replicas: whether one is good, on both sides. -/
import Derived.Test.YtefgfcalgjmhjaaXCK
import Derived.Test.YtefgfcalgjmhjaaXCLAmem
import Derived.Test.YtefgfcalgjmhjaaXCLAhas
import Derived.Test.YtefgfcalgjmhjaaXCLArows
import Derived.Test.YtefgfcalgjmhjaaXCLApre
set_option linter.unusedVariables false
set_option linter.unusedSimpArgs false
namespace Go.Proofs.Ytefgfcalgjmhjaa.X
open Go

def pre : List Row → List Row → Nat
  | x :: a, y :: b => if x = y then pre a b + 1 else 0
  | _, _ => 0
def CP (a b : List Row) (n : Nat) : Prop := n ≤ a.length ∧ n ≤ b.length ∧ a.take n = b.take n ∧ (n < a.length → n < b.length → a[n]? ≠ b[n]?)
theorem CP_pre : ∀ {a b : List Row}, CP a b (pre a b) := by
  intro a
  induction a with
  | nil => intro b; exact ⟨by simp [pre], by simp [pre], by simp [pre], fun h => by simp at h⟩
  | cons x a ih =>
    intro b
    cases b with
    | nil => exact ⟨by simp [pre], by simp [pre], by simp [pre], fun _ h => by simp at h⟩
    | cons y b =>
      by_cases e : x = y
      · subst e
        obtain ⟨h1, h2, h3, h4⟩ := ih (b := b)
        simp only [pre, if_true]
        exact ⟨by simp; omega, by simp; omega, by simp [h3], fun h5 h6 => by simpa using h4 (by simpa using h5) (by simpa using h6)⟩
      · simp only [pre, if_neg e]
        exact ⟨by simp, by simp, by simp, fun _ _ => by simpa using e⟩
theorem CP_uniq {a b : List Row} {n m : Nat} (h1 : CP a b n) (h2 : CP a b m) : n = m := by
  have key : ∀ {n m : Nat}, CP a b n → CP a b m → n < m → False := by
    intro n m ⟨p1, p2, p3, p4⟩ ⟨q1, q2, q3, q4⟩ h
    refine p4 (by omega) (by omega) ?_
    have := congrArg (fun z => z[n]?) q3
    simpa [List.getElem?_take_of_lt h] using this
  rcases Nat.lt_trichotomy n m with h | h | h
  · exact (key h1 h2 h).elim
  · exact h
  · exact (key h2 h1 h).elim
theorem pre_le {a b : List Row} : pre a b ≤ a.length ∧ pre a b ≤ b.length := ⟨CP_pre.1, CP_pre.2.1⟩
theorem pre_take {a b : List Row} : a.take (pre a b) = b.take (pre a b) := CP_pre.2.2.1
theorem pre_self {a : List Row} : pre a a = a.length := CP_uniq CP_pre ⟨Nat.le_refl _, Nat.le_refl _, rfl, fun h => by omega⟩
theorem same_ev {a b : List Row} (hl : a.length ≤ 1048576) : Ev (fun k => spec_l11Same k a b) ((pre a b : Nat) : Int) := by
  obtain ⟨n, e, h1, h2, h3, h4⟩ := l11Same_ev (b := b) hl
  rw [CP_uniq CP_pre ⟨h1, h2, h3, h4⟩]
  exact e
theorem shared_ev {g : Group} {i j : Int} {x y : Replica} (hl : x.Log.length ≤ 1048576) (hl2 : y.Log.length ≤ 1048576) (hx : geti g.Replicas i = some x) (hj : j = g.Leader) (hy : geti g.Replicas j = some y) : Ev (fun k => impl_Group_shared k g i) ((pre x.Log y.Log : Nat) : Int) := by
  subst hj
  unfold impl_Group_shared
  refine Ev.bindp hx (Ev.bindp hy ?_)
  obtain ⟨o, e, n, rfl, h1, h2, h3, h4⟩ := Ev.loopQ (B := fun s60 => impl_Group_shared_b1 x y s60) (s := 0) (fun o => ∃ n : Nat, o = .nxt (n : Int) ∧ CP x.Log y.Log n) (fun s => ∃ n : Nat, s = (n : Int) ∧ n ≤ x.Log.length ∧ n ≤ y.Log.length ∧ x.Log.take n = y.Log.take n) (fun s => x.Log.length - s.toNat) ⟨0, rfl, by omega, by omega, by simp⟩ (fun s hs => by
    obtain ⟨n, rfl, h1, h2, h3⟩ := hs
    unfold impl_Group_shared_b1
    by_cases hc : n < x.Log.length ∧ n < y.Log.length
    · have ha : x.Log[n]? = some x.Log[n] := List.getElem?_eq_getElem hc.1
      have hb : y.Log[n]? = some y.Log[n] := List.getElem?_eq_getElem hc.2
      rw [if_pos (by simp only [decide_eq_true_eq]; unfold mnI; split <;> omega), geti_nat ha, geti_nat hb]
      simp only [Option.bind_some]
      by_cases he : x.Log[n] = y.Log[n]
      · refine .inl ⟨((n + 1 : Nat) : Int), ?_, ⟨n + 1, rfl, by omega, by omega, ?_⟩, ?_⟩
        · rw [if_pos (by simp [he]), wadd (by omega)]
        · rw [List.take_add_one, List.take_add_one, h3, ha, hb, he]
        · simp only [Int.toNat_natCast]; omega
      · refine .inr (.inl ⟨(n : Int), ?_, n, rfl, h1, h2, h3, fun _ _ => by rw [ha, hb]; exact fun h => he (Option.some.inj h)⟩)
        rw [if_neg (fun h => he (by
          simp at h
          cases hh : x.Log[n]; cases hh2 : y.Log[n]
          rw [hh, hh2] at h
          simp at h
          rw [h.1, h.2]))]
    · rw [if_neg (by simp only [decide_eq_true_eq]; unfold mnI; split <;> omega)]
      exact .inr (.inl ⟨(n : Int), rfl, n, rfl, h1, h2, h3, fun x y => absurd ⟨x, y⟩ hc⟩))
  rw [CP_uniq CP_pre ⟨h1, h2, h3, h4⟩]
  exact Ev.jn e Ev.rfl

def lead (g : Group) : List Row := match g.Replicas[g.Leader.toNat]? with
  | some x => x.Log
  | none => []
def repP (g : Group) (i : Nat) (x : Replica) : Prop :=
  rowsP x.Log g.Epoch ∧ (0 ≤ x.Epoch ∧ x.Epoch ≤ g.Epoch) ∧ (0 ≤ x.Known ∧ x.Known ≤ x.Log.length) ∧ ((i : Int) ∈ g.InStep → g.High ≤ pre x.Log (lead g)) ∧ (x.Epoch = g.Epoch → x.Known ≤ pre x.Log (lead g))
def groupP (g : Group) : Prop := ((2 ≤ g.Replicas.length ∧ g.Replicas.length ≤ 4) ∧ (0 ≤ g.Epoch ∧ g.Epoch ≤ 100)) ∧ (memP g.InStep g.Replicas.length ∧ g.Leader ∈ g.InStep ∧ 0 ≤ g.High) ∧ ∀ (i : Nat) (x : Replica), g.Replicas[i]? = some x → repP g i x
theorem gr_nn {g : Group} (h : g.nn ≤ 1048576) : g.InStep.length ≤ 1048576 ∧ g.Replicas.length ≤ 1048576 ∧ ∀ (i : Nat) (x : Replica), g.Replicas[i]? = some x → x.Log.length ≤ 1048576 := by
  have hh : g.InStep.length + (nnL Replica.nn g.Replicas + 0) ≤ 1048576 := h
  have hl := nnL_len (f := Replica.nn) (l := g.Replicas)
  refine ⟨by omega, by omega, fun i x hx => ?_⟩
  have := nnL_get (f := Replica.nn) hx
  have h2 : x.nn = x.Log.length + 0 := rfl
  omega
theorem lead_of {g : Group} (h1 : memP g.InStep g.Replicas.length) (h2 : g.Leader ∈ g.InStep) : ∃ y, geti g.Replicas g.Leader = some y ∧ g.Replicas[g.Leader.toNat]? = some y ∧ y.Log = lead g ∧ 0 ≤ g.Leader ∧ g.Leader < g.Replicas.length := by
  obtain ⟨i, hi⟩ := List.getElem?_of_mem h2
  obtain ⟨a, b, _⟩ := h1 i _ hi
  have hlt : g.Leader.toNat < g.Replicas.length := by omega
  have hy : g.Replicas[g.Leader.toNat]? = some g.Replicas[g.Leader.toNat] := List.getElem?_eq_getElem hlt
  refine ⟨_, by unfold geti; rw [if_pos a]; exact hy, hy, ?_, a, b⟩
  unfold lead
  rw [hy]
theorem ni_s {n a b : Int} : (!(spec_l1In n a b)) = true ↔ ¬ (a ≤ n ∧ n ≤ b) := by
  simp only [spec_l1In, Bool.not_eq_true', Bool.and_eq_false_iff, decide_eq_false_iff_not]; omega
theorem ni_i {n a b : Int} : (!(impl_in n a b)) = true ↔ ¬ (a ≤ n ∧ n ≤ b) := by
  simp only [impl_in, Bool.not_eq_true', Bool.and_eq_false_iff, decide_eq_false_iff_not]; omega
theorem dn {b : Bool} {P : Prop} (h : b = true ↔ ¬ P) (hb : b = false) : P := Classical.byContradiction fun hn => by rw [h.2 hn] at hb; cases hb
/-- One question after another. -/
theorem stepQ {F G : Nat → Option (Oc Unit Bool)} {c : Bool} {P Q : Prop} (hc : c = true ↔ ¬ P) (h : P → ∃ b : Bool, Ev G (if b = true then .ret false else .nxt ()) ∧ (b = true ↔ ¬ Q)) : ∃ b : Bool, Ev (fun k => if c = true then (some (.ret false) : Option (Oc Unit Bool)) else G k) (if b = true then .ret false else .nxt ()) ∧ (b = true ↔ ¬ (P ∧ Q)) := by
  cases hcc : c with
  | true => exact ⟨true, Ev.iteT rfl Ev.rfl, by simp only [true_iff]; exact fun hp => hc.1 hcc hp.1⟩
  | false =>
    have hp := dn hc hcc
    obtain ⟨b, e, hb⟩ := h hp
    exact ⟨b, Ev.iteF rfl e, hb.trans (not_congr ⟨fun q => ⟨hp, q⟩, fun q => q.2⟩)⟩
theorem endQ : ∃ b : Bool, Ev (fun _ => (some (.nxt ()) : Option (Oc Unit Bool))) (if b = true then .ret false else .nxt ()) ∧ (b = true ↔ ¬ True) := ⟨false, Ev.rfl, by simp⟩
theorem bindQ {α : Type} {F : Nat → Option α} {G : Nat → α → Option (Oc Unit Bool)} {a : α} {Q : Prop} (h : Ev F a) (h1 : ∃ b : Bool, Ev (fun k => G k a) (if b = true then .ret false else .nxt ()) ∧ (b = true ↔ ¬ Q)) : ∃ b : Bool, Ev (fun k => (F k).bind (G k)) (if b = true then .ret false else .nxt ()) ∧ (b = true ↔ ¬ Q) := by
  obtain ⟨b, e, hb⟩ := h1
  exact ⟨b, Ev.bind h e, hb⟩
theorem bindIs {F : Nat → Option Bool} {G : Nat → Bool → Option (Oc Unit Bool)} {P Q : Prop} (h : Is F P) (h1 : ∀ b : Bool, (b = true ↔ P) → ∃ c : Bool, Ev (fun k => G k b) (if c = true then .ret false else .nxt ()) ∧ (c = true ↔ ¬ Q)) : ∃ b : Bool, Ev (fun k => (F k).bind (G k)) (if b = true then .ret false else .nxt ()) ∧ (b = true ↔ ¬ Q) := by
  obtain ⟨b, e, hb⟩ := h
  obtain ⟨c, e2, hc⟩ := h1 b hb
  exact ⟨c, Ev.bind e e2, hc⟩
theorem iteQ {F G : Nat → Option (Oc Unit Bool)} {b : Bool} {Q : Prop} (h1 : b = true → ∃ c : Bool, Ev F (if c = true then .ret false else .nxt ()) ∧ (c = true ↔ ¬ Q)) (h2 : b = false → ∃ c : Bool, Ev G (if c = true then .ret false else .nxt ()) ∧ (c = true ↔ ¬ Q)) : ∃ c : Bool, Ev (fun k => if b = true then F k else G k) (if c = true then .ret false else .nxt ()) ∧ (c = true ↔ ¬ Q) := by
  cases b with
  | true => exact h1 rfl
  | false => exact h2 rfl
theorem iffQ {F : Nat → Option (Oc Unit Bool)} {P Q : Prop} (h : ∃ c : Bool, Ev F (if c = true then .ret false else .nxt ()) ∧ (c = true ↔ ¬ P)) (e : P ↔ Q) : ∃ c : Bool, Ev F (if c = true then .ret false else .nxt ()) ∧ (c = true ↔ ¬ Q) := by
  obtain ⟨c, a, b⟩ := h
  exact ⟨c, a, b.trans (not_congr e)⟩
end Go.Proofs.Ytefgfcalgjmhjaa.X
