/- The laws' own walks: sizes, copies, comparisons, marks. -/
import Derived.Test.YtdhibknhejhfaaaXBD
import Derived.Test.YtdhibknhejhfaaaXBW
import Derived.Test.YtdhibknhejhfaaaXLib2
set_option linter.unusedVariables false
set_option linter.unusedSimpArgs false
set_option maxRecDepth 100000
namespace Go.Proofs.Ytdhibknhejhfaaa.X
open Go
def markI (_ : Int) (n : Nat) : Int := (n : Int)
def markB (_ : Bool) (n : Nat) : Bool := decide (Int.tmod (n : Int) 3 = 0)
def Reader.nn (x : Reader) : Nat := (x.Share.length + (x.Read.length + 0))
def Reader.mce (x : Reader) : Nat := 1 + 1 + sumN (fun _ => 1) x.Share + sumN (fun _ => 1) x.Read
def Reader.mke (x : Reader) (n : Nat) : Reader := (Reader.mk (decide (Int.tmod ((n : Nat) : Int) 3 = 0)) ((n + 1 : Nat) : Int) (mkdL markI (fun _ => 1) x.Share (n + 1 + 1)) (mkdL markI (fun _ => 1) x.Read (n + 1 + 1 + sumN (fun _ => 1) x.Share)))
def Reader.mkd (x : Reader) (n : Nat) : Reader := (Reader.mk x.In x.Generation (mkdL markI (fun _ => 1) x.Share (n)) (mkdL markI (fun _ => 1) x.Read (n + sumN (fun _ => 1) x.Share)))
def Reader.en (x : Reader) (n : Nat) : Nat := n + sumN (fun _ => 1) x.Share + sumN (fun _ => 1) x.Read
theorem Reader.mce_le (x : Reader) : x.mce ≤ 100 * (1 + x.nn) := by
  have h0 : sumN (fun _ => 1) x.Share = 1 * x.Share.length := sumN_const
  have h1 : sumN (fun _ => 1) x.Read = 1 * x.Read.length := sumN_const
  unfold Reader.mce
  simp only [Reader.nn]
  omega
theorem Reader.en_le {x : Reader} {n : Nat} (h : x.nn ≤ 1048576) : x.en n ≤ n + 100 * x.nn := by
  have h0 : sumN (fun _ => 1) x.Share = 1 * x.Share.length := sumN_const
  have h1 : sumN (fun _ => 1) x.Read = 1 * x.Read.length := sumN_const
  simp only [Reader.en, Reader.nn] at h ⊢
  omega
def Readers_.nn (x : Readers_) : Nat := ((nnL Reader.nn x.Readers) + (x.Committed.length + (x.Ends.length + 0)))
def Readers_.mce (x : Readers_) : Nat := 1 + sumN Reader.mce x.Readers + sumN (fun _ => 1) x.Committed + sumN (fun _ => 1) x.Ends
def Readers_.mke (x : Readers_) (n : Nat) : Readers_ := (Readers_.mk ((n : Nat) : Int) (mkdL Reader.mke Reader.mce x.Readers (n + 1)) (mkdL markI (fun _ => 1) x.Committed (n + 1 + sumN Reader.mce x.Readers)) (mkdL markI (fun _ => 1) x.Ends (n + 1 + sumN Reader.mce x.Readers + sumN (fun _ => 1) x.Committed)))
def Readers_.mkd (x : Readers_) (n : Nat) : Readers_ := (Readers_.mk x.Generation (mkdL Reader.mke Reader.mce x.Readers (n)) (mkdL markI (fun _ => 1) x.Committed (n + sumN Reader.mce x.Readers)) (mkdL markI (fun _ => 1) x.Ends (n + sumN Reader.mce x.Readers + sumN (fun _ => 1) x.Committed)))
def Readers_.en (x : Readers_) (n : Nat) : Nat := n + sumN Reader.mce x.Readers + sumN (fun _ => 1) x.Committed + sumN (fun _ => 1) x.Ends
theorem Readers_.en_le {x : Readers_} {n : Nat} (h : x.nn ≤ 1048576) : x.en n ≤ n + 100 * x.nn := by
  have h0 := sumN_le (c := Reader.mce) (f := Reader.nn) (m := 100) Reader.mce_le (l := x.Readers)
  have h1 : sumN (fun _ => 1) x.Committed = 1 * x.Committed.length := sumN_const
  have h2 : sumN (fun _ => 1) x.Ends = 1 * x.Ends.length := sumN_const
  simp only [Readers_.en, Readers_.nn] at h ⊢
  omega
def GroupStep.mce (x : GroupStep) : Nat := 1 + 1 + 1 + 1
def GroupStep.mke (x : GroupStep) (n : Nat) : GroupStep := (GroupStep.mk ((n : Nat) : Int) ((n + 1 : Nat) : Int) ((n + 1 + 1 : Nat) : Int) ((n + 1 + 1 + 1 : Nat) : Int))
theorem eqIntS_ev {a b : List Int} (hl : a.length ≤ 1048576) : Ev (fun k => laws_eqIntS k a b) (decide (a = b)) := by
  unfold laws_eqIntS
  refine eqL_ev (fun hab => eqS_evk hl hab (fun i x y hx hy => ?_) ?_)
  · unfold laws_eqIntS_b1
    have hi : i < a.length := (List.getElem?_eq_some_iff.1 hx).1
    refine Ev.iteT (by simpa using hi) ?_
    refine Ev.bindp (geti_nat hx) ?_
    refine Ev.bindp (geti_nat hy) ?_
    rw [wadd (by omega)]
    by_cases e : x = y
    · rw [if_pos e]
      exact Ev.iteF (by simp [e]) Ev.rfl
    · rw [if_neg e]
      exact Ev.iteT (by simp [e]) Ev.rfl
  · unfold laws_eqIntS_b1
    exact Ev.iteF (by simp) Ev.rfl
theorem eqReader_ev {a b : Reader} (h : a.nn ≤ 1048576) : Ev (fun k => laws_eqReader k a b) (decide (a = b)) := by
  have h : (a.Share.length + (a.Read.length + 0)) ≤ 1048576 := h
  refine eq_done (p := a.In = b.In ∧ a.Generation = b.Generation ∧ a.Share = b.Share ∧ a.Read = b.Read ∧ True) ?_ (by cases a; cases b; simp)
  unfold laws_eqReader
  refine eq_iteB ?_
  refine eq_iteI ?_
  refine eq_bind (eqIntS_ev (by omega)) ?_
  refine eq_bind (eqIntS_ev (by omega)) ?_
  exact eq_end
theorem eqReaderS_ev {a b : List Reader} (h : nnL Reader.nn a ≤ 1048576) : Ev (fun k => laws_eqReaderS k a b) (decide (a = b)) := by
  have hl : a.length ≤ 1048576 := Nat.le_trans nnL_len h
  unfold laws_eqReaderS
  refine eqL_ev (fun hab => eqS_evk hl hab (fun i x y hx hy => ?_) ?_)
  · unfold laws_eqReaderS_b1
    have hi : i < a.length := (List.getElem?_eq_some_iff.1 hx).1
    refine Ev.iteT (by simpa using hi) ?_
    refine Ev.bindp (geti_nat hx) ?_
    refine Ev.bindp (geti_nat hy) ?_
    refine Ev.bind (eqReader_ev (Nat.le_trans (nnL_get hx) h)) ?_
    rw [wadd (by omega)]
    by_cases e : x = y
    · rw [if_pos e]
      exact Ev.iteF (by simp [e]) Ev.rfl
    · rw [if_neg e]
      exact Ev.iteT (by simp [e]) Ev.rfl
  · unfold laws_eqReaderS_b1
    exact Ev.iteF (by simp) Ev.rfl
theorem eqReaders_ev {a b : Readers_} (h : a.nn ≤ 1048576) : Ev (fun k => laws_eqReaders k a b) (decide (a = b)) := by
  have h : ((nnL Reader.nn a.Readers) + (a.Committed.length + (a.Ends.length + 0))) ≤ 1048576 := h
  refine eq_done (p := a.Generation = b.Generation ∧ a.Readers = b.Readers ∧ a.Committed = b.Committed ∧ a.Ends = b.Ends ∧ True) ?_ (by cases a; cases b; simp)
  unfold laws_eqReaders
  refine eq_iteI ?_
  refine eq_bind (eqReaderS_ev (by omega)) ?_
  refine eq_bind (eqIntS_ev (by omega)) ?_
  refine eq_bind (eqIntS_ev (by omega)) ?_
  exact eq_end
theorem markIntS_ev {l : List Int} {n : Nat} (hl : l.length ≤ 1048576) (hn : n + sumN (fun _ => 1) l < 4611686018427387904) : Ev (fun k => laws_markIntS k l (n : Int)) (((n + sumN (fun _ => 1) l : Nat) : Int), mkdL markI (fun _ => 1) l n) := by
  unfold laws_markIntS
  refine Ev.jn (markS_evk (c := (fun _ => 1)) (M := markI) hl hn (fun n i s x hn hi hx hsx hs => ?_) (fun n s hs => ?_)) (Ev.of rfl)
  · try dsimp only at hn
    unfold laws_markIntS_b1
    try dsimp only
    refine Ev.iteT (by rw [hs]; simpa using hi) ?_
    refine Ev.bindp (geti_nat hsx) ?_
    try simp (disch := omega) only [wadd]
    exact Ev.rfl
  · unfold laws_markIntS_b1
    try dsimp only
    exact Ev.iteF (by rw [hs]; simp) Ev.rfl
theorem markReaderS_ev {l : List Reader} {n : Nat} (h : nnL Reader.nn l ≤ 1048576) (hn : n + sumN Reader.mce l < 4611686018427387904) : Ev (fun k => laws_markReaderS k l (n : Int)) (((n + sumN Reader.mce l : Nat) : Int), mkdL Reader.mke Reader.mce l n) := by
  have hl : l.length ≤ 1048576 := Nat.le_trans nnL_len h
  unfold laws_markReaderS
  refine Ev.jn (markS_evk (c := Reader.mce) (M := Reader.mke) hl hn (fun n i s x hn hi hx hsx hs => ?_) (fun n s hs => ?_)) (Ev.of rfl)
  · have hc : Reader.mce x = 1 + 1 + sumN (fun _ => 1) x.Share + sumN (fun _ => 1) x.Read := rfl
    rw [hc] at hn
    rw [show n + Reader.mce x = n + 1 + 1 + sumN (fun _ => 1) x.Share + sumN (fun _ => 1) x.Read by omega]
    have hb : (x.Share.length + (x.Read.length + 0)) ≤ 1048576 := Nat.le_trans (nnL_get (f := Reader.nn) hx) h
    unfold laws_markReaderS_b1
    try dsimp only
    refine Ev.iteT (by rw [hs]; simpa using hi) ?_
    refine Ev.bindp (geti_nat hsx) ?_
    try simp (disch := omega) only [wadd]
    refine Ev.bind (markIntS_ev (l := x.Share) (n := n + 1 + 1) (by omega) (by omega)) ?_
    try dsimp only
    try simp (disch := omega) only [wadd]
    refine Ev.bind (markIntS_ev (l := x.Read) (n := n + 1 + 1 + sumN (fun _ => 1) x.Share) (by omega) (by omega)) ?_
    try dsimp only
    try simp (disch := omega) only [wadd]
    exact Ev.rfl
  · unfold laws_markReaderS_b1
    try dsimp only
    exact Ev.iteF (by rw [hs]; simp) Ev.rfl
theorem markReaders_ev {x : Readers_} {n : Nat} (h : x.nn ≤ 1048576) (hn : x.en n < 4611686018427387904) : Ev (fun k => laws_markReaders k x (n : Int)) (((x.en n : Nat) : Int), x.mkd n) := by
  simp only [Readers_.en, Readers_.nn] at h hn
  unfold laws_markReaders
  refine Ev.bind (markReaderS_ev (l := x.Readers) (n := n) (by omega) (by (try simp only [Readers_.en, Readers_.nn]); omega)) ?_
  refine Ev.bind (markIntS_ev (l := x.Committed) (n := n + sumN Reader.mce x.Readers) (by omega) (by (try simp only [Readers_.en, Readers_.nn]); omega)) ?_
  refine Ev.bind (markIntS_ev (l := x.Ends) (n := n + sumN Reader.mce x.Readers + sumN (fun _ => 1) x.Committed) (by omega) (by (try simp only [Readers_.en, Readers_.nn]); omega)) ?_
  exact Ev.rfl
theorem heldIntS_ev {l : List Int} {n : Nat} (hl : l.length ≤ 1048576) (hn : n + sumN (fun _ => 1) l < 4611686018427387904) : Ev (fun k => laws_heldIntS k (mkdL markI (fun _ => 1) l n) (n : Int)) ((n + sumN (fun _ => 1) l : Nat) : Int) := by
  unfold laws_heldIntS
  refine Ev.jn (heldS_evk (l := l) (c := (fun _ => 1)) hl hn (fun i x hx hn => ?_) (fun n => ?_)) (Ev.of rfl)
  · have hg := mkdL_get (M := markI) (c := (fun _ => 1)) (n := n) hx
    have hi : i < l.length := (List.getElem?_eq_some_iff.1 hx).1
    generalize n + sumN (fun _ => 1) (l.take i) = n at hg hn ⊢
    try dsimp only at hn
    unfold laws_heldIntS_b1
    try dsimp only
    refine Ev.iteT (by rw [mkdL_length]; simpa using hi) ?_
    try simp (disch := omega) only [wadd]
    refine Ev.bindp (geti_nat hg) ?_
    refine Ev.iteF (by simp [markI]) ?_
    exact Ev.rfl
  · unfold laws_heldIntS_b1
    try dsimp only
    exact Ev.iteF (by rw [mkdL_length]; simp) Ev.rfl
theorem heldReaderS_ev {l : List Reader} {n : Nat} (h : nnL Reader.nn l ≤ 1048576) (hn : n + sumN Reader.mce l < 4611686018427387904) : Ev (fun k => laws_heldReaderS k (mkdL Reader.mke Reader.mce l n) (n : Int)) ((n + sumN Reader.mce l : Nat) : Int) := by
  have hl : l.length ≤ 1048576 := Nat.le_trans nnL_len h
  unfold laws_heldReaderS
  refine Ev.jn (heldS_evk (l := l) (c := Reader.mce) hl hn (fun i x hx hn => ?_) (fun n => ?_)) (Ev.of rfl)
  · have hg := mkdL_get (M := Reader.mke) (c := Reader.mce) (n := n) hx
    have hi : i < l.length := (List.getElem?_eq_some_iff.1 hx).1
    generalize n + sumN Reader.mce (l.take i) = n at hg hn ⊢
    have hc : Reader.mce x = 1 + 1 + sumN (fun _ => 1) x.Share + sumN (fun _ => 1) x.Read := rfl
    rw [hc] at hn
    rw [show n + Reader.mce x = n + 1 + 1 + sumN (fun _ => 1) x.Share + sumN (fun _ => 1) x.Read by omega]
    have hb : (x.Share.length + (x.Read.length + 0)) ≤ 1048576 := Nat.le_trans (nnL_get (f := Reader.nn) hx) h
    unfold laws_heldReaderS_b1
    try dsimp only
    refine Ev.iteT (by rw [mkdL_length]; simpa using hi) ?_
    try simp (disch := omega) only [wadd]
    refine Ev.bindp (geti_nat hg) ?_
    refine Ev.iteF (by simp [Reader.mke]) ?_
    refine Ev.bindp (geti_nat hg) ?_
    refine Ev.iteF (by simp [Reader.mke]) ?_
    refine Ev.bindp (geti_nat hg) ?_
    refine Ev.bind (heldIntS_ev (l := x.Share) (n := n + 1 + 1) (by omega) (by omega)) ?_
    refine Ev.iteF (by simp only [decide_eq_false_iff_not]; omega) ?_
    try simp (disch := omega) only [wadd]
    refine Ev.bindp (geti_nat hg) ?_
    refine Ev.bind (heldIntS_ev (l := x.Read) (n := n + 1 + 1 + sumN (fun _ => 1) x.Share) (by omega) (by omega)) ?_
    refine Ev.iteF (by simp only [decide_eq_false_iff_not]; omega) ?_
    try simp (disch := omega) only [wadd]
    exact Ev.rfl
  · unfold laws_heldReaderS_b1
    try dsimp only
    exact Ev.iteF (by rw [mkdL_length]; simp) Ev.rfl
theorem heldReaders_ev {x : Readers_} {n : Nat} (h : x.nn ≤ 1048576) (hn : x.en n < 4611686018427387904) : Ev (fun k => laws_heldReaders k (x.mkd n) (n : Int)) ((x.en n : Nat) : Int) := by
  simp only [Readers_.en, Readers_.nn] at h hn
  unfold laws_heldReaders
  refine Ev.bind (heldReaderS_ev (l := x.Readers) (n := n) (by omega) (by (try simp only [Readers_.en, Readers_.nn]); omega)) ?_
  refine Ev.iteF (by simp only [decide_eq_false_iff_not]; omega) ?_
  refine Ev.bind (heldIntS_ev (l := x.Committed) (n := n + sumN Reader.mce x.Readers) (by omega) (by (try simp only [Readers_.en, Readers_.nn]); omega)) ?_
  refine Ev.iteF (by simp only [decide_eq_false_iff_not]; omega) ?_
  refine Ev.bind (heldIntS_ev (l := x.Ends) (n := n + sumN Reader.mce x.Readers + sumN (fun _ => 1) x.Committed) (by omega) (by (try simp only [Readers_.en, Readers_.nn]); omega)) ?_
  refine Ev.iteF (by simp only [decide_eq_false_iff_not]; omega) ?_
  exact Ev.rfl
theorem szIntS_ev {l : List Int} {left : Int} (hl : l.length ≤ 4611686018427387904) (h0 : 0 ≤ left) (h1 : left ≤ 1048576) : Ev (fun k => laws_szIntS l left) (szr l.length left) := by
  unfold laws_szIntS
  exact Ev.of (szr_flat hl h0 h1)
theorem szReader_ev {x : Reader} {left : Int} (w : x.wf) (h0 : 0 ≤ left) (h1 : left ≤ 1048576) : Ev (fun k => laws_szReader x left) (szr x.nn left) := by
  unfold laws_szReader
  refine szr_bind h0 (szIntS_ev (by have := w.2.2.1.1; omega) h0 (by omega)) (fun v0 b0 c0 => ?_)
  refine szr_bind b0 (szIntS_ev (by have := w.2.2.2.1; omega) b0 (by omega)) (fun v1 b1 c1 => ?_)
  exact Ev.of (by rw [szr0 b1])
theorem szReaderS_ev {l : List Reader} {left : Int} (w : wfL 64 Reader.wf l) (h0 : 0 ≤ left) (h1 : left ≤ 1048576) : Ev (fun k => laws_szReaderS k l left) (szr (nnL Reader.nn l) left) := by
  unfold laws_szReaderS
  refine szr_nn (by have := w.1; omega) h0 h1 (fun hl h2 => ?_)
  rw [i64_id (by omega) (by omega)]
  refine szL_ev hl h2 (by omega) (fun i x s hx hs0 hs1 => ?_) (fun s => ?_)
  · unfold laws_szReaderS_b1
    have hi : i < l.length := (List.getElem?_eq_some_iff.1 hx).1
    refine Ev.iteT (by simpa using hi) ?_
    refine Ev.bindp (geti_nat hx) ?_
    refine Ev.bind (szReader_ev (w.2 _ (List.mem_of_getElem? hx)) hs0 hs1) ?_
    unfold szr
    by_cases hc : (x.nn : Int) ≤ s
    · rw [if_pos hc, if_pos hc]
      refine Ev.iteF (by simp only [decide_eq_false_iff_not]; omega) ?_
      rw [wadd (by omega)]
      exact Ev.rfl
    · rw [if_neg hc, if_neg hc]
      exact Ev.iteT (by decide) Ev.rfl
  · unfold laws_szReaderS_b1
    exact Ev.iteF (by simp) Ev.rfl
theorem szReaders_ev {x : Readers_} {left : Int} (w : x.wf) (h0 : 0 ≤ left) (h1 : left ≤ 1048576) : Ev (fun k => laws_szReaders k x left) (szr x.nn left) := by
  unfold laws_szReaders
  refine szr_bind h0 (szReaderS_ev w.2.1 h0 (by omega)) (fun v0 b0 c0 => ?_)
  refine szr_bind b0 (szIntS_ev (by have := w.2.2.1.1; omega) b0 (by omega)) (fun v1 b1 c1 => ?_)
  refine szr_bind b1 (szIntS_ev (by have := w.2.2.2.1; omega) b1 (by omega)) (fun v2 b2 c2 => ?_)
  exact Ev.of (by rw [szr0 b2])
theorem toIntS_ev {l : List Int} (hl : l.length ≤ 1048576) : Ev (fun k => laws_toIntS k l) l := by
  unfold laws_toIntS
  refine Ev.bindp (mkN_ok (by omega)) ?_
  refine Ev.jn (s := ((l.length : Int), l)) (toS_evk hl (fun i s x y hx hy => ?_) (fun s => ?_)) (Ev.of rfl)
  · unfold laws_toIntS_b1
    have hi : i < l.length := (List.getElem?_eq_some_iff.1 hx).1
    refine Ev.iteT (by simpa using hi) ?_
    refine Ev.bindp (geti_nat hx) ?_
    refine Ev.bindp (geti_nat hy) ?_
    rw [wadd (by omega)]
    exact Ev.rfl
  · unfold laws_toIntS_b1
    exact Ev.iteF (by simp) Ev.rfl
theorem toReader_ev {x : Reader} (h : x.nn ≤ 1048576) : Ev (fun k => laws_toReader k x) x := by
  have h : (x.Share.length + (x.Read.length + 0)) ≤ 1048576 := h
  unfold laws_toReader
  refine Ev.bind (toIntS_ev (by omega)) ?_
  refine Ev.bind (toIntS_ev (by omega)) ?_
  exact Ev.rfl
theorem toReaderS_ev {l : List Reader} (h : nnL Reader.nn l ≤ 1048576) : Ev (fun k => laws_toReaderS k l) l := by
  have hl : l.length ≤ 1048576 := Nat.le_trans nnL_len h
  unfold laws_toReaderS
  refine Ev.bindp (mkN_ok (by omega)) ?_
  refine Ev.jn (s := ((l.length : Int), l)) (toS_evk hl (fun i s x y hx hy => ?_) (fun s => ?_)) (Ev.of rfl)
  · unfold laws_toReaderS_b1
    have hi : i < l.length := (List.getElem?_eq_some_iff.1 hx).1
    refine Ev.iteT (by simpa using hi) ?_
    refine Ev.bindp (geti_nat hx) ?_
    refine Ev.bind (toReader_ev (Nat.le_trans (nnL_get hx) h)) ?_
    refine Ev.bindp (geti_nat hy) ?_
    rw [wadd (by omega)]
    exact Ev.rfl
  · unfold laws_toReaderS_b1
    exact Ev.iteF (by simp) Ev.rfl
theorem toReaders_ev {x : Readers_} (h : x.nn ≤ 1048576) : Ev (fun k => laws_toReaders k x) x := by
  have h : ((nnL Reader.nn x.Readers) + (x.Committed.length + (x.Ends.length + 0))) ≤ 1048576 := h
  unfold laws_toReaders
  refine Ev.bind (toReaderS_ev (by omega)) ?_
  refine Ev.bind (toIntS_ev (by omega)) ?_
  refine Ev.bind (toIntS_ev (by omega)) ?_
  exact Ev.rfl
end Go.Proofs.Ytdhibknhejhfaaa.X
