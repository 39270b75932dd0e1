/- The laws' own walks: sizes, copies, comparisons, marks. -/
import Derived.Test.YtpkiieniipenjaaXAD
import Derived.Test.YtpkiieniipenjaaXAW
import Derived.Test.YtpkiieniipenjaaXLib2
set_option linter.unusedVariables false
set_option linter.unusedSimpArgs false
set_option maxRecDepth 100000
namespace Go.Proofs.Ytpkiieniipenjaa.X
open Go
def markI (_ : Int) (n : Nat) : Int := (n : Int)
def markB (_ : Bool) (n : Nat) : Bool := decide (Int.tmod (n : Int) 3 = 0)
def SnapStep.mce (x : SnapStep) : Nat := 1 + 1 + 1
def SnapStep.mke (x : SnapStep) (n : Nat) : SnapStep := (SnapStep.mk ((n : Nat) : Int) ((n + 1 : Nat) : Int) ((n + 1 + 1 : Nat) : Int))
def Chan.nn (x : Chan) : Nat := (x.Way.length + 0)
def Chan.mce (x : Chan) : Nat := 1 + 1 + sumN (fun _ => 1) x.Way
def Chan.mke (x : Chan) (n : Nat) : Chan := (Chan.mk ((n : Nat) : Int) ((n + 1 : Nat) : Int) (mkdL markI (fun _ => 1) x.Way (n + 1 + 1)))
def Chan.mkd (x : Chan) (n : Nat) : Chan := (Chan.mk x.From x.To (mkdL markI (fun _ => 1) x.Way (n)))
def Chan.en (x : Chan) (n : Nat) : Nat := n + sumN (fun _ => 1) x.Way
theorem Chan.mce_le (x : Chan) : x.mce ≤ 100 * (1 + x.nn) := by
  have h0 : sumN (fun _ => 1) x.Way = 1 * x.Way.length := sumN_const
  unfold Chan.mce
  simp only [Chan.nn]
  omega
theorem Chan.en_le {x : Chan} {n : Nat} (h : x.nn ≤ 1048576) : x.en n ≤ n + 100 * x.nn := by
  have h0 : sumN (fun _ => 1) x.Way = 1 * x.Way.length := sumN_const
  simp only [Chan.en, Chan.nn] at h ⊢
  omega
def Picture.nn (x : Picture) : Nat := (x.In.length + (x.Closed.length + 0))
def Picture.mce (x : Picture) : Nat := 1 + 1 + sumN (fun _ => 1) x.In + sumN (fun _ => 1) x.Closed
def Picture.mke (x : Picture) (n : Nat) : Picture := (Picture.mk (decide (Int.tmod ((n : Nat) : Int) 3 = 0)) ((n + 1 : Nat) : Int) (mkdL markI (fun _ => 1) x.In (n + 1 + 1)) (mkdL markB (fun _ => 1) x.Closed (n + 1 + 1 + sumN (fun _ => 1) x.In)))
def Picture.mkd (x : Picture) (n : Nat) : Picture := (Picture.mk x.Taken x.Amount (mkdL markI (fun _ => 1) x.In (n)) (mkdL markB (fun _ => 1) x.Closed (n + sumN (fun _ => 1) x.In)))
def Picture.en (x : Picture) (n : Nat) : Nat := n + sumN (fun _ => 1) x.In + sumN (fun _ => 1) x.Closed
theorem Picture.mce_le (x : Picture) : x.mce ≤ 100 * (1 + x.nn) := by
  have h0 : sumN (fun _ => 1) x.In = 1 * x.In.length := sumN_const
  have h1 : sumN (fun _ => 1) x.Closed = 1 * x.Closed.length := sumN_const
  unfold Picture.mce
  simp only [Picture.nn]
  omega
theorem Picture.en_le {x : Picture} {n : Nat} (h : x.nn ≤ 1048576) : x.en n ≤ n + 100 * x.nn := by
  have h0 : sumN (fun _ => 1) x.In = 1 * x.In.length := sumN_const
  have h1 : sumN (fun _ => 1) x.Closed = 1 * x.Closed.length := sumN_const
  simp only [Picture.en, Picture.nn] at h ⊢
  omega
def Snap.nn (x : Snap) : Nat := (x.Amounts.length + ((nnL Chan.nn x.Chans) + ((nnL Picture.nn x.Pictures) + 0)))
def Snap.mce (x : Snap) : Nat := sumN (fun _ => 1) x.Amounts + sumN Chan.mce x.Chans + sumN Picture.mce x.Pictures + 1 + 1
def Snap.mke (x : Snap) (n : Nat) : Snap := (Snap.mk (mkdL markI (fun _ => 1) x.Amounts (n)) (mkdL Chan.mke Chan.mce x.Chans (n + sumN (fun _ => 1) x.Amounts)) (mkdL Picture.mke Picture.mce x.Pictures (n + sumN (fun _ => 1) x.Amounts + sumN Chan.mce x.Chans)) ((n + sumN (fun _ => 1) x.Amounts + sumN Chan.mce x.Chans + sumN Picture.mce x.Pictures : Nat) : Int) ((n + sumN (fun _ => 1) x.Amounts + sumN Chan.mce x.Chans + sumN Picture.mce x.Pictures + 1 : Nat) : Int))
def Snap.mkd (x : Snap) (n : Nat) : Snap := (Snap.mk (mkdL markI (fun _ => 1) x.Amounts (n)) (mkdL Chan.mke Chan.mce x.Chans (n + sumN (fun _ => 1) x.Amounts)) (mkdL Picture.mke Picture.mce x.Pictures (n + sumN (fun _ => 1) x.Amounts + sumN Chan.mce x.Chans)) x.Sent x.Total)
def Snap.en (x : Snap) (n : Nat) : Nat := n + sumN (fun _ => 1) x.Amounts + sumN Chan.mce x.Chans + sumN Picture.mce x.Pictures
theorem Snap.en_le {x : Snap} {n : Nat} (h : x.nn ≤ 1048576) : x.en n ≤ n + 100 * x.nn := by
  have h0 : sumN (fun _ => 1) x.Amounts = 1 * x.Amounts.length := sumN_const
  have h1 := sumN_le (c := Chan.mce) (f := Chan.nn) (m := 100) Chan.mce_le (l := x.Chans)
  have h2 := sumN_le (c := Picture.mce) (f := Picture.nn) (m := 100) Picture.mce_le (l := x.Pictures)
  simp only [Snap.en, Snap.nn] at h ⊢
  omega
theorem szSnapStepS_ev {l : List SnapStep} {left : Int} (hl : l.length ≤ 4611686018427387904) (h0 : 0 ≤ left) (h1 : left ≤ 1048576) : Ev (fun k => laws_szSnapStepS l left) (szr l.length left) := by
  unfold laws_szSnapStepS
  exact Ev.of (szr_flat hl h0 h1)
theorem toSnapStepS_ev {l : List SnapStep} (hl : l.length ≤ 1048576) : Ev (fun k => laws_toSnapStepS k l) l := by
  unfold laws_toSnapStepS
  refine Ev.bindp (mkN_ok (by omega)) ?_
  refine Ev.jn (s := ((l.length : Int), l)) (toS_evk hl (fun i s x y hx hy => ?_) (fun s => ?_)) (Ev.of rfl)
  · unfold laws_toSnapStepS_b1
    have hi : i < l.length := (List.getElem?_eq_some_iff.1 hx).1
    refine Ev.iteT (by simpa using hi) ?_
    refine Ev.bindp (geti_nat hx) ?_
    refine Ev.bindp (geti_nat hy) ?_
    rw [wadd (by omega)]
    exact Ev.rfl
  · unfold laws_toSnapStepS_b1
    exact Ev.iteF (by simp) Ev.rfl
theorem eqIntS_ev {a b : List Int} (hl : a.length ≤ 1048576) : Ev (fun k => laws_eqIntS k a b) (decide (a = b)) := by
  unfold laws_eqIntS
  refine eqL_ev (fun hab => eqS_evk hl hab (fun i x y hx hy => ?_) ?_)
  · unfold laws_eqIntS_b1
    have hi : i < a.length := (List.getElem?_eq_some_iff.1 hx).1
    refine Ev.iteT (by simpa using hi) ?_
    refine Ev.bindp (geti_nat hx) ?_
    refine Ev.bindp (geti_nat hy) ?_
    rw [wadd (by omega)]
    by_cases e : x = y
    · rw [if_pos e]
      exact Ev.iteF (by simp [e]) Ev.rfl
    · rw [if_neg e]
      exact Ev.iteT (by simp [e]) Ev.rfl
  · unfold laws_eqIntS_b1
    exact Ev.iteF (by simp) Ev.rfl
theorem eqChan_ev {a b : Chan} (h : a.nn ≤ 1048576) : Ev (fun k => laws_eqChan k a b) (decide (a = b)) := by
  have h : (a.Way.length + 0) ≤ 1048576 := h
  refine eq_done (p := a.From = b.From ∧ a.To = b.To ∧ a.Way = b.Way ∧ True) ?_ (by cases a; cases b; simp)
  unfold laws_eqChan
  refine eq_iteI ?_
  refine eq_iteI ?_
  refine eq_bind (eqIntS_ev (by omega)) ?_
  exact eq_end
theorem eqChanS_ev {a b : List Chan} (h : nnL Chan.nn a ≤ 1048576) : Ev (fun k => laws_eqChanS k a b) (decide (a = b)) := by
  have hl : a.length ≤ 1048576 := Nat.le_trans nnL_len h
  unfold laws_eqChanS
  refine eqL_ev (fun hab => eqS_evk hl hab (fun i x y hx hy => ?_) ?_)
  · unfold laws_eqChanS_b1
    have hi : i < a.length := (List.getElem?_eq_some_iff.1 hx).1
    refine Ev.iteT (by simpa using hi) ?_
    refine Ev.bindp (geti_nat hx) ?_
    refine Ev.bindp (geti_nat hy) ?_
    refine Ev.bind (eqChan_ev (Nat.le_trans (nnL_get hx) h)) ?_
    rw [wadd (by omega)]
    by_cases e : x = y
    · rw [if_pos e]
      exact Ev.iteF (by simp [e]) Ev.rfl
    · rw [if_neg e]
      exact Ev.iteT (by simp [e]) Ev.rfl
  · unfold laws_eqChanS_b1
    exact Ev.iteF (by simp) Ev.rfl
theorem eqBoolS_ev {a b : List Bool} (hl : a.length ≤ 1048576) : Ev (fun k => laws_eqBoolS k a b) (decide (a = b)) := by
  unfold laws_eqBoolS
  refine eqL_ev (fun hab => eqS_evk hl hab (fun i x y hx hy => ?_) ?_)
  · unfold laws_eqBoolS_b1
    have hi : i < a.length := (List.getElem?_eq_some_iff.1 hx).1
    refine Ev.iteT (by simpa using hi) ?_
    refine Ev.bindp (geti_nat hx) ?_
    refine Ev.bindp (geti_nat hy) ?_
    rw [wadd (by omega)]
    by_cases e : x = y
    · rw [if_pos e]
      exact Ev.iteF (by simp [e]) Ev.rfl
    · rw [if_neg e]
      exact Ev.iteT (by simp [e]) Ev.rfl
  · unfold laws_eqBoolS_b1
    exact Ev.iteF (by simp) Ev.rfl
theorem eqPicture_ev {a b : Picture} (h : a.nn ≤ 1048576) : Ev (fun k => laws_eqPicture k a b) (decide (a = b)) := by
  have h : (a.In.length + (a.Closed.length + 0)) ≤ 1048576 := h
  refine eq_done (p := a.Taken = b.Taken ∧ a.Amount = b.Amount ∧ a.In = b.In ∧ a.Closed = b.Closed ∧ True) ?_ (by cases a; cases b; simp)
  unfold laws_eqPicture
  refine eq_iteB ?_
  refine eq_iteI ?_
  refine eq_bind (eqIntS_ev (by omega)) ?_
  refine eq_bind (eqBoolS_ev (by omega)) ?_
  exact eq_end
theorem eqPictureS_ev {a b : List Picture} (h : nnL Picture.nn a ≤ 1048576) : Ev (fun k => laws_eqPictureS k a b) (decide (a = b)) := by
  have hl : a.length ≤ 1048576 := Nat.le_trans nnL_len h
  unfold laws_eqPictureS
  refine eqL_ev (fun hab => eqS_evk hl hab (fun i x y hx hy => ?_) ?_)
  · unfold laws_eqPictureS_b1
    have hi : i < a.length := (List.getElem?_eq_some_iff.1 hx).1
    refine Ev.iteT (by simpa using hi) ?_
    refine Ev.bindp (geti_nat hx) ?_
    refine Ev.bindp (geti_nat hy) ?_
    refine Ev.bind (eqPicture_ev (Nat.le_trans (nnL_get hx) h)) ?_
    rw [wadd (by omega)]
    by_cases e : x = y
    · rw [if_pos e]
      exact Ev.iteF (by simp [e]) Ev.rfl
    · rw [if_neg e]
      exact Ev.iteT (by simp [e]) Ev.rfl
  · unfold laws_eqPictureS_b1
    exact Ev.iteF (by simp) Ev.rfl
theorem eqSnap_ev {a b : Snap} (h : a.nn ≤ 1048576) : Ev (fun k => laws_eqSnap k a b) (decide (a = b)) := by
  have h : (a.Amounts.length + ((nnL Chan.nn a.Chans) + ((nnL Picture.nn a.Pictures) + 0))) ≤ 1048576 := h
  refine eq_done (p := a.Amounts = b.Amounts ∧ a.Chans = b.Chans ∧ a.Pictures = b.Pictures ∧ a.Sent = b.Sent ∧ a.Total = b.Total ∧ True) ?_ (by cases a; cases b; simp)
  unfold laws_eqSnap
  refine eq_bind (eqIntS_ev (by omega)) ?_
  refine eq_bind (eqChanS_ev (by omega)) ?_
  refine eq_bind (eqPictureS_ev (by omega)) ?_
  refine eq_iteI ?_
  refine eq_iteI ?_
  exact eq_end
theorem eqSnapStep_ev {a b : SnapStep} : Ev (fun k => laws_eqSnapStep a b) (decide (a = b)) := by
  refine eq_done (p := a.Kind = b.Kind ∧ a.K = b.K ∧ a.N = b.N ∧ True) ?_ (by cases a; cases b; simp)
  unfold laws_eqSnapStep
  refine eq_iteI ?_
  refine eq_iteI ?_
  refine eq_iteI ?_
  exact eq_end
theorem eqSnapStepS_ev {a b : List SnapStep} (hl : a.length ≤ 1048576) : Ev (fun k => laws_eqSnapStepS k a b) (decide (a = b)) := by
  unfold laws_eqSnapStepS
  refine eqL_ev (fun hab => eqS_evk hl hab (fun i x y hx hy => ?_) ?_)
  · unfold laws_eqSnapStepS_b1
    have hi : i < a.length := (List.getElem?_eq_some_iff.1 hx).1
    refine Ev.iteT (by simpa using hi) ?_
    refine Ev.bindp (geti_nat hx) ?_
    refine Ev.bindp (geti_nat hy) ?_
    refine Ev.bind (eqSnapStep_ev) ?_
    rw [wadd (by omega)]
    by_cases e : x = y
    · rw [if_pos e]
      exact Ev.iteF (by simp [e]) Ev.rfl
    · rw [if_neg e]
      exact Ev.iteT (by simp [e]) Ev.rfl
  · unfold laws_eqSnapStepS_b1
    exact Ev.iteF (by simp) Ev.rfl
theorem markSnapStepS_ev {l : List SnapStep} {n : Nat} (hl : l.length ≤ 1048576) (hn : n + sumN SnapStep.mce l < 4611686018427387904) : Ev (fun k => laws_markSnapStepS k l (n : Int)) (((n + sumN SnapStep.mce l : Nat) : Int), mkdL SnapStep.mke SnapStep.mce l n) := by
  unfold laws_markSnapStepS
  refine Ev.jn (markS_evk (c := SnapStep.mce) (M := SnapStep.mke) hl hn (fun n i s x hn hi hx hsx hs => ?_) (fun n s hs => ?_)) (Ev.of rfl)
  · have hc : SnapStep.mce x = 1 + 1 + 1 := rfl
    rw [hc] at hn
    rw [show n + SnapStep.mce x = n + 1 + 1 + 1 by omega]
    unfold laws_markSnapStepS_b1
    try dsimp only
    refine Ev.iteT (by rw [hs]; simpa using hi) ?_
    refine Ev.bindp (geti_nat hsx) ?_
    try simp (disch := omega) only [wadd]
    exact Ev.rfl
  · unfold laws_markSnapStepS_b1
    try dsimp only
    exact Ev.iteF (by rw [hs]; simp) Ev.rfl
theorem markIntS_ev {l : List Int} {n : Nat} (hl : l.length ≤ 1048576) (hn : n + sumN (fun _ => 1) l < 4611686018427387904) : Ev (fun k => laws_markIntS k l (n : Int)) (((n + sumN (fun _ => 1) l : Nat) : Int), mkdL markI (fun _ => 1) l n) := by
  unfold laws_markIntS
  refine Ev.jn (markS_evk (c := (fun _ => 1)) (M := markI) hl hn (fun n i s x hn hi hx hsx hs => ?_) (fun n s hs => ?_)) (Ev.of rfl)
  · try dsimp only at hn
    unfold laws_markIntS_b1
    try dsimp only
    refine Ev.iteT (by rw [hs]; simpa using hi) ?_
    refine Ev.bindp (geti_nat hsx) ?_
    try simp (disch := omega) only [wadd]
    exact Ev.rfl
  · unfold laws_markIntS_b1
    try dsimp only
    exact Ev.iteF (by rw [hs]; simp) Ev.rfl
theorem markChanS_ev {l : List Chan} {n : Nat} (h : nnL Chan.nn l ≤ 1048576) (hn : n + sumN Chan.mce l < 4611686018427387904) : Ev (fun k => laws_markChanS k l (n : Int)) (((n + sumN Chan.mce l : Nat) : Int), mkdL Chan.mke Chan.mce l n) := by
  have hl : l.length ≤ 1048576 := Nat.le_trans nnL_len h
  unfold laws_markChanS
  refine Ev.jn (markS_evk (c := Chan.mce) (M := Chan.mke) hl hn (fun n i s x hn hi hx hsx hs => ?_) (fun n s hs => ?_)) (Ev.of rfl)
  · have hc : Chan.mce x = 1 + 1 + sumN (fun _ => 1) x.Way := rfl
    rw [hc] at hn
    rw [show n + Chan.mce x = n + 1 + 1 + sumN (fun _ => 1) x.Way by omega]
    have hb : (x.Way.length + 0) ≤ 1048576 := Nat.le_trans (nnL_get (f := Chan.nn) hx) h
    unfold laws_markChanS_b1
    try dsimp only
    refine Ev.iteT (by rw [hs]; simpa using hi) ?_
    refine Ev.bindp (geti_nat hsx) ?_
    try simp (disch := omega) only [wadd]
    refine Ev.bind (markIntS_ev (l := x.Way) (n := n + 1 + 1) (by omega) (by omega)) ?_
    try dsimp only
    try simp (disch := omega) only [wadd]
    exact Ev.rfl
  · unfold laws_markChanS_b1
    try dsimp only
    exact Ev.iteF (by rw [hs]; simp) Ev.rfl
theorem markBoolS_ev {l : List Bool} {n : Nat} (hl : l.length ≤ 1048576) (hn : n + sumN (fun _ => 1) l < 4611686018427387904) : Ev (fun k => laws_markBoolS k l (n : Int)) (((n + sumN (fun _ => 1) l : Nat) : Int), mkdL markB (fun _ => 1) l n) := by
  unfold laws_markBoolS
  refine Ev.jn (markS_evk (c := (fun _ => 1)) (M := markB) hl hn (fun n i s x hn hi hx hsx hs => ?_) (fun n s hs => ?_)) (Ev.of rfl)
  · try dsimp only at hn
    unfold laws_markBoolS_b1
    try dsimp only
    refine Ev.iteT (by rw [hs]; simpa using hi) ?_
    refine Ev.bindp (geti_nat hsx) ?_
    try simp (disch := omega) only [wadd]
    exact Ev.rfl
  · unfold laws_markBoolS_b1
    try dsimp only
    exact Ev.iteF (by rw [hs]; simp) Ev.rfl
theorem markPictureS_ev {l : List Picture} {n : Nat} (h : nnL Picture.nn l ≤ 1048576) (hn : n + sumN Picture.mce l < 4611686018427387904) : Ev (fun k => laws_markPictureS k l (n : Int)) (((n + sumN Picture.mce l : Nat) : Int), mkdL Picture.mke Picture.mce l n) := by
  have hl : l.length ≤ 1048576 := Nat.le_trans nnL_len h
  unfold laws_markPictureS
  refine Ev.jn (markS_evk (c := Picture.mce) (M := Picture.mke) hl hn (fun n i s x hn hi hx hsx hs => ?_) (fun n s hs => ?_)) (Ev.of rfl)
  · have hc : Picture.mce x = 1 + 1 + sumN (fun _ => 1) x.In + sumN (fun _ => 1) x.Closed := rfl
    rw [hc] at hn
    rw [show n + Picture.mce x = n + 1 + 1 + sumN (fun _ => 1) x.In + sumN (fun _ => 1) x.Closed by omega]
    have hb : (x.In.length + (x.Closed.length + 0)) ≤ 1048576 := Nat.le_trans (nnL_get (f := Picture.nn) hx) h
    unfold laws_markPictureS_b1
    try dsimp only
    refine Ev.iteT (by rw [hs]; simpa using hi) ?_
    refine Ev.bindp (geti_nat hsx) ?_
    try simp (disch := omega) only [wadd]
    refine Ev.bind (markIntS_ev (l := x.In) (n := n + 1 + 1) (by omega) (by omega)) ?_
    try dsimp only
    try simp (disch := omega) only [wadd]
    refine Ev.bind (markBoolS_ev (l := x.Closed) (n := n + 1 + 1 + sumN (fun _ => 1) x.In) (by omega) (by omega)) ?_
    try dsimp only
    try simp (disch := omega) only [wadd]
    exact Ev.rfl
  · unfold laws_markPictureS_b1
    try dsimp only
    exact Ev.iteF (by rw [hs]; simp) Ev.rfl
theorem markSnap_ev {x : Snap} {n : Nat} (h : x.nn ≤ 1048576) (hn : x.en n < 4611686018427387904) : Ev (fun k => laws_markSnap k x (n : Int)) (((x.en n : Nat) : Int), x.mkd n) := by
  simp only [Snap.en, Snap.nn] at h hn
  unfold laws_markSnap
  refine Ev.bind (markIntS_ev (l := x.Amounts) (n := n) (by omega) (by (try simp only [Snap.en, Snap.nn]); omega)) ?_
  refine Ev.bind (markChanS_ev (l := x.Chans) (n := n + sumN (fun _ => 1) x.Amounts) (by omega) (by (try simp only [Snap.en, Snap.nn]); omega)) ?_
  refine Ev.bind (markPictureS_ev (l := x.Pictures) (n := n + sumN (fun _ => 1) x.Amounts + sumN Chan.mce x.Chans) (by omega) (by (try simp only [Snap.en, Snap.nn]); omega)) ?_
  exact Ev.rfl
theorem heldIntS_ev {l : List Int} {n : Nat} (hl : l.length ≤ 1048576) (hn : n + sumN (fun _ => 1) l < 4611686018427387904) : Ev (fun k => laws_heldIntS k (mkdL markI (fun _ => 1) l n) (n : Int)) ((n + sumN (fun _ => 1) l : Nat) : Int) := by
  unfold laws_heldIntS
  refine Ev.jn (heldS_evk (l := l) (c := (fun _ => 1)) hl hn (fun i x hx hn => ?_) (fun n => ?_)) (Ev.of rfl)
  · have hg := mkdL_get (M := markI) (c := (fun _ => 1)) (n := n) hx
    have hi : i < l.length := (List.getElem?_eq_some_iff.1 hx).1
    generalize n + sumN (fun _ => 1) (l.take i) = n at hg hn ⊢
    try dsimp only at hn
    unfold laws_heldIntS_b1
    try dsimp only
    refine Ev.iteT (by rw [mkdL_length]; simpa using hi) ?_
    try simp (disch := omega) only [wadd]
    refine Ev.bindp (geti_nat hg) ?_
    refine Ev.iteF (by simp [markI]) ?_
    exact Ev.rfl
  · unfold laws_heldIntS_b1
    try dsimp only
    exact Ev.iteF (by rw [mkdL_length]; simp) Ev.rfl
theorem heldChanS_ev {l : List Chan} {n : Nat} (h : nnL Chan.nn l ≤ 1048576) (hn : n + sumN Chan.mce l < 4611686018427387904) : Ev (fun k => laws_heldChanS k (mkdL Chan.mke Chan.mce l n) (n : Int)) ((n + sumN Chan.mce l : Nat) : Int) := by
  have hl : l.length ≤ 1048576 := Nat.le_trans nnL_len h
  unfold laws_heldChanS
  refine Ev.jn (heldS_evk (l := l) (c := Chan.mce) hl hn (fun i x hx hn => ?_) (fun n => ?_)) (Ev.of rfl)
  · have hg := mkdL_get (M := Chan.mke) (c := Chan.mce) (n := n) hx
    have hi : i < l.length := (List.getElem?_eq_some_iff.1 hx).1
    generalize n + sumN Chan.mce (l.take i) = n at hg hn ⊢
    have hc : Chan.mce x = 1 + 1 + sumN (fun _ => 1) x.Way := rfl
    rw [hc] at hn
    rw [show n + Chan.mce x = n + 1 + 1 + sumN (fun _ => 1) x.Way by omega]
    have hb : (x.Way.length + 0) ≤ 1048576 := Nat.le_trans (nnL_get (f := Chan.nn) hx) h
    unfold laws_heldChanS_b1
    try dsimp only
    refine Ev.iteT (by rw [mkdL_length]; simpa using hi) ?_
    try simp (disch := omega) only [wadd]
    refine Ev.bindp (geti_nat hg) ?_
    refine Ev.iteF (by simp [Chan.mke]) ?_
    refine Ev.bindp (geti_nat hg) ?_
    refine Ev.iteF (by simp [Chan.mke]) ?_
    refine Ev.bindp (geti_nat hg) ?_
    refine Ev.bind (heldIntS_ev (l := x.Way) (n := n + 1 + 1) (by omega) (by omega)) ?_
    refine Ev.iteF (by simp only [decide_eq_false_iff_not]; omega) ?_
    try simp (disch := omega) only [wadd]
    exact Ev.rfl
  · unfold laws_heldChanS_b1
    try dsimp only
    exact Ev.iteF (by rw [mkdL_length]; simp) Ev.rfl
theorem heldBoolS_ev {l : List Bool} {n : Nat} (hl : l.length ≤ 1048576) (hn : n + sumN (fun _ => 1) l < 4611686018427387904) : Ev (fun k => laws_heldBoolS k (mkdL markB (fun _ => 1) l n) (n : Int)) ((n + sumN (fun _ => 1) l : Nat) : Int) := by
  unfold laws_heldBoolS
  refine Ev.jn (heldS_evk (l := l) (c := (fun _ => 1)) hl hn (fun i x hx hn => ?_) (fun n => ?_)) (Ev.of rfl)
  · have hg := mkdL_get (M := markB) (c := (fun _ => 1)) (n := n) hx
    have hi : i < l.length := (List.getElem?_eq_some_iff.1 hx).1
    generalize n + sumN (fun _ => 1) (l.take i) = n at hg hn ⊢
    try dsimp only at hn
    unfold laws_heldBoolS_b1
    try dsimp only
    refine Ev.iteT (by rw [mkdL_length]; simpa using hi) ?_
    try simp (disch := omega) only [wadd]
    refine Ev.bindp (geti_nat hg) ?_
    refine Ev.iteF (by simp [markB]) ?_
    exact Ev.rfl
  · unfold laws_heldBoolS_b1
    try dsimp only
    exact Ev.iteF (by rw [mkdL_length]; simp) Ev.rfl
theorem heldPictureS_ev {l : List Picture} {n : Nat} (h : nnL Picture.nn l ≤ 1048576) (hn : n + sumN Picture.mce l < 4611686018427387904) : Ev (fun k => laws_heldPictureS k (mkdL Picture.mke Picture.mce l n) (n : Int)) ((n + sumN Picture.mce l : Nat) : Int) := by
  have hl : l.length ≤ 1048576 := Nat.le_trans nnL_len h
  unfold laws_heldPictureS
  refine Ev.jn (heldS_evk (l := l) (c := Picture.mce) hl hn (fun i x hx hn => ?_) (fun n => ?_)) (Ev.of rfl)
  · have hg := mkdL_get (M := Picture.mke) (c := Picture.mce) (n := n) hx
    have hi : i < l.length := (List.getElem?_eq_some_iff.1 hx).1
    generalize n + sumN Picture.mce (l.take i) = n at hg hn ⊢
    have hc : Picture.mce x = 1 + 1 + sumN (fun _ => 1) x.In + sumN (fun _ => 1) x.Closed := rfl
    rw [hc] at hn
    rw [show n + Picture.mce x = n + 1 + 1 + sumN (fun _ => 1) x.In + sumN (fun _ => 1) x.Closed by omega]
    have hb : (x.In.length + (x.Closed.length + 0)) ≤ 1048576 := Nat.le_trans (nnL_get (f := Picture.nn) hx) h
    unfold laws_heldPictureS_b1
    try dsimp only
    refine Ev.iteT (by rw [mkdL_length]; simpa using hi) ?_
    try simp (disch := omega) only [wadd]
    refine Ev.bindp (geti_nat hg) ?_
    refine Ev.iteF (by simp [Picture.mke]) ?_
    refine Ev.bindp (geti_nat hg) ?_
    refine Ev.iteF (by simp [Picture.mke]) ?_
    refine Ev.bindp (geti_nat hg) ?_
    refine Ev.bind (heldIntS_ev (l := x.In) (n := n + 1 + 1) (by omega) (by omega)) ?_
    refine Ev.iteF (by simp only [decide_eq_false_iff_not]; omega) ?_
    try simp (disch := omega) only [wadd]
    refine Ev.bindp (geti_nat hg) ?_
    refine Ev.bind (heldBoolS_ev (l := x.Closed) (n := n + 1 + 1 + sumN (fun _ => 1) x.In) (by omega) (by omega)) ?_
    refine Ev.iteF (by simp only [decide_eq_false_iff_not]; omega) ?_
    try simp (disch := omega) only [wadd]
    exact Ev.rfl
  · unfold laws_heldPictureS_b1
    try dsimp only
    exact Ev.iteF (by rw [mkdL_length]; simp) Ev.rfl
theorem heldSnap_ev {x : Snap} {n : Nat} (h : x.nn ≤ 1048576) (hn : x.en n < 4611686018427387904) : Ev (fun k => laws_heldSnap k (x.mkd n) (n : Int)) ((x.en n : Nat) : Int) := by
  simp only [Snap.en, Snap.nn] at h hn
  unfold laws_heldSnap
  refine Ev.bind (heldIntS_ev (l := x.Amounts) (n := n) (by omega) (by (try simp only [Snap.en, Snap.nn]); omega)) ?_
  refine Ev.iteF (by simp only [decide_eq_false_iff_not]; omega) ?_
  refine Ev.bind (heldChanS_ev (l := x.Chans) (n := n + sumN (fun _ => 1) x.Amounts) (by omega) (by (try simp only [Snap.en, Snap.nn]); omega)) ?_
  refine Ev.iteF (by simp only [decide_eq_false_iff_not]; omega) ?_
  refine Ev.bind (heldPictureS_ev (l := x.Pictures) (n := n + sumN (fun _ => 1) x.Amounts + sumN Chan.mce x.Chans) (by omega) (by (try simp only [Snap.en, Snap.nn]); omega)) ?_
  refine Ev.iteF (by simp only [decide_eq_false_iff_not]; omega) ?_
  exact Ev.rfl
end Go.Proofs.Ytpkiieniipenjaa.X
