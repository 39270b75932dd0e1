/- The laws' own walks: sizes, copies, comparisons, marks. -/
import Derived.Test.YtddkoiapboeemaaXL1D
import Derived.Test.YtddkoiapboeemaaXL1W
import Derived.Test.YtddkoiapboeemaaZLib2
set_option linter.unusedVariables false
set_option linter.unusedSimpArgs false
set_option maxRecDepth 100000
namespace Go.Proofs.Ytddkoiapboeemaa.X
open Go
theorem szCallS_ev {l : List Call} {left : Int} (hl : l.length ≤ 4611686018427387904) (h0 : 0 ≤ left) (h1 : left ≤ 1048576) : Ev (fun k => laws_szCallS l left) (szr l.length left) := by
  unfold laws_szCallS
  exact Ev.of (szr_flat hl h0 h1)
theorem toCallS_ev {l : List Call} (hl : l.length ≤ 1048576) : Ev (fun k => laws_toCallS k l) l := by
  unfold laws_toCallS
  refine Ev.bindp (mkN_ok (by omega)) ?_
  refine Ev.jn (s := ((l.length : Int), l)) (toS_evk hl (fun i s x y hx hy => ?_) (fun s => ?_)) (Ev.of rfl)
  · unfold laws_toCallS_b1
    have hi : i < l.length := (List.getElem?_eq_some_iff.1 hx).1
    refine Ev.iteT (by simpa using hi) ?_
    refine Ev.bindp (geti_nat hx) ?_
    refine Ev.bindp (geti_nat hy) ?_
    rw [wadd (by omega)]
    exact Ev.rfl
  · unfold laws_toCallS_b1
    exact Ev.iteF (by simp) Ev.rfl
theorem eqCall_ev {a b : Call} : Ev (fun k => laws_eqCall a b) (decide (a = b)) := by
  refine eq_done (p := a.Client = b.Client ∧ a.Object = b.Object ∧ a.Write = b.Write ∧ a.Value = b.Value ∧ a.Begin = b.Begin ∧ a.End = b.End ∧ True) ?_ (by cases a; cases b; simp)
  unfold laws_eqCall
  refine eq_iteI ?_
  refine eq_iteI ?_
  refine eq_iteB ?_
  refine eq_iteI ?_
  refine eq_iteI ?_
  refine eq_iteI ?_
  exact eq_end
theorem eqCallS_ev {a b : List Call} (hl : a.length ≤ 1048576) : Ev (fun k => laws_eqCallS k a b) (decide (a = b)) := by
  unfold laws_eqCallS
  refine eqL_ev (fun hab => eqS_evk hl hab (fun i x y hx hy => ?_) ?_)
  · unfold laws_eqCallS_b1
    have hi : i < a.length := (List.getElem?_eq_some_iff.1 hx).1
    refine Ev.iteT (by simpa using hi) ?_
    refine Ev.bindp (geti_nat hx) ?_
    refine Ev.bindp (geti_nat hy) ?_
    refine Ev.bind (eqCall_ev) ?_
    rw [wadd (by omega)]
    by_cases e : x = y
    · rw [if_pos e]
      exact Ev.iteF (by simp [e]) Ev.rfl
    · rw [if_neg e]
      exact Ev.iteT (by simp [e]) Ev.rfl
  · unfold laws_eqCallS_b1
    exact Ev.iteF (by simp) Ev.rfl
theorem eqIntS_ev {a b : List Int} (hl : a.length ≤ 1048576) : Ev (fun k => laws_eqIntS k a b) (decide (a = b)) := by
  unfold laws_eqIntS
  refine eqL_ev (fun hab => eqS_evk hl hab (fun i x y hx hy => ?_) ?_)
  · unfold laws_eqIntS_b1
    have hi : i < a.length := (List.getElem?_eq_some_iff.1 hx).1
    refine Ev.iteT (by simpa using hi) ?_
    refine Ev.bindp (geti_nat hx) ?_
    refine Ev.bindp (geti_nat hy) ?_
    rw [wadd (by omega)]
    by_cases e : x = y
    · rw [if_pos e]
      exact Ev.iteF (by simp [e]) Ev.rfl
    · rw [if_neg e]
      exact Ev.iteT (by simp [e]) Ev.rfl
  · unfold laws_eqIntS_b1
    exact Ev.iteF (by simp) Ev.rfl
theorem toIntS_ev {l : List Int} (hl : l.length ≤ 1048576) : Ev (fun k => laws_toIntS k l) l := by
  unfold laws_toIntS
  refine Ev.bindp (mkN_ok (by omega)) ?_
  refine Ev.jn (s := ((l.length : Int), l)) (toS_evk hl (fun i s x y hx hy => ?_) (fun s => ?_)) (Ev.of rfl)
  · unfold laws_toIntS_b1
    have hi : i < l.length := (List.getElem?_eq_some_iff.1 hx).1
    refine Ev.iteT (by simpa using hi) ?_
    refine Ev.bindp (geti_nat hx) ?_
    refine Ev.bindp (geti_nat hy) ?_
    rw [wadd (by omega)]
    exact Ev.rfl
  · unfold laws_toIntS_b1
    exact Ev.iteF (by simp) Ev.rfl
end Go.Proofs.Ytddkoiapboeemaa.X
