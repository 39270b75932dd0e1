/- ThinkLead: one answer. -/
import Derived.Test.YtohofoampalhoaaXCL17b
set_option linter.unusedVariables false
set_option linter.unusedSimpArgs false
namespace Go.Proofs.Ytohofoampalhoaa.X
open Go
theorem ThinkLead_core (v_0 : Cluster) (w0 : Cluster.wf v_0) (b0 : v_0.nn ≤ 1048576) : ∃ (r : List Int × Bool), Ev (fun k => spec_ThinkLead k v_0) r ∧ Ev (fun k => impl_ThinkLead v_0) r ∧ r.1.length ≤ 1048576 := by
  obtain ⟨t1, t2, t3⟩ := nn_truth b0
  obtain ⟨b, e1, e2, _⟩ := good_two b0
  unfold spec_ThinkLead impl_ThinkLead
  cases b with
  | false => exact ⟨([], false), Ev.bind e1 (Ev.iteT rfl Ev.rfl), Ev.bind e2 (Ev.iteT rfl Ev.rfl), by simp⟩
  | true =>
    refine ⟨(coll (fun i x => decide (x.View.Leader = (i : Int))) v_0.Nodes 0, true), Ev.bind e1 (Ev.iteF rfl (Ev.jn (collI_ev t2 (fun i x s hx hs => ?_)) Ev.rfl)), Ev.bind e2 (Ev.iteF rfl (Ev.jn (coll_ev t2 (fun i x s hx hs => ?_)) Ev.rfl)), Nat.le_trans coll_length t2⟩
    · have hi : i < v_0.Nodes.length := (List.getElem?_eq_some_iff.1 hx).1
      unfold spec_ThinkLead_b1 spec_l17Thinks
      rw [geti_nat hx]
      simp only [Option.bind_some, app1_ev (s := s) (v := (i : Int)) (by omega)]
      refine Ev.of ?_
      split <;> rfl
    · have hi : i < v_0.Nodes.length := (List.getElem?_eq_some_iff.1 hx).1
      unfold impl_ThinkLead_b1
      simp only [Option.bind_some, app1_ev (s := s) (v := (i : Int)) (by omega)]
      refine Ev.of ?_
      split <;> rfl
end Go.Proofs.Ytohofoampalhoaa.X
