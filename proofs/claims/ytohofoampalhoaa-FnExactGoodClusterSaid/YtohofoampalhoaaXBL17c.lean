/- GoodCluster: one answer. -/
import Derived.Test.YtohofoampalhoaaXBL17b
set_option linter.unusedVariables false
set_option linter.unusedSimpArgs false
namespace Go.Proofs.Ytohofoampalhoaa.X
open Go
theorem GoodCluster_core (aC_0 : Cluster) (w0 : Cluster.wf aC_0) (b0 : aC_0.nn ≤ 1048576) : ∃ (r : Bool), Ev (fun k => spec_GoodCluster k aC_0) r ∧ Ev (fun k => impl_GoodCluster aC_0) r := by
  obtain ⟨b, e1, e2, _⟩ := good_two b0
  exact ⟨b, e1, Ev.bind e2 Ev.rfl⟩
end Go.Proofs.Ytohofoampalhoaa.X
