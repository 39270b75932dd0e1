/- IsLegal: its core. -/
import Derived.Test.YtddkoiapboeemaaXL1L15l
import Derived.Test.YtddkoiapboeemaaXL1W
set_option linter.unusedVariables false
set_option linter.unusedSimpArgs false
namespace Go.Proofs.Ytddkoiapboeemaa.X
open Go

theorem IsLegal_core (aL_0 : List Call) (aOrder_1 : List Int) (w0 : (wfL 48 Call.wf) aL_0) (w1 : (wfL 8 inI) aOrder_1) (b0 : aL_0.length ≤ 1048576) (b1 : aOrder_1.length ≤ 1048576) : ∃ (r : Bool × Bool), Ev (fun k => spec_IsLegal aL_0 aOrder_1) r ∧ Ev (fun k => impl_IsLegal aL_0 aOrder_1) r := ⟨_, IsLegal_s b0 b1, IsLegal_i b0 b1⟩
end Go.Proofs.Ytddkoiapboeemaa.X
