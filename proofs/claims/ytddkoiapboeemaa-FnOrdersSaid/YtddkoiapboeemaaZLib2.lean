/- Plain facts on the laws' own walks: sizes, copies, comparisons, marks. -/
import Derived.Test.YtddkoiapboeemaaZLib
set_option linter.unusedVariables false
set_option linter.unusedSimpArgs false
namespace Go.Proofs.Ytddkoiapboeemaa.X
open Go
variable {α β σ ρ:Type}

theorem Ev.to {F:Nat→Option α}{r r':α}(h:Ev F r)(e:r=r') : Ev F r':=e▸h

end Go.Proofs.Ytddkoiapboeemaa.X
