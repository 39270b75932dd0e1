/- Orders in time. -/
import Derived.Test.YtddkoiapboeemaaXL1L15d
set_option linter.unusedVariables false
set_option linter.unusedSimpArgs false
namespace Go.Proofs.Ytddkoiapboeemaa.X
open Go

end Go.Proofs.Ytddkoiapboeemaa.X
