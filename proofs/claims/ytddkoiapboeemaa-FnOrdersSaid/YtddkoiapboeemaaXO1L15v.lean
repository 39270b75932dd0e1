/- Orders of calls, object by object. -/
import Derived.Test.YtddkoiapboeemaaXO1L15t
set_option linter.unusedVariables false
set_option linter.unusedSimpArgs false
namespace Go.Proofs.Ytddkoiapboeemaa.X
open Go

end Go.Proofs.Ytddkoiapboeemaa.X
