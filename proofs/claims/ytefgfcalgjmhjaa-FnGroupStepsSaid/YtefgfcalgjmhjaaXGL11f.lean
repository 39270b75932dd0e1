/- PlayGroup: one answer. -/
import Derived.Test.YtefgfcalgjmhjaaXGL11n
set_option linter.unusedVariables false
set_option linter.unusedSimpArgs false
namespace Go.Proofs.Ytefgfcalgjmhjaa.X
open Go

end Go.Proofs.Ytefgfcalgjmhjaa.X
