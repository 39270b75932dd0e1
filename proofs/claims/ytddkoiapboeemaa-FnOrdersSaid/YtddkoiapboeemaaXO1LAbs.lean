/- slices.BinarySearch in a row that rises. -/
import Derived.Test.YtddkoiapboeemaaXO1D
import Derived.Test.YtddkoiapboeemaaZLib3
set_option linter.unusedVariables false
set_option linter.unusedSimpArgs false
namespace Go.Proofs.Ytddkoiapboeemaa.X
open Go

end Go.Proofs.Ytddkoiapboeemaa.X
