/- slices.BinarySearch in a row that rises. -/
import Derived.Test.YtanblnjomhgphaaXBD
import Derived.Test.YtanblnjomhgphaaZLib3
set_option linter.unusedVariables false
set_option linter.unusedSimpArgs false
namespace Go.Proofs.Ytanblnjomhgphaa.X
open Go

end Go.Proofs.Ytanblnjomhgphaa.X
