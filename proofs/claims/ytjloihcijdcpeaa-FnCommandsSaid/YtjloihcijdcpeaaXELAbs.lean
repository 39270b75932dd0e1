/- slices.BinarySearch in a row that rises. -/
import Derived.Test.YtjloihcijdcpeaaXED
import Derived.Test.YtjloihcijdcpeaaZLib3
set_option linter.unusedVariables false
set_option linter.unusedSimpArgs false
namespace Go.Proofs.Ytjloihcijdcpeaa.X
open Go

end Go.Proofs.Ytjloihcijdcpeaa.X
