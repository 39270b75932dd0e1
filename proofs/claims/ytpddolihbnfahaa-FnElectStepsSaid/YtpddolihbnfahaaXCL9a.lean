/- Elections: whether one is good, on both sides; logs and their last entries. -/
import Derived.Test.YtpddolihbnfahaaXCL9i
set_option linter.unusedVariables false
set_option linter.unusedSimpArgs false
namespace Go.Proofs.Ytpddolihbnfahaa.X
open Go

end Go.Proofs.Ytpddolihbnfahaa.X
