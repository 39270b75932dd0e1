/- Drawn logs and steps: the draws come to an end. -/
import Derived.Test.YtpddolihbnfahaaXCLArefl
import Derived.Test.YtpddolihbnfahaaXCL9a
set_option linter.unusedVariables false
set_option linter.unusedSimpArgs false
namespace Go.Proofs.Ytpddolihbnfahaa.X
open Go

end Go.Proofs.Ytpddolihbnfahaa.X
