/- FnElections: true at every draw. -/
import Derived.Test.YtpddolihbnfahaaXCL9n
import Derived.Test.YtpddolihbnfahaaXCL9q
import Derived.Test.YtpddolihbnfahaaXCW
set_option linter.unusedVariables false
set_option linter.unusedSimpArgs false
namespace Go.Proofs.Ytpddolihbnfahaa.X
open Go

end Go.Proofs.Ytpddolihbnfahaa.X
