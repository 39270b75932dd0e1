/- Draws: picks lie where they should. -/
import Derived.Test.YtpddolihbnfahaaXCD
import Derived.Test.YtpddolihbnfahaaZLib
set_option linter.unusedVariables false
set_option linter.unusedSimpArgs false
namespace Go.Proofs.Ytpddolihbnfahaa.X
open Go

end Go.Proofs.Ytpddolihbnfahaa.X
