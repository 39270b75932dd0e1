/- What the rows' arguments read as. -/
import Derived.Test.YtpddolihbnfahaaXBD
import Derived.Test.YtpddolihbnfahaaZFit
import Derived.Test.YtpddolihbnfahaaXBF
set_option linter.unusedVariables false
set_option maxRecDepth 100000
namespace Go.Proofs.Ytpddolihbnfahaa.X
open Go
theorem q7q:Dec T 5 cU8 qlk:=Dec.u8 rfl rfl
theorem q55:Dec T 22 (cL cU8) (wfL 1 qlk):=Dec.slice rfl rfl rfl q7q
end Go.Proofs.Ytpddolihbnfahaa.X
