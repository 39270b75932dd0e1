/- What the rows' arguments read as. -/
import Derived.Test.YtpddolihbnfahaaXBD
import Derived.Test.YtpddolihbnfahaaZFit
import Derived.Test.YtpddolihbnfahaaXBF
set_option linter.unusedVariables false
set_option maxRecDepth 100000
namespace Go.Proofs.Ytpddolihbnfahaa.X
open Go
theorem q7c:Dec T 5 cU8 qlu:=Dec.u8 rfl rfl
theorem q5x:Dec T 22 (cL cU8) (wfL 1 qlu):=Dec.slice rfl rfl rfl q7c
end Go.Proofs.Ytpddolihbnfahaa.X
