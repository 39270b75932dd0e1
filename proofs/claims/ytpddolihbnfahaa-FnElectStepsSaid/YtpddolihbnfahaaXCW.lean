/- What the rows' arguments read as. -/
import Derived.Test.YtpddolihbnfahaaXCD
import Derived.Test.YtpddolihbnfahaaZFit
import Derived.Test.YtpddolihbnfahaaXCF
set_option linter.unusedVariables false
set_option maxRecDepth 100000
namespace Go.Proofs.Ytpddolihbnfahaa.X
open Go
theorem q8t:Dec T 5 cU8 qol:=Dec.u8 rfl rfl
theorem q24:Dec T 22 (cL cU8) (wfL 1 qol):=Dec.slice rfl rfl rfl q8t
end Go.Proofs.Ytpddolihbnfahaa.X
