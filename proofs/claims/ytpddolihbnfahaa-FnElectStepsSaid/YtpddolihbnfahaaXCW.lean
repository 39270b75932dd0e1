/- What the rows' arguments read as. -/
import Derived.Test.YtpddolihbnfahaaXCD
import Derived.Test.YtpddolihbnfahaaZFit
import Derived.Test.YtpddolihbnfahaaXCF
set_option linter.unusedVariables false
set_option maxRecDepth 100000
namespace Go.Proofs.Ytpddolihbnfahaa.X
open Go
theorem zcc:Dec T 5 cU8 qlz:=Dec.u8 rfl rfl
theorem q22:Dec T 22 (cL cU8) (wfL 1 qlz):=Dec.slice rfl rfl rfl zcc
end Go.Proofs.Ytpddolihbnfahaa.X
