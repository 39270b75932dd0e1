/- What the rows' arguments read as. -/
import Derived.Test.YtpkiieniipenjaaXBD
import Derived.Test.YtpkiieniipenjaaZFit
import Derived.Test.YtpkiieniipenjaaXBF
set_option linter.unusedVariables false
set_option maxRecDepth 100000
namespace Go.Proofs.Ytpkiieniipenjaa.X
open Go
theorem dec5 : Dec T 5 cU8 inU8 := Dec.u8 rfl rfl
theorem dec22 : Dec T 22 (cL cU8) (wfL 1 inU8) := Dec.slice rfl rfl rfl dec5
end Go.Proofs.Ytpkiieniipenjaa.X
