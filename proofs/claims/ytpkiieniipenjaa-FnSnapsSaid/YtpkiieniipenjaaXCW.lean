/- What the rows' arguments read as. -/
import Derived.Test.YtpkiieniipenjaaXCD
import Derived.Test.YtpkiieniipenjaaZFit
import Derived.Test.YtpkiieniipenjaaXCF
set_option linter.unusedVariables false
set_option maxRecDepth 100000
namespace Go.Proofs.Ytpkiieniipenjaa.X
open Go
theorem zan:Dec T 5 cU8 qlp:=Dec.u8 rfl rfl
theorem qx5:Dec T 22 (cL cU8) (wfL 1 qlp):=Dec.slice rfl rfl rfl zan
end Go.Proofs.Ytpkiieniipenjaa.X
