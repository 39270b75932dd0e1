/- What the rows' arguments read as. -/
import Derived.Test.YtanblnjomhgphaaXBD
import Derived.Test.YtanblnjomhgphaaZFit
import Derived.Test.YtanblnjomhgphaaXBF
set_option linter.unusedVariables false
set_option maxRecDepth 100000
namespace Go.Proofs.Ytanblnjomhgphaa.X
open Go
theorem zgp:Dec T 5 cU8 qpp:=Dec.u8 rfl rfl
theorem zds:Dec T 22 (cL cU8) (wfL 1 qpp):=Dec.slice rfl rfl rfl zgp
end Go.Proofs.Ytanblnjomhgphaa.X
