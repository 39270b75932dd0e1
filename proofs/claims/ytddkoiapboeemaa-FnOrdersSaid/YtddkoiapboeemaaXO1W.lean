/- What the rows' arguments read as. -/
import Derived.Test.YtddkoiapboeemaaXO1D
import Derived.Test.YtddkoiapboeemaaZFit
import Derived.Test.YtddkoiapboeemaaXO1F
set_option linter.unusedVariables false
set_option maxRecDepth 100000
namespace Go.Proofs.Ytddkoiapboeemaa.X
open Go
theorem qzu:Dec T 5 cU8 qhc:=Dec.u8 rfl rfl
theorem qro:Dec T 42 (cL cU8) (wfL 1 qhc):=Dec.slice rfl rfl rfl qzu
end Go.Proofs.Ytddkoiapboeemaa.X
