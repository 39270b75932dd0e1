/- What the rows' arguments read as. -/
import Derived.Test.YtddkoiapboeemaaXND
import Derived.Test.YtddkoiapboeemaaXFit
import Derived.Test.YtddkoiapboeemaaXNF
set_option linter.unusedVariables false
set_option maxRecDepth 100000
namespace Go.Proofs.Ytddkoiapboeemaa.X
open Go
theorem dec5 : Dec T 5 cU8 inU8 := Dec.u8 rfl rfl
theorem dec42 : Dec T 42 (cL cU8) (wfL 1 inU8) := Dec.slice rfl rfl rfl dec5
end Go.Proofs.Ytddkoiapboeemaa.X
