/- What the rows' arguments read as. -/
import Derived.Test.YtohofoampalhoaaXAD
import Derived.Test.YtohofoampalhoaaXFit
import Derived.Test.YtohofoampalhoaaXAF
set_option linter.unusedVariables false
set_option maxRecDepth 100000
namespace Go.Proofs.Ytohofoampalhoaa.X
open Go
theorem dec3 : Dec T 3 cI inI := Dec.i64 rfl rfl
end Go.Proofs.Ytohofoampalhoaa.X
