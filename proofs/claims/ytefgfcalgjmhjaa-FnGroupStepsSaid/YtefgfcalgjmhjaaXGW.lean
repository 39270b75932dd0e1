/- What the rows' arguments read as. -/
import Derived.Test.YtefgfcalgjmhjaaXGD
import Derived.Test.YtefgfcalgjmhjaaZFit
import Derived.Test.YtefgfcalgjmhjaaXGF
set_option linter.unusedVariables false
set_option maxRecDepth 100000
namespace Go.Proofs.Ytefgfcalgjmhjaa.X
open Go
theorem q8l:Dec T 5 cU8 qkz:=Dec.u8 rfl rfl
theorem q0w:Dec T 36 (cL cU8) (wfL 1 qkz):=Dec.slice rfl rfl rfl q8l
end Go.Proofs.Ytefgfcalgjmhjaa.X
