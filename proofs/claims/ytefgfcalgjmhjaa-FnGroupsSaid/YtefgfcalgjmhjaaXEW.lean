/- What the rows' arguments read as. -/
import Derived.Test.YtefgfcalgjmhjaaXED
import Derived.Test.YtefgfcalgjmhjaaZFit
import Derived.Test.YtefgfcalgjmhjaaXEF
set_option linter.unusedVariables false
set_option maxRecDepth 100000
namespace Go.Proofs.Ytefgfcalgjmhjaa.X
open Go
theorem q4p:Dec T 5 cU8 qjn:=Dec.u8 rfl rfl
theorem qzu:Dec T 36 (cL cU8) (wfL 1 qjn):=Dec.slice rfl rfl rfl q4p
end Go.Proofs.Ytefgfcalgjmhjaa.X
