/- What the rows' arguments read as. -/
import Derived.Test.YtjloihcijdcpeaaXED
import Derived.Test.YtjloihcijdcpeaaZFit
import Derived.Test.YtjloihcijdcpeaaXEF
set_option linter.unusedVariables false
set_option maxRecDepth 100000
namespace Go.Proofs.Ytjloihcijdcpeaa.X
open Go
theorem zcy:Dec T 5 cU8 qk5:=Dec.u8 rfl rfl
theorem q3f:Dec T 22 (cL cU8) (wfL 1 qk5):=Dec.slice rfl rfl rfl zcy
end Go.Proofs.Ytjloihcijdcpeaa.X
