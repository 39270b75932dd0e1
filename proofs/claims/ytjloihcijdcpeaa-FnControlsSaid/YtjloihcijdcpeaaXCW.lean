/- What the rows' arguments read as. -/
import Derived.Test.YtjloihcijdcpeaaXCD
import Derived.Test.YtjloihcijdcpeaaZFit
import Derived.Test.YtjloihcijdcpeaaXCF
set_option linter.unusedVariables false
set_option maxRecDepth 100000
namespace Go.Proofs.Ytjloihcijdcpeaa.X
open Go
theorem q9v:Dec T 5 cU8 ql5:=Dec.u8 rfl rfl
theorem q8p:Dec T 22 (cL cU8) (wfL 1 ql5):=Dec.slice rfl rfl rfl q9v
end Go.Proofs.Ytjloihcijdcpeaa.X
