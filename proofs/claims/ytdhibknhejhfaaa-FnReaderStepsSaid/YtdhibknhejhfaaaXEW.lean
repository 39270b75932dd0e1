/- What the rows' arguments read as. -/
import Derived.Test.YtdhibknhejhfaaaXED
import Derived.Test.YtdhibknhejhfaaaZFit
import Derived.Test.YtdhibknhejhfaaaXEF
set_option linter.unusedVariables false
set_option maxRecDepth 100000
namespace Go.Proofs.Ytdhibknhejhfaaa.X
open Go
theorem q6f:Dec T 5 cU8 qkb:=Dec.u8 rfl rfl
theorem quy:Dec T 22 (cL cU8) (wfL 1 qkb):=Dec.slice rfl rfl rfl q6f
end Go.Proofs.Ytdhibknhejhfaaa.X
