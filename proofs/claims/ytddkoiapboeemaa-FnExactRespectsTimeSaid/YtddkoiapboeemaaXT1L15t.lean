/- Orders in time. -/
import Derived.Test.YtddkoiapboeemaaXT1L15d
set_option linter.unusedVariables false
set_option linter.unusedSimpArgs false
namespace Go.Proofs.Ytddkoiapboeemaa.X
open Go

/-- What IsLinear asks of two places. -/
def relT (l : List Call) (a b : Int) : Bool := match l[a.toNat]?, l[b.toNat]? with
  | some x, some y => decide (x.Begin < y.End)
  | _, _ => false
end Go.Proofs.Ytddkoiapboeemaa.X
