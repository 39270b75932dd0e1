/- Members of a row that rises: what is asked on both sides. -/
import Derived.Test.YtpddolihbnfahaaXCD
import Derived.Test.YtpddolihbnfahaaZLib3
set_option linter.unusedVariables false
set_option linter.unusedSimpArgs false
namespace Go.Proofs.Ytpddolihbnfahaa.X
open Go
def qey (l:List Int)(n:Int) : Prop:=∀ (i:Nat) (x:Int),l[i]? = some x→0≤x∧x<n∧∀ y,0<i→l[i - 1]? = some y→y<x
end Go.Proofs.Ytpddolihbnfahaa.X
