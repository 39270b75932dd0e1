/- The laws' own walks: sizes, copies, comparisons, marks. -/
import Derived.Test.YtpddolihbnfahaaXCD
import Derived.Test.YtpddolihbnfahaaZLib2
set_option linter.unusedVariables false
set_option linter.unusedSimpArgs false
set_option maxRecDepth 100000
namespace Go.Proofs.Ytpddolihbnfahaa.X
open Go
def Server.nn (x:Server) : Nat:=(x.Got.length+(x.Log.length+0))
def Election.nn (x:Election) : Nat:=((nnL Server.nn x.Servers)+(x.Post.length+(x.Led.length+0)))
def IntR.nn (l:List Int) : Nat:=l.length
end Go.Proofs.Ytpddolihbnfahaa.X
