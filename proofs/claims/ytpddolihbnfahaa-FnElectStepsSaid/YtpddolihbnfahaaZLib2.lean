/- Plain facts on the laws' own walks: sizes, copies, comparisons, marks. -/
import Derived.Test.YtpddolihbnfahaaZLib
set_option linter.unusedVariables false
set_option linter.unusedSimpArgs false
namespace Go.Proofs.Ytpddolihbnfahaa.X
open Go
variable {α β σ ρ:Type}

def qcd (f:α→Nat) : List α→Nat
 | []=>0
 | x::r=>f x+qcd f r
def nnL (f:α→Nat)(l:List α) : Nat:=l.length+qcd f l
end Go.Proofs.Ytpddolihbnfahaa.X
