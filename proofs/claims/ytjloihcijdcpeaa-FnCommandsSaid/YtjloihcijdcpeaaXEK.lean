/- The laws' own walks: sizes, copies, comparisons, marks. -/
import Derived.Test.YtjloihcijdcpeaaXED
import Derived.Test.YtjloihcijdcpeaaZLib2
set_option linter.unusedVariables false
set_option linter.unusedSimpArgs false
set_option maxRecDepth 100000
namespace Go.Proofs.Ytjloihcijdcpeaa.X
open Go
def Partition.nn (x:Partition) : Nat:=(x.Homes.length+(x.InStep.length+0))
def Control.nn (x:Control) : Nat:=(x.Brokers.length+((nnL Partition.nn x.Parts)+0))
def Command.nn (x:Command) : Nat:=(x.InStep.length+0)
end Go.Proofs.Ytjloihcijdcpeaa.X
