/- The laws' own walks: sizes, copies, comparisons, marks. -/
import Derived.Test.YtanblnjomhgphaaXBD
import Derived.Test.YtanblnjomhgphaaZLib2
set_option linter.unusedVariables false
set_option linter.unusedSimpArgs false
set_option maxRecDepth 100000
namespace Go.Proofs.Ytanblnjomhgphaa.X
open Go
def Peer.nn (x:Peer) : Nat:=(x.Log.length+(x.Match.length+0))
def Mail.nn (x:Mail) : Nat:=(x.Entry.length+0)
def Raft.nn (x:Raft) : Nat:=((nnL Peer.nn x.Peers)+((nnL Mail.nn x.Mail)+0))
end Go.Proofs.Ytanblnjomhgphaa.X
