/- The laws' own walks: sizes, copies, comparisons, marks. -/
import Derived.Test.YtefgfcalgjmhjaaXED
import Derived.Test.YtefgfcalgjmhjaaZLib2
set_option linter.unusedVariables false
set_option linter.unusedSimpArgs false
set_option maxRecDepth 100000
namespace Go.Proofs.Ytefgfcalgjmhjaa.X
open Go
def qua (_:Int)(n:Nat) : Int:=(n:Int)
def q5r (_:Bool)(n:Nat) : Bool:=decide (Int.tmod (n:Int) 3=0)
def Row.mce (x:Row) : Nat:=1+1
def Row.mke (x:Row)(n:Nat) : Row:=(Row.mk ((n:Nat) : Int) ((n+1:Nat) : Int))
def Replica.nn (x:Replica) : Nat:=(x.Log.length+0)
def Replica.mce (x:Replica) : Nat:=yz Row.mce x.Log+1+1
def Replica.mke (x:Replica)(n:Nat) : Replica:=(Replica.mk (qhw Row.mke Row.mce x.Log (n)) ((n+yz Row.mce x.Log:Nat) : Int) ((n+yz Row.mce x.Log+1:Nat) : Int))
def Replica.mkd (x:Replica)(n:Nat) : Replica:=(Replica.mk (qhw Row.mke Row.mce x.Log (n)) x.Epoch x.Known)
def Replica.en (x:Replica)(n:Nat) : Nat:=n+yz Row.mce x.Log
theorem Replica.mce_le (x:Replica) : x.mce≤100*(1+x.nn):=by
 have h0:yz Row.mce x.Log=2*x.Log.length:=qf6
 unfold Replica.mce
 simp only [Replica.nn]
 omega
theorem Replica.en_le {x:Replica}{n:Nat}(h:x.nn≤1048576) : x.en n≤n+100*x.nn:=by
 have h0:yz Row.mce x.Log=2*x.Log.length:=qf6
 simp only [Replica.en,Replica.nn] at h ⊢
 omega
def Group.nn (x:Group) : Nat:=(x.InStep.length+((nnL Replica.nn x.Replicas)+0))
def Group.mce (x:Group) : Nat:=1+1+yz (fun _=>1) x.InStep+1+yz Replica.mce x.Replicas
def Group.mke (x:Group)(n:Nat) : Group:=(Group.mk ((n:Nat) : Int) ((n+1:Nat) : Int) (qhw qua (fun _=>1) x.InStep (n+1+1)) ((n+1+1+yz (fun _=>1) x.InStep:Nat) : Int) (qhw Replica.mke Replica.mce x.Replicas (n+1+1+yz (fun _=>1) x.InStep+1)))
def Group.mkd (x:Group)(n:Nat) : Group:=(Group.mk x.Epoch x.Leader (qhw qua (fun _=>1) x.InStep (n)) x.High (qhw Replica.mke Replica.mce x.Replicas (n+yz (fun _=>1) x.InStep)))
def Group.en (x:Group)(n:Nat) : Nat:=n+yz (fun _=>1) x.InStep+yz Replica.mce x.Replicas
theorem Group.en_le {x:Group}{n:Nat}(h:x.nn≤1048576) : x.en n≤n+100*x.nn:=by
 have h0:yz (fun _=>1) x.InStep=1*x.InStep.length:=qf6
 have h1:=q1p (c:=Replica.mce) (f:=Replica.nn) (m:=100) Replica.mce_le (l:=x.Replicas)
 simp only [Group.en,Group.nn] at h ⊢
 omega
def IsrStep.mce (x:IsrStep) : Nat:=1+1+1
def IsrStep.mke (x:IsrStep)(n:Nat) : IsrStep:=(IsrStep.mk ((n:Nat) : Int) ((n+1:Nat) : Int) ((n+1+1:Nat) : Int))
end Go.Proofs.Ytefgfcalgjmhjaa.X
