/- The laws' own walks: sizes, copies, comparisons, marks. -/
import Derived.Test.YtdhibknhejhfaaaXED
import Derived.Test.YtdhibknhejhfaaaZLib2
set_option linter.unusedVariables false
set_option linter.unusedSimpArgs false
set_option maxRecDepth 100000
namespace Go.Proofs.Ytdhibknhejhfaaa.X
open Go
def qga (_:Int)(n:Nat) : Int:=(n:Int)
def q7q (_:Bool)(n:Nat) : Bool:=decide (Int.tmod (n:Int) 3=0)
def Reader.nn (x:Reader) : Nat:=(x.Share.length+(x.Read.length+0))
def Reader.mce (x:Reader) : Nat:=1+1+kr (fun _=>1) x.Share+kr (fun _=>1) x.Read
def Reader.mke (x:Reader)(n:Nat) : Reader:=(Reader.mk (decide (Int.tmod ((n:Nat) : Int) 3=0)) ((n+1:Nat) : Int) (qfz qga (fun _=>1) x.Share (n+1+1)) (qfz qga (fun _=>1) x.Read (n+1+1+kr (fun _=>1) x.Share)))
def Reader.mkd (x:Reader)(n:Nat) : Reader:=(Reader.mk x.In x.Generation (qfz qga (fun _=>1) x.Share (n)) (qfz qga (fun _=>1) x.Read (n+kr (fun _=>1) x.Share)))
def Reader.en (x:Reader)(n:Nat) : Nat:=n+kr (fun _=>1) x.Share+kr (fun _=>1) x.Read
theorem Reader.mce_le (x:Reader) : x.mce≤100*(1+x.nn):=by
 have h0:kr (fun _=>1) x.Share=1*x.Share.length:=qcw
 have h1:kr (fun _=>1) x.Read=1*x.Read.length:=qcw
 unfold Reader.mce
 simp only [Reader.nn]
 omega
theorem Reader.en_le {x:Reader}{n:Nat}(h:x.nn≤1048576) : x.en n≤n+100*x.nn:=by
 have h0:kr (fun _=>1) x.Share=1*x.Share.length:=qcw
 have h1:kr (fun _=>1) x.Read=1*x.Read.length:=qcw
 simp only [Reader.en,Reader.nn] at h ⊢
 omega
def Readers_.nn (x:Readers_) : Nat:=((nnL Reader.nn x.Readers)+(x.Committed.length+(x.Ends.length+0)))
def Readers_.mce (x:Readers_) : Nat:=1+kr Reader.mce x.Readers+kr (fun _=>1) x.Committed+kr (fun _=>1) x.Ends
def Readers_.mke (x:Readers_)(n:Nat) : Readers_:=(Readers_.mk ((n:Nat) : Int) (qfz Reader.mke Reader.mce x.Readers (n+1)) (qfz qga (fun _=>1) x.Committed (n+1+kr Reader.mce x.Readers)) (qfz qga (fun _=>1) x.Ends (n+1+kr Reader.mce x.Readers+kr (fun _=>1) x.Committed)))
def Readers_.mkd (x:Readers_)(n:Nat) : Readers_:=(Readers_.mk x.Generation (qfz Reader.mke Reader.mce x.Readers (n)) (qfz qga (fun _=>1) x.Committed (n+kr Reader.mce x.Readers)) (qfz qga (fun _=>1) x.Ends (n+kr Reader.mce x.Readers+kr (fun _=>1) x.Committed)))
def Readers_.en (x:Readers_)(n:Nat) : Nat:=n+kr Reader.mce x.Readers+kr (fun _=>1) x.Committed+kr (fun _=>1) x.Ends
theorem Readers_.en_le {x:Readers_}{n:Nat}(h:x.nn≤1048576) : x.en n≤n+100*x.nn:=by
 have h0:=q3f (c:=Reader.mce) (f:=Reader.nn) (m:=100) Reader.mce_le (l:=x.Readers)
 have h1:kr (fun _=>1) x.Committed=1*x.Committed.length:=qcw
 have h2:kr (fun _=>1) x.Ends=1*x.Ends.length:=qcw
 simp only [Readers_.en,Readers_.nn] at h ⊢
 omega
def GroupStep.mce (x:GroupStep) : Nat:=1+1+1+1
def GroupStep.mke (x:GroupStep)(n:Nat) : GroupStep:=(GroupStep.mk ((n:Nat) : Int) ((n+1:Nat) : Int) ((n+1+1:Nat) : Int) ((n+1+1+1:Nat) : Int))
end Go.Proofs.Ytdhibknhejhfaaa.X
