/- The laws' own walks: sizes, copies, comparisons, marks. -/
import Derived.Test.YtpkiieniipenjaaXCD
import Derived.Test.YtpkiieniipenjaaZLib2
set_option linter.unusedVariables false
set_option linter.unusedSimpArgs false
set_option maxRecDepth 100000
namespace Go.Proofs.Ytpkiieniipenjaa.X
open Go
def qjk (_:Int)(n:Nat) : Int:=(n:Int)
def q0t (_:Bool)(n:Nat) : Bool:=decide (Int.tmod (n:Int) 3=0)
def Chan.nn (x:Chan) : Nat:=(x.Way.length+0)
def Chan.mce (x:Chan) : Nat:=1+1+kd (fun _=>1) x.Way
def Chan.mke (x:Chan)(n:Nat) : Chan:=(Chan.mk ((n:Nat) : Int) ((n+1:Nat) : Int) (qfg qjk (fun _=>1) x.Way (n+1+1)))
def Chan.mkd (x:Chan)(n:Nat) : Chan:=(Chan.mk x.From x.To (qfg qjk (fun _=>1) x.Way (n)))
def Chan.en (x:Chan)(n:Nat) : Nat:=n+kd (fun _=>1) x.Way
theorem Chan.mce_le (x:Chan) : x.mce≤100*(1+x.nn):=by
 have h0:kd (fun _=>1) x.Way=1*x.Way.length:=qb8
 unfold Chan.mce
 simp only [Chan.nn]
 omega
theorem Chan.en_le {x:Chan}{n:Nat}(h:x.nn≤1048576) : x.en n≤n+100*x.nn:=by
 have h0:kd (fun _=>1) x.Way=1*x.Way.length:=qb8
 simp only [Chan.en,Chan.nn] at h ⊢
 omega
def Picture.nn (x:Picture) : Nat:=(x.In.length+(x.Closed.length+0))
def Picture.mce (x:Picture) : Nat:=1+1+kd (fun _=>1) x.In+kd (fun _=>1) x.Closed
def Picture.mke (x:Picture)(n:Nat) : Picture:=(Picture.mk (decide (Int.tmod ((n:Nat) : Int) 3=0)) ((n+1:Nat) : Int) (qfg qjk (fun _=>1) x.In (n+1+1)) (qfg q0t (fun _=>1) x.Closed (n+1+1+kd (fun _=>1) x.In)))
def Picture.mkd (x:Picture)(n:Nat) : Picture:=(Picture.mk x.Taken x.Amount (qfg qjk (fun _=>1) x.In (n)) (qfg q0t (fun _=>1) x.Closed (n+kd (fun _=>1) x.In)))
def Picture.en (x:Picture)(n:Nat) : Nat:=n+kd (fun _=>1) x.In+kd (fun _=>1) x.Closed
theorem Picture.mce_le (x:Picture) : x.mce≤100*(1+x.nn):=by
 have h0:kd (fun _=>1) x.In=1*x.In.length:=qb8
 have h1:kd (fun _=>1) x.Closed=1*x.Closed.length:=qb8
 unfold Picture.mce
 simp only [Picture.nn]
 omega
theorem Picture.en_le {x:Picture}{n:Nat}(h:x.nn≤1048576) : x.en n≤n+100*x.nn:=by
 have h0:kd (fun _=>1) x.In=1*x.In.length:=qb8
 have h1:kd (fun _=>1) x.Closed=1*x.Closed.length:=qb8
 simp only [Picture.en,Picture.nn] at h ⊢
 omega
def Snap.nn (x:Snap) : Nat:=(x.Amounts.length+((nnL Chan.nn x.Chans)+((nnL Picture.nn x.Pictures)+0)))
def Snap.mce (x:Snap) : Nat:=kd (fun _=>1) x.Amounts+kd Chan.mce x.Chans+kd Picture.mce x.Pictures+1+1
def Snap.mke (x:Snap)(n:Nat) : Snap:=(Snap.mk (qfg qjk (fun _=>1) x.Amounts (n)) (qfg Chan.mke Chan.mce x.Chans (n+kd (fun _=>1) x.Amounts)) (qfg Picture.mke Picture.mce x.Pictures (n+kd (fun _=>1) x.Amounts+kd Chan.mce x.Chans)) ((n+kd (fun _=>1) x.Amounts+kd Chan.mce x.Chans+kd Picture.mce x.Pictures:Nat) : Int) ((n+kd (fun _=>1) x.Amounts+kd Chan.mce x.Chans+kd Picture.mce x.Pictures+1:Nat) : Int))
def Snap.mkd (x:Snap)(n:Nat) : Snap:=(Snap.mk (qfg qjk (fun _=>1) x.Amounts (n)) (qfg Chan.mke Chan.mce x.Chans (n+kd (fun _=>1) x.Amounts)) (qfg Picture.mke Picture.mce x.Pictures (n+kd (fun _=>1) x.Amounts+kd Chan.mce x.Chans)) x.Sent x.Total)
def Snap.en (x:Snap)(n:Nat) : Nat:=n+kd (fun _=>1) x.Amounts+kd Chan.mce x.Chans+kd Picture.mce x.Pictures
theorem Snap.en_le {x:Snap}{n:Nat}(h:x.nn≤1048576) : x.en n≤n+100*x.nn:=by
 have h0:kd (fun _=>1) x.Amounts=1*x.Amounts.length:=qb8
 have h1:=qoy (c:=Chan.mce) (f:=Chan.nn) (m:=100) Chan.mce_le (l:=x.Chans)
 have h2:=qoy (c:=Picture.mce) (f:=Picture.nn) (m:=100) Picture.mce_le (l:=x.Pictures)
 simp only [Snap.en,Snap.nn] at h ⊢
 omega
def SnapStep.mce (x:SnapStep) : Nat:=1+1+1
def SnapStep.mke (x:SnapStep)(n:Nat) : SnapStep:=(SnapStep.mk ((n:Nat) : Int) ((n+1:Nat) : Int) ((n+1+1:Nat) : Int))
end Go.Proofs.Ytpkiieniipenjaa.X
