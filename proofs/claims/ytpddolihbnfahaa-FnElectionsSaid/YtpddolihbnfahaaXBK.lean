/- The laws' own walks: sizes, copies, comparisons, marks. -/
import Derived.Test.YtpddolihbnfahaaXBD
import Derived.Test.YtpddolihbnfahaaZLib2
set_option linter.unusedVariables false
set_option linter.unusedSimpArgs false
set_option maxRecDepth 100000
namespace Go.Proofs.Ytpddolihbnfahaa.X
open Go
def qja (_:Int)(n:Nat) : Int:=(n:Int)
def q8b (_:Bool)(n:Nat) : Bool:=decide (Int.tmod (n:Int) 3=0)
def Server.nn (x:Server) : Nat:=(x.Got.length+(x.Log.length+0))
def Server.mce (x:Server) : Nat:=1+1+1+1+kx (fun _=>1) x.Got+kx (fun _=>1) x.Log
def Server.mke (x:Server)(n:Nat) : Server:=(Server.mk ((n:Nat) : Int) ((n+1:Nat) : Int) (decide (Int.tmod ((n+1+1:Nat) : Int) 3=0)) (decide (Int.tmod ((n+1+1+1:Nat) : Int) 3=0)) (qe9 qja (fun _=>1) x.Got (n+1+1+1+1)) (qe9 qja (fun _=>1) x.Log (n+1+1+1+1+kx (fun _=>1) x.Got)))
def Server.mkd (x:Server)(n:Nat) : Server:=(Server.mk x.Term x.Voted x.Stands x.Leads (qe9 qja (fun _=>1) x.Got (n)) (qe9 qja (fun _=>1) x.Log (n+kx (fun _=>1) x.Got)))
def Server.en (x:Server)(n:Nat) : Nat:=n+kx (fun _=>1) x.Got+kx (fun _=>1) x.Log
theorem Server.mce_le (x:Server) : x.mce≤100*(1+x.nn):=by
 have h0:kx (fun _=>1) x.Got=1*x.Got.length:=qbp
 have h1:kx (fun _=>1) x.Log=1*x.Log.length:=qbp
 unfold Server.mce
 simp only [Server.nn]
 omega
theorem Server.en_le {x:Server}{n:Nat}(h:x.nn≤1048576) : x.en n≤n+100*x.nn:=by
 have h0:kx (fun _=>1) x.Got=1*x.Got.length:=qbp
 have h1:kx (fun _=>1) x.Log=1*x.Log.length:=qbp
 simp only [Server.en,Server.nn] at h ⊢
 omega
def Letter.mce (x:Letter) : Nat:=1+1+1+1+1+1+1
def Letter.mke (x:Letter)(n:Nat) : Letter:=(Letter.mk ((n:Nat) : Int) ((n+1:Nat) : Int) ((n+1+1:Nat) : Int) (decide (Int.tmod ((n+1+1+1:Nat) : Int) 3=0)) ((n+1+1+1+1:Nat) : Int) ((n+1+1+1+1+1:Nat) : Int) (decide (Int.tmod ((n+1+1+1+1+1+1:Nat) : Int) 3=0)))
def Vote.mce (x:Vote) : Nat:=1+1
def Vote.mke (x:Vote)(n:Nat) : Vote:=(Vote.mk ((n:Nat) : Int) ((n+1:Nat) : Int))
def Election.nn (x:Election) : Nat:=((nnL Server.nn x.Servers)+(x.Post.length+(x.Led.length+0)))
def Election.mce (x:Election) : Nat:=kx Server.mce x.Servers+kx Letter.mce x.Post+kx Vote.mce x.Led
def Election.mke (x:Election)(n:Nat) : Election:=(Election.mk (qe9 Server.mke Server.mce x.Servers (n)) (qe9 Letter.mke Letter.mce x.Post (n+kx Server.mce x.Servers)) (qe9 Vote.mke Vote.mce x.Led (n+kx Server.mce x.Servers+kx Letter.mce x.Post)))
def Election.mkd (x:Election)(n:Nat) : Election:=(Election.mk (qe9 Server.mke Server.mce x.Servers (n)) (qe9 Letter.mke Letter.mce x.Post (n+kx Server.mce x.Servers)) (qe9 Vote.mke Vote.mce x.Led (n+kx Server.mce x.Servers+kx Letter.mce x.Post)))
def Election.en (x:Election)(n:Nat) : Nat:=n+kx Server.mce x.Servers+kx Letter.mce x.Post+kx Vote.mce x.Led
theorem Election.en_le {x:Election}{n:Nat}(h:x.nn≤1048576) : x.en n≤n+100*x.nn:=by
 have h0:=q20 (c:=Server.mce) (f:=Server.nn) (m:=100) Server.mce_le (l:=x.Servers)
 have h1:kx Letter.mce x.Post=7*x.Post.length:=qbp
 have h2:kx Vote.mce x.Led=2*x.Led.length:=qbp
 simp only [Election.en,Election.nn] at h ⊢
 omega
def IntR.nn (l:List Int) : Nat:=l.length
def IntR.mce (l:List Int) : Nat:=kx (fun _=>1) l
def IntR.mke (l:List Int)(n:Nat) : List Int:=qe9 qja (fun _=>1) l n
theorem IntR.mce_le (x:List Int) : IntR.mce x≤100*(1+IntR.nn x):=by
 have h:IntR.mce x=1*x.length:=qbp
 unfold IntR.nn
 omega
def ElectStep.mce (x:ElectStep) : Nat:=1+1
def ElectStep.mke (x:ElectStep)(n:Nat) : ElectStep:=(ElectStep.mk ((n:Nat) : Int) ((n+1:Nat) : Int))
end Go.Proofs.Ytpddolihbnfahaa.X
