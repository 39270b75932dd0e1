/- The laws' own walks: sizes, copies, comparisons, marks. -/
import Derived.Test.YtpddolihbnfahaaXAD
import Derived.Test.YtpddolihbnfahaaXAW
import Derived.Test.YtpddolihbnfahaaZLib2
set_option linter.unusedVariables false
set_option linter.unusedSimpArgs false
set_option maxRecDepth 100000
namespace Go.Proofs.Ytpddolihbnfahaa.X
open Go
def qfh (_:Int)(n:Nat) : Int:=(n:Int)
def qlc (_:Bool)(n:Nat) : Bool:=decide (Int.tmod (n:Int) 3=0)
def IntR.nn (l:List Int) : Nat:=l.length
def IntR.mce (l:List Int) : Nat:=zq (fun _=>1) l
def IntR.mke (l:List Int)(n:Nat) : List Int:=wj qfh (fun _=>1) l n
theorem IntR.mce_le (x:List Int) : IntR.mce x≤100*(1+IntR.nn x):=by
 have h:IntR.mce x=1*x.length:=u4
 unfold IntR.nn
 omega
def ElectStep.mce (x:ElectStep) : Nat:=1+1
def ElectStep.mke (x:ElectStep)(n:Nat) : ElectStep:=(ElectStep.mk ((n:Nat) : Int) ((n+1:Nat) : Int))
def Server.nn (x:Server) : Nat:=(x.Got.length+(x.Log.length+0))
def Server.mce (x:Server) : Nat:=1+1+1+1+zq (fun _=>1) x.Got+zq (fun _=>1) x.Log
def Server.mke (x:Server)(n:Nat) : Server:=(Server.mk ((n:Nat) : Int) ((n+1:Nat) : Int) (decide (Int.tmod ((n+1+1:Nat) : Int) 3=0)) (decide (Int.tmod ((n+1+1+1:Nat) : Int) 3=0)) (wj qfh (fun _=>1) x.Got (n+1+1+1+1)) (wj qfh (fun _=>1) x.Log (n+1+1+1+1+zq (fun _=>1) x.Got)))
def Server.mkd (x:Server)(n:Nat) : Server:=(Server.mk x.Term x.Voted x.Stands x.Leads (wj qfh (fun _=>1) x.Got (n)) (wj qfh (fun _=>1) x.Log (n+zq (fun _=>1) x.Got)))
def Server.en (x:Server)(n:Nat) : Nat:=n+zq (fun _=>1) x.Got+zq (fun _=>1) x.Log
theorem Server.mce_le (x:Server) : x.mce≤100*(1+x.nn):=by
 have h0:zq (fun _=>1) x.Got=1*x.Got.length:=u4
 have h1:zq (fun _=>1) x.Log=1*x.Log.length:=u4
 unfold Server.mce
 simp only [Server.nn]
 omega
theorem Server.en_le {x:Server}{n:Nat}(h:x.nn≤1048576) : x.en n≤n+100*x.nn:=by
 have h0:zq (fun _=>1) x.Got=1*x.Got.length:=u4
 have h1:zq (fun _=>1) x.Log=1*x.Log.length:=u4
 simp only [Server.en,Server.nn] at h ⊢
 omega
def Letter.mce (x:Letter) : Nat:=1+1+1+1+1+1+1
def Letter.mke (x:Letter)(n:Nat) : Letter:=(Letter.mk ((n:Nat) : Int) ((n+1:Nat) : Int) ((n+1+1:Nat) : Int) (decide (Int.tmod ((n+1+1+1:Nat) : Int) 3=0)) ((n+1+1+1+1:Nat) : Int) ((n+1+1+1+1+1:Nat) : Int) (decide (Int.tmod ((n+1+1+1+1+1+1:Nat) : Int) 3=0)))
def Vote.mce (x:Vote) : Nat:=1+1
def Vote.mke (x:Vote)(n:Nat) : Vote:=(Vote.mk ((n:Nat) : Int) ((n+1:Nat) : Int))
def Election.nn (x:Election) : Nat:=((nnL Server.nn x.Servers)+(x.Post.length+(x.Led.length+0)))
def Election.mce (x:Election) : Nat:=zq Server.mce x.Servers+zq Letter.mce x.Post+zq Vote.mce x.Led
def Election.mke (x:Election)(n:Nat) : Election:=(Election.mk (wj Server.mke Server.mce x.Servers (n)) (wj Letter.mke Letter.mce x.Post (n+zq Server.mce x.Servers)) (wj Vote.mke Vote.mce x.Led (n+zq Server.mce x.Servers+zq Letter.mce x.Post)))
def Election.mkd (x:Election)(n:Nat) : Election:=(Election.mk (wj Server.mke Server.mce x.Servers (n)) (wj Letter.mke Letter.mce x.Post (n+zq Server.mce x.Servers)) (wj Vote.mke Vote.mce x.Led (n+zq Server.mce x.Servers+zq Letter.mce x.Post)))
def Election.en (x:Election)(n:Nat) : Nat:=n+zq Server.mce x.Servers+zq Letter.mce x.Post+zq Vote.mce x.Led
theorem Election.en_le {x:Election}{n:Nat}(h:x.nn≤1048576) : x.en n≤n+100*x.nn:=by
 have h0:=qpx (c:=Server.mce) (f:=Server.nn) (m:=100) Server.mce_le (l:=x.Servers)
 have h1:zq Letter.mce x.Post=7*x.Post.length:=u4
 have h2:zq Vote.mce x.Led=2*x.Led.length:=u4
 simp only [Election.en,Election.nn] at h ⊢
 omega
theorem qr0 {l:List Int}{left:Int}(hl:l.length≤4611686018427387904)(h0:0≤left)(h1:left≤1048576) : Ev (fun k=>qdz l left) (szr l.length left):=by
 unfold qdz
 exact Ev.of (qoa hl h0 h1)
theorem qqw {l:List (List Int)}{left:Int}(w:wfL 24 (wfL 8 inI) l)(h0:0≤left)(h1:left≤1048576) : Ev (fun k=>qcu k l left) (szr (nnL IntR.nn l) left):=by
 unfold qcu
 refine q9l (by have:=w.1; omega) h0 h1 (fun hl h2=>?_)
 rw [wv (by omega) (by omega)]
 refine q89 hl h2 (by omega) (fun i x s hx hs0 hs1=>?_) (fun s=>?_)
 ·unfold qbd
  have hi:i<l.length:=(List.getElem?_eq_some_iff.1 hx).1
  refine Ev.iteT (by simpa using hi) ?_
  refine Ev.bindp (zv hx) ?_
  refine Ev.bind (qr0 (by have:=(w.2 _ (List.mem_of_getElem? hx)).1; omega) hs0 hs1) ?_
  unfold szr IntR.nn
  by_cases hc:(x.length:Int)≤s
  ·rw [if_pos hc,if_pos hc]
   refine Ev.iteF (by simp only [decide_eq_false_iff_not]; omega) ?_
   rw [xb (by omega)]
   exact Ev.rfl
  ·rw [if_neg hc,if_neg hc]
   exact Ev.iteT (by decide) Ev.rfl
 ·unfold qbd
  exact Ev.iteF (by simp) Ev.rfl
theorem qkz {l:List ElectStep}{left:Int}(hl:l.length≤4611686018427387904)(h0:0≤left)(h1:left≤1048576) : Ev (fun k=>ux l left) (szr l.length left):=by
 unfold ux
 exact Ev.of (qoa hl h0 h1)
theorem qwr {l:List Int}(hl:l.length≤1048576) : Ev (fun k=>qdq k l) l:=by
 unfold qdq
 refine Ev.bindp (qol (by omega)) ?_
 refine Ev.jn (s:=((l.length:Int),l)) (qlp hl (fun i s x y hx hy=>?_) (fun s=>?_)) (Ev.of rfl)
 ·unfold qb5
  have hi:i<l.length:=(List.getElem?_eq_some_iff.1 hx).1
  refine Ev.iteT (by simpa using hi) ?_
  refine Ev.bindp (zv hx) ?_
  refine Ev.bindp (zv hy) ?_
  rw [xb (by omega)]
  exact Ev.rfl
 ·unfold qb5
  exact Ev.iteF (by simp) Ev.rfl
theorem qgd {l:List (List Int)}(h:nnL IntR.nn l≤1048576) : Ev (fun k=>x6 k l) l:=by
 have hl:l.length≤1048576:=Nat.le_trans qdg h
 unfold x6
 refine Ev.bindp (qol (by omega)) ?_
 refine Ev.jn (s:=((l.length:Int),l)) (qlp hl (fun i s x y hx hy=>?_) (fun s=>?_)) (Ev.of rfl)
 ·unfold qbe
  have hi:i<l.length:=(List.getElem?_eq_some_iff.1 hx).1
  refine Ev.iteT (by simpa using hi) ?_
  refine Ev.bindp (zv hx) ?_
  refine Ev.bind (qwr (Nat.le_trans (qdf (f:=IntR.nn) hx) h)) ?_
  refine Ev.bindp (zv hy) ?_
  rw [xb (by omega)]
  exact Ev.rfl
 ·unfold qbe
  exact Ev.iteF (by simp) Ev.rfl
theorem qco {l:List ElectStep}(hl:l.length≤1048576) : Ev (fun k=>yp k l) l:=by
 unfold yp
 refine Ev.bindp (qol (by omega)) ?_
 refine Ev.jn (s:=((l.length:Int),l)) (qlp hl (fun i s x y hx hy=>?_) (fun s=>?_)) (Ev.of rfl)
 ·unfold xg
  have hi:i<l.length:=(List.getElem?_eq_some_iff.1 hx).1
  refine Ev.iteT (by simpa using hi) ?_
  refine Ev.bindp (zv hx) ?_
  refine Ev.bindp (zv hy) ?_
  rw [xb (by omega)]
  exact Ev.rfl
 ·unfold xg
  exact Ev.iteF (by simp) Ev.rfl
theorem qi3 {a b:List Int}(hl:a.length≤1048576) : Ev (fun k=>qbn k a b) (decide (a=b)):=by
 unfold qbn
 refine qgw (fun hab=>qe5 hl hab (fun i x y hx hy=>?_) ?_)
 ·unfold qb3
  have hi:i<a.length:=(List.getElem?_eq_some_iff.1 hx).1
  refine Ev.iteT (by simpa using hi) ?_
  refine Ev.bindp (zv hx) ?_
  refine Ev.bindp (zv hy) ?_
  rw [xb (by omega)]
  by_cases e:x=y
  ·rw [if_pos e]
   exact Ev.iteF (by simp [e]) Ev.rfl
  ·rw [if_neg e]
   exact Ev.iteT (by simp [e]) Ev.rfl
 ·unfold qb3
  exact Ev.iteF (by simp) Ev.rfl
theorem qpf {a b:Server}(h:a.nn≤1048576) : Ev (fun k=>qci k a b) (decide (a=b)):=by
 have h:(a.Got.length+(a.Log.length+0))≤1048576:=h
 refine qhw (p:=a.Term=b.Term∧a.Voted=b.Voted∧a.Stands=b.Stands∧a.Leads=b.Leads∧a.Got=b.Got∧a.Log=b.Log∧True) ?_ (by cases a; cases b; simp)
 unfold qci
 refine qb4 ?_
 refine qb4 ?_
 refine qjn ?_
 refine qjn ?_
 refine qh0 (qi3 (by omega)) ?_
 refine qh0 (qi3 (by omega)) ?_
 exact qi8
theorem qop {a b:List Server}(h:nnL Server.nn a≤1048576) : Ev (fun k=>qb0 k a b) (decide (a=b)):=by
 have hl:a.length≤1048576:=Nat.le_trans qdg h
 unfold qb0
 refine qgw (fun hab=>qe5 hl hab (fun i x y hx hy=>?_) ?_)
 ·unfold uo
  have hi:i<a.length:=(List.getElem?_eq_some_iff.1 hx).1
  refine Ev.iteT (by simpa using hi) ?_
  refine Ev.bindp (zv hx) ?_
  refine Ev.bindp (zv hy) ?_
  refine Ev.bind (qpf (Nat.le_trans (qdf hx) h)) ?_
  rw [xb (by omega)]
  by_cases e:x=y
  ·rw [if_pos e]
   exact Ev.iteF (by simp [e]) Ev.rfl
  ·rw [if_neg e]
   exact Ev.iteT (by simp [e]) Ev.rfl
 ·unfold uo
  exact Ev.iteF (by simp) Ev.rfl
theorem qoy {a b:Letter} : Ev (fun k=>qch a b) (decide (a=b)):=by
 refine qhw (p:=a.To=b.To∧a.From=b.From∧a.Term=b.Term∧a.Asks=b.Asks∧a.Last=b.Last∧a.Long=b.Long∧a.Grant=b.Grant∧True) ?_ (by cases a; cases b; simp)
 unfold qch
 refine qb4 ?_
 refine qb4 ?_
 refine qb4 ?_
 refine qjn ?_
 refine qb4 ?_
 refine qb4 ?_
 refine qjn ?_
 exact qi8
theorem qnb {a b:List Letter}(hl:a.length≤1048576) : Ev (fun k=>qbx k a b) (decide (a=b)):=by
 unfold qbx
 refine qgw (fun hab=>qe5 hl hab (fun i x y hx hy=>?_) ?_)
 ·unfold uq
  have hi:i<a.length:=(List.getElem?_eq_some_iff.1 hx).1
  refine Ev.iteT (by simpa using hi) ?_
  refine Ev.bindp (zv hx) ?_
  refine Ev.bindp (zv hy) ?_
  refine Ev.bind (qoy) ?_
  rw [xb (by omega)]
  by_cases e:x=y
  ·rw [if_pos e]
   exact Ev.iteF (by simp [e]) Ev.rfl
  ·rw [if_neg e]
   exact Ev.iteT (by simp [e]) Ev.rfl
 ·unfold uq
  exact Ev.iteF (by simp) Ev.rfl
theorem qu8 {a b:Vote} : Ev (fun k=>qdt a b) (decide (a=b)):=by
 refine qhw (p:=a.Term=b.Term∧a.Leader=b.Leader∧True) ?_ (by cases a; cases b; simp)
 unfold qdt
 refine qb4 ?_
 refine qb4 ?_
 exact qi8
theorem qrb {a b:List Vote}(hl:a.length≤1048576) : Ev (fun k=>qcr k a b) (decide (a=b)):=by
 unfold qcr
 refine qgw (fun hab=>qe5 hl hab (fun i x y hx hy=>?_) ?_)
 ·unfold qbc
  have hi:i<a.length:=(List.getElem?_eq_some_iff.1 hx).1
  refine Ev.iteT (by simpa using hi) ?_
  refine Ev.bindp (zv hx) ?_
  refine Ev.bindp (zv hy) ?_
  refine Ev.bind (qu8) ?_
  rw [xb (by omega)]
  by_cases e:x=y
  ·rw [if_pos e]
   exact Ev.iteF (by simp [e]) Ev.rfl
  ·rw [if_neg e]
   exact Ev.iteT (by simp [e]) Ev.rfl
 ·unfold qbc
  exact Ev.iteF (by simp) Ev.rfl
theorem qfw {a b:Election}(h:a.nn≤1048576) : Ev (fun k=>w7 k a b) (decide (a=b)):=by
 have h:((nnL Server.nn a.Servers)+(a.Post.length+(a.Led.length+0)))≤1048576:=h
 refine qhw (p:=a.Servers=b.Servers∧a.Post=b.Post∧a.Led=b.Led∧True) ?_ (by cases a; cases b; simp)
 unfold w7
 refine qh0 (qop (by omega)) ?_
 refine qh0 (qnb (by omega)) ?_
 refine qh0 (qrb (by omega)) ?_
 exact qi8
theorem qih {a b:List Bool}(hl:a.length≤1048576) : Ev (fun k=>qak k a b) (decide (a=b)):=by
 unfold qak
 refine qgw (fun hab=>qe5 hl hab (fun i x y hx hy=>?_) ?_)
 ·unfold qbf
  have hi:i<a.length:=(List.getElem?_eq_some_iff.1 hx).1
  refine Ev.iteT (by simpa using hi) ?_
  refine Ev.bindp (zv hx) ?_
  refine Ev.bindp (zv hy) ?_
  rw [xb (by omega)]
  by_cases e:x=y
  ·rw [if_pos e]
   exact Ev.iteF (by simp [e]) Ev.rfl
  ·rw [if_neg e]
   exact Ev.iteT (by simp [e]) Ev.rfl
 ·unfold qbf
  exact Ev.iteF (by simp) Ev.rfl
theorem qqt {a b:List (List Int)}(h:nnL IntR.nn a≤1048576) : Ev (fun k=>qcq k a b) (decide (a=b)):=by
 have hl:a.length≤1048576:=Nat.le_trans qdg h
 unfold qcq
 refine qgw (fun hab=>qe5 hl hab (fun i x y hx hy=>?_) ?_)
 ·unfold qa3
  have hi:i<a.length:=(List.getElem?_eq_some_iff.1 hx).1
  refine Ev.iteT (by simpa using hi) ?_
  refine Ev.bindp (zv hx) ?_
  refine Ev.bindp (zv hy) ?_
  refine Ev.bind (qi3 (Nat.le_trans (qdf (f:=IntR.nn) hx) h)) ?_
  rw [xb (by omega)]
  by_cases e:x=y
  ·rw [if_pos e]
   exact Ev.iteF (by simp [e]) Ev.rfl
  ·rw [if_neg e]
   exact Ev.iteT (by simp [e]) Ev.rfl
 ·unfold qa3
  exact Ev.iteF (by simp) Ev.rfl
theorem qlo {a b:ElectStep} : Ev (fun k=>qad a b) (decide (a=b)):=by
 refine qhw (p:=a.Term=b.Term∧a.Leader=b.Leader∧True) ?_ (by cases a; cases b; simp)
 unfold qad
 refine qb4 ?_
 refine qb4 ?_
 exact qi8
theorem qks {a b:List ElectStep}(hl:a.length≤1048576) : Ev (fun k=>ul k a b) (decide (a=b)):=by
 unfold ul
 refine qgw (fun hab=>qe5 hl hab (fun i x y hx hy=>?_) ?_)
 ·unfold w5
  have hi:i<a.length:=(List.getElem?_eq_some_iff.1 hx).1
  refine Ev.iteT (by simpa using hi) ?_
  refine Ev.bindp (zv hx) ?_
  refine Ev.bindp (zv hy) ?_
  refine Ev.bind (qlo) ?_
  rw [xb (by omega)]
  by_cases e:x=y
  ·rw [if_pos e]
   exact Ev.iteF (by simp [e]) Ev.rfl
  ·rw [if_neg e]
   exact Ev.iteT (by simp [e]) Ev.rfl
 ·unfold w5
  exact Ev.iteF (by simp) Ev.rfl
theorem qhj {l:List Int}{n:Nat}(hl:l.length≤1048576)(hn:n+zq (fun _=>1) l<4611686018427387904) : Ev (fun k=>uj k l (n:Int)) (((n+zq (fun _=>1) l:Nat) : Int),wj qfh (fun _=>1) l n):=by
 unfold uj
 refine Ev.jn (qc4 (c:=(fun _=>1)) (M:=qfh) hl hn (fun n i s x hn hi hx hsx hs=>?_) (fun n s hs=>?_)) (Ev.of rfl)
 ·try dsimp only at hn
  unfold qae
  try dsimp only
  refine Ev.iteT (by rw [hs]; simpa using hi) ?_
  refine Ev.bindp (zv hsx) ?_
  try simp (disch:=omega) only [xb]
  exact Ev.rfl
 ·unfold qae
  try dsimp only
  exact Ev.iteF (by rw [hs]; simp) Ev.rfl
theorem qoc {l:List (List Int)}{n:Nat}(h:nnL IntR.nn l≤1048576)(hn:n+zq IntR.mce l<4611686018427387904) : Ev (fun k=>qb2 k l (n:Int)) (((n+zq IntR.mce l:Nat) : Int),wj IntR.mke IntR.mce l n):=by
 have hl:l.length≤1048576:=Nat.le_trans qdg h
 unfold qb2
 refine Ev.jn (qc4 (c:=IntR.mce) (M:=IntR.mke) hl hn (fun n i s x hn hi hx hsx hs=>?_) (fun n s hs=>?_)) (Ev.of rfl)
 ·unfold ur
  dsimp only
  refine Ev.iteT (by rw [hs]; simpa using hi) ?_
  refine Ev.bindp (zv hsx) ?_
  refine Ev.bind (qhj (Nat.le_trans (qdf (f:=IntR.nn) hx) h) hn) ?_
  dsimp only
  try simp (disch:=omega) only [xb]
  exact Ev.rfl
 ·unfold ur
  dsimp only
  exact Ev.iteF (by rw [hs]; simp) Ev.rfl
theorem qjt {l:List ElectStep}{n:Nat}(hl:l.length≤1048576)(hn:n+zq ElectStep.mce l<4611686018427387904) : Ev (fun k=>xm k l (n:Int)) (((n+zq ElectStep.mce l:Nat) : Int),wj ElectStep.mke ElectStep.mce l n):=by
 unfold xm
 refine Ev.jn (qc4 (c:=ElectStep.mce) (M:=ElectStep.mke) hl hn (fun n i s x hn hi hx hsx hs=>?_) (fun n s hs=>?_)) (Ev.of rfl)
 ·have hc:ElectStep.mce x=1+1:=rfl
  rw [hc] at hn
  rw [show n+ElectStep.mce x=n+1+1 by omega]
  unfold wi
  try dsimp only
  refine Ev.iteT (by rw [hs]; simpa using hi) ?_
  refine Ev.bindp (zv hsx) ?_
  try simp (disch:=omega) only [xb]
  exact Ev.rfl
 ·unfold wi
  try dsimp only
  exact Ev.iteF (by rw [hs]; simp) Ev.rfl
theorem qlq {l:List Server}{n:Nat}(h:nnL Server.nn l≤1048576)(hn:n+zq Server.mce l<4611686018427387904) : Ev (fun k=>qaj k l (n:Int)) (((n+zq Server.mce l:Nat) : Int),wj Server.mke Server.mce l n):=by
 have hl:l.length≤1048576:=Nat.le_trans qdg h
 unfold qaj
 refine Ev.jn (qc4 (c:=Server.mce) (M:=Server.mke) hl hn (fun n i s x hn hi hx hsx hs=>?_) (fun n s hs=>?_)) (Ev.of rfl)
 ·have hc:Server.mce x=1+1+1+1+zq (fun _=>1) x.Got+zq (fun _=>1) x.Log:=rfl
  rw [hc] at hn
  rw [show n+Server.mce x=n+1+1+1+1+zq (fun _=>1) x.Got+zq (fun _=>1) x.Log by omega]
  have hb:(x.Got.length+(x.Log.length+0))≤1048576:=Nat.le_trans (qdf (f:=Server.nn) hx) h
  unfold xp
  try dsimp only
  refine Ev.iteT (by rw [hs]; simpa using hi) ?_
  refine Ev.bindp (zv hsx) ?_
  try simp (disch:=omega) only [xb]
  refine Ev.bind (qhj (l:=x.Got) (n:=n+1+1+1+1) (by omega) (by omega)) ?_
  try dsimp only
  try simp (disch:=omega) only [xb]
  refine Ev.bind (qhj (l:=x.Log) (n:=n+1+1+1+1+zq (fun _=>1) x.Got) (by omega) (by omega)) ?_
  try dsimp only
  try simp (disch:=omega) only [xb]
  exact Ev.rfl
 ·unfold xp
  try dsimp only
  exact Ev.iteF (by rw [hs]; simp) Ev.rfl
theorem ql5 {l:List Letter}{n:Nat}(hl:l.length≤1048576)(hn:n+zq Letter.mce l<4611686018427387904) : Ev (fun k=>qal k l (n:Int)) (((n+zq Letter.mce l:Nat) : Int),wj Letter.mke Letter.mce l n):=by
 unfold qal
 refine Ev.jn (qc4 (c:=Letter.mce) (M:=Letter.mke) hl hn (fun n i s x hn hi hx hsx hs=>?_) (fun n s hs=>?_)) (Ev.of rfl)
 ·have hc:Letter.mce x=1+1+1+1+1+1+1:=rfl
  rw [hc] at hn
  rw [show n+Letter.mce x=n+1+1+1+1+1+1+1 by omega]
  unfold xq
  try dsimp only
  refine Ev.iteT (by rw [hs]; simpa using hi) ?_
  refine Ev.bindp (zv hsx) ?_
  try simp (disch:=omega) only [xb]
  exact Ev.rfl
 ·unfold xq
  try dsimp only
  exact Ev.iteF (by rw [hs]; simp) Ev.rfl
theorem qnw {l:List Vote}{n:Nat}(hl:l.length≤1048576)(hn:n+zq Vote.mce l<4611686018427387904) : Ev (fun k=>qb6 k l (n:Int)) (((n+zq Vote.mce l:Nat) : Int),wj Vote.mke Vote.mce l n):=by
 unfold qb6
 refine Ev.jn (qc4 (c:=Vote.mce) (M:=Vote.mke) hl hn (fun n i s x hn hi hx hsx hs=>?_) (fun n s hs=>?_)) (Ev.of rfl)
 ·have hc:Vote.mce x=1+1:=rfl
  rw [hc] at hn
  rw [show n+Vote.mce x=n+1+1 by omega]
  unfold uu
  try dsimp only
  refine Ev.iteT (by rw [hs]; simpa using hi) ?_
  refine Ev.bindp (zv hsx) ?_
  try simp (disch:=omega) only [xb]
  exact Ev.rfl
 ·unfold uu
  try dsimp only
  exact Ev.iteF (by rw [hs]; simp) Ev.rfl
theorem qk3 {x:Election}{n:Nat}(h:x.nn≤1048576)(hn:x.en n<4611686018427387904) : Ev (fun k=>um k x (n:Int)) (((x.en n:Nat) : Int),x.mkd n):=by
 simp only [Election.en,Election.nn] at h hn
 unfold um
 refine Ev.bind (qlq (l:=x.Servers) (n:=n) (by omega) (by (try simp only [Election.en,Election.nn]); omega)) ?_
 refine Ev.bind (ql5 (l:=x.Post) (n:=n+zq Server.mce x.Servers) (by omega) (by (try simp only [Election.en,Election.nn]); omega)) ?_
 refine Ev.bind (qnw (l:=x.Led) (n:=n+zq Server.mce x.Servers+zq Letter.mce x.Post) (by omega) (by (try simp only [Election.en,Election.nn]); omega)) ?_
 exact Ev.rfl
theorem qnk {l:List Bool}{n:Nat}(hl:l.length≤1048576)(hn:n+zq (fun _=>1) l<4611686018427387904) : Ev (fun k=>qbu k l (n:Int)) (((n+zq (fun _=>1) l:Nat) : Int),wj qlc (fun _=>1) l n):=by
 unfold qbu
 refine Ev.jn (qc4 (c:=(fun _=>1)) (M:=qlc) hl hn (fun n i s x hn hi hx hsx hs=>?_) (fun n s hs=>?_)) (Ev.of rfl)
 ·try dsimp only at hn
  unfold uz
  try dsimp only
  refine Ev.iteT (by rw [hs]; simpa using hi) ?_
  refine Ev.bindp (zv hsx) ?_
  try simp (disch:=omega) only [xb]
  exact Ev.rfl
 ·unfold uz
  try dsimp only
  exact Ev.iteF (by rw [hs]; simp) Ev.rfl
theorem qj1 {l:List Int}{n:Nat}(hl:l.length≤1048576)(hn:n+zq (fun _=>1) l<4611686018427387904) : Ev (fun k=>qa0 k (wj qfh (fun _=>1) l n) (n:Int)) ((n+zq (fun _=>1) l:Nat) : Int):=by
 unfold qa0
 refine Ev.jn (qfq (l:=l) (c:=(fun _=>1)) hl hn (fun i x hx hn=>?_) (fun n=>?_)) (Ev.of rfl)
 ·have hg:=qfb (M:=qfh) (c:=(fun _=>1)) (n:=n) hx
  have hi:i<l.length:=(List.getElem?_eq_some_iff.1 hx).1
  generalize n+zq (fun _=>1) (l.take i)=n at hg hn ⊢
  try dsimp only at hn
  unfold qam
  try dsimp only
  refine Ev.iteT (by rw [wh]; simpa using hi) ?_
  try simp (disch:=omega) only [xb]
  refine Ev.bindp (zv hg) ?_
  refine Ev.iteF (by simp [qfh]) ?_
  exact Ev.rfl
 ·unfold qam
  try dsimp only
  exact Ev.iteF (by rw [wh]; simp) Ev.rfl
theorem qlz {l:List Server}{n:Nat}(h:nnL Server.nn l≤1048576)(hn:n+zq Server.mce l<4611686018427387904) : Ev (fun k=>qaf k (wj Server.mke Server.mce l n) (n:Int)) ((n+zq Server.mce l:Nat) : Int):=by
 have hl:l.length≤1048576:=Nat.le_trans qdg h
 unfold qaf
 refine Ev.jn (qfq (l:=l) (c:=Server.mce) hl hn (fun i x hx hn=>?_) (fun n=>?_)) (Ev.of rfl)
 ·have hg:=qfb (M:=Server.mke) (c:=Server.mce) (n:=n) hx
  have hi:i<l.length:=(List.getElem?_eq_some_iff.1 hx).1
  generalize n+zq Server.mce (l.take i)=n at hg hn ⊢
  have hc:Server.mce x=1+1+1+1+zq (fun _=>1) x.Got+zq (fun _=>1) x.Log:=rfl
  rw [hc] at hn
  rw [show n+Server.mce x=n+1+1+1+1+zq (fun _=>1) x.Got+zq (fun _=>1) x.Log by omega]
  have hb:(x.Got.length+(x.Log.length+0))≤1048576:=Nat.le_trans (qdf (f:=Server.nn) hx) h
  unfold xl
  try dsimp only
  refine Ev.iteT (by rw [wh]; simpa using hi) ?_
  try simp (disch:=omega) only [xb]
  refine Ev.bindp (zv hg) ?_
  refine Ev.iteF (by simp [Server.mke]) ?_
  refine Ev.bindp (zv hg) ?_
  refine Ev.iteF (by simp [Server.mke]) ?_
  refine Ev.bindp (zv hg) ?_
  refine Ev.iteF (by simp [Server.mke]) ?_
  refine Ev.bindp (zv hg) ?_
  refine Ev.iteF (by simp [Server.mke]) ?_
  refine Ev.bindp (zv hg) ?_
  refine Ev.bind (qj1 (l:=x.Got) (n:=n+1+1+1+1) (by omega) (by omega)) ?_
  refine Ev.iteF (by simp only [decide_eq_false_iff_not]; omega) ?_
  try simp (disch:=omega) only [xb]
  refine Ev.bindp (zv hg) ?_
  refine Ev.bind (qj1 (l:=x.Log) (n:=n+1+1+1+1+zq (fun _=>1) x.Got) (by omega) (by omega)) ?_
  refine Ev.iteF (by simp only [decide_eq_false_iff_not]; omega) ?_
  try simp (disch:=omega) only [xb]
  exact Ev.rfl
 ·unfold xl
  try dsimp only
  exact Ev.iteF (by rw [wh]; simp) Ev.rfl
theorem qmb {l:List Letter}{n:Nat}(hl:l.length≤1048576)(hn:n+zq Letter.mce l<4611686018427387904) : Ev (fun k=>qai k (wj Letter.mke Letter.mce l n) (n:Int)) ((n+zq Letter.mce l:Nat) : Int):=by
 unfold qai
 refine Ev.jn (qfq (l:=l) (c:=Letter.mce) hl hn (fun i x hx hn=>?_) (fun n=>?_)) (Ev.of rfl)
 ·have hg:=qfb (M:=Letter.mke) (c:=Letter.mce) (n:=n) hx
  have hi:i<l.length:=(List.getElem?_eq_some_iff.1 hx).1
  generalize n+zq Letter.mce (l.take i)=n at hg hn ⊢
  have hc:Letter.mce x=1+1+1+1+1+1+1:=rfl
  rw [hc] at hn
  rw [show n+Letter.mce x=n+1+1+1+1+1+1+1 by omega]
  unfold xu
  try dsimp only
  refine Ev.iteT (by rw [wh]; simpa using hi) ?_
  try simp (disch:=omega) only [xb]
  refine Ev.bindp (zv hg) ?_
  refine Ev.iteF (by simp [Letter.mke]) ?_
  refine Ev.bindp (zv hg) ?_
  refine Ev.iteF (by simp [Letter.mke]) ?_
  refine Ev.bindp (zv hg) ?_
  refine Ev.iteF (by simp [Letter.mke]) ?_
  refine Ev.bindp (zv hg) ?_
  refine Ev.iteF (by simp [Letter.mke]) ?_
  refine Ev.bindp (zv hg) ?_
  refine Ev.iteF (by simp [Letter.mke]) ?_
  refine Ev.bindp (zv hg) ?_
  refine Ev.iteF (by simp [Letter.mke]) ?_
  refine Ev.bindp (zv hg) ?_
  refine Ev.iteF (by simp [Letter.mke]) ?_
  exact Ev.rfl
 ·unfold xu
  try dsimp only
  exact Ev.iteF (by rw [wh]; simp) Ev.rfl
theorem qoh {l:List Vote}{n:Nat}(hl:l.length≤1048576)(hn:n+zq Vote.mce l<4611686018427387904) : Ev (fun k=>qbw k (wj Vote.mke Vote.mce l n) (n:Int)) ((n+zq Vote.mce l:Nat) : Int):=by
 unfold qbw
 refine Ev.jn (qfq (l:=l) (c:=Vote.mce) hl hn (fun i x hx hn=>?_) (fun n=>?_)) (Ev.of rfl)
 ·have hg:=qfb (M:=Vote.mke) (c:=Vote.mce) (n:=n) hx
  have hi:i<l.length:=(List.getElem?_eq_some_iff.1 hx).1
  generalize n+zq Vote.mce (l.take i)=n at hg hn ⊢
  have hc:Vote.mce x=1+1:=rfl
  rw [hc] at hn
  rw [show n+Vote.mce x=n+1+1 by omega]
  unfold u0
  try dsimp only
  refine Ev.iteT (by rw [wh]; simpa using hi) ?_
  try simp (disch:=omega) only [xb]
  refine Ev.bindp (zv hg) ?_
  refine Ev.iteF (by simp [Vote.mke]) ?_
  refine Ev.bindp (zv hg) ?_
  refine Ev.iteF (by simp [Vote.mke]) ?_
  exact Ev.rfl
 ·unfold u0
  try dsimp only
  exact Ev.iteF (by rw [wh]; simp) Ev.rfl
theorem qhf {x:Election}{n:Nat}(h:x.nn≤1048576)(hn:x.en n<4611686018427387904) : Ev (fun k=>xk k (x.mkd n) (n:Int)) ((x.en n:Nat) : Int):=by
 simp only [Election.en,Election.nn] at h hn
 unfold xk
 refine Ev.bind (qlz (l:=x.Servers) (n:=n) (by omega) (by (try simp only [Election.en,Election.nn]); omega)) ?_
 refine Ev.iteF (by simp only [decide_eq_false_iff_not]; omega) ?_
 refine Ev.bind (qmb (l:=x.Post) (n:=n+zq Server.mce x.Servers) (by omega) (by (try simp only [Election.en,Election.nn]); omega)) ?_
 refine Ev.iteF (by simp only [decide_eq_false_iff_not]; omega) ?_
 refine Ev.bind (qoh (l:=x.Led) (n:=n+zq Server.mce x.Servers+zq Letter.mce x.Post) (by omega) (by (try simp only [Election.en,Election.nn]); omega)) ?_
 refine Ev.iteF (by simp only [decide_eq_false_iff_not]; omega) ?_
 exact Ev.rfl
theorem qjc {l:List Bool}{n:Nat}(hl:l.length≤1048576)(hn:n+zq (fun _=>1) l<4611686018427387904) : Ev (fun k=>qaa k (wj qlc (fun _=>1) l n) (n:Int)) ((n+zq (fun _=>1) l:Nat) : Int):=by
 unfold qaa
 refine Ev.jn (qfq (l:=l) (c:=(fun _=>1)) hl hn (fun i x hx hn=>?_) (fun n=>?_)) (Ev.of rfl)
 ·have hg:=qfb (M:=qlc) (c:=(fun _=>1)) (n:=n) hx
  have hi:i<l.length:=(List.getElem?_eq_some_iff.1 hx).1
  generalize n+zq (fun _=>1) (l.take i)=n at hg hn ⊢
  try dsimp only at hn
  unfold uw
  try dsimp only
  refine Ev.iteT (by rw [wh]; simpa using hi) ?_
  try simp (disch:=omega) only [xb]
  refine Ev.bindp (zv hg) ?_
  refine Ev.iteF (by simp [qlc]) ?_
  exact Ev.rfl
 ·unfold uw
  try dsimp only
  exact Ev.iteF (by rw [wh]; simp) Ev.rfl
end Go.Proofs.Ytpddolihbnfahaa.X
