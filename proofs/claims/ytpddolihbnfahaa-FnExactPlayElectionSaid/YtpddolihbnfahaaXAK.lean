/- The laws' own walks: sizes, copies, comparisons, marks. -/
import Derived.Test.YtpddolihbnfahaaXAD
import Derived.Test.YtpddolihbnfahaaXAW
import Derived.Test.YtpddolihbnfahaaZLib2
set_option linter.unusedVariables false
set_option linter.unusedSimpArgs false
set_option maxRecDepth 100000
namespace Go.Proofs.Ytpddolihbnfahaa.X
open Go
def qfg (_:Int)(n:Nat) : Int:=(n:Int)
def qkl (_:Bool)(n:Nat) : Bool:=decide (Int.tmod (n:Int) 3=0)
def IntR.nn (l:List Int) : Nat:=l.length
def IntR.mce (l:List Int) : Nat:=zq (fun _=>1) l
def IntR.mke (l:List Int)(n:Nat) : List Int:=wj qfg (fun _=>1) l n
theorem IntR.mce_le (x:List Int) : IntR.mce x≤100*(1+IntR.nn x):=by
 have h:IntR.mce x=1*x.length:=u4
 unfold IntR.nn
 omega
def ElectStep.mce (x:ElectStep) : Nat:=1+1
def ElectStep.mke (x:ElectStep)(n:Nat) : ElectStep:=(ElectStep.mk ((n:Nat) : Int) ((n+1:Nat) : Int))
def Server.nn (x:Server) : Nat:=(x.Got.length+(x.Log.length+0))
def Server.mce (x:Server) : Nat:=1+1+1+1+zq (fun _=>1) x.Got+zq (fun _=>1) x.Log
def Server.mke (x:Server)(n:Nat) : Server:=(Server.mk ((n:Nat) : Int) ((n+1:Nat) : Int) (decide (Int.tmod ((n+1+1:Nat) : Int) 3=0)) (decide (Int.tmod ((n+1+1+1:Nat) : Int) 3=0)) (wj qfg (fun _=>1) x.Got (n+1+1+1+1)) (wj qfg (fun _=>1) x.Log (n+1+1+1+1+zq (fun _=>1) x.Got)))
def Server.mkd (x:Server)(n:Nat) : Server:=(Server.mk x.Term x.Voted x.Stands x.Leads (wj qfg (fun _=>1) x.Got (n)) (wj qfg (fun _=>1) x.Log (n+zq (fun _=>1) x.Got)))
def Server.en (x:Server)(n:Nat) : Nat:=n+zq (fun _=>1) x.Got+zq (fun _=>1) x.Log
theorem Server.mce_le (x:Server) : x.mce≤100*(1+x.nn):=by
 have h0:zq (fun _=>1) x.Got=1*x.Got.length:=u4
 have h1:zq (fun _=>1) x.Log=1*x.Log.length:=u4
 unfold Server.mce
 simp only [Server.nn]
 omega
theorem Server.en_le {x:Server}{n:Nat}(h:x.nn≤1048576) : x.en n≤n+100*x.nn:=by
 have h0:zq (fun _=>1) x.Got=1*x.Got.length:=u4
 have h1:zq (fun _=>1) x.Log=1*x.Log.length:=u4
 simp only [Server.en,Server.nn] at h ⊢
 omega
def Letter.mce (x:Letter) : Nat:=1+1+1+1+1+1+1
def Letter.mke (x:Letter)(n:Nat) : Letter:=(Letter.mk ((n:Nat) : Int) ((n+1:Nat) : Int) ((n+1+1:Nat) : Int) (decide (Int.tmod ((n+1+1+1:Nat) : Int) 3=0)) ((n+1+1+1+1:Nat) : Int) ((n+1+1+1+1+1:Nat) : Int) (decide (Int.tmod ((n+1+1+1+1+1+1:Nat) : Int) 3=0)))
def Vote.mce (x:Vote) : Nat:=1+1
def Vote.mke (x:Vote)(n:Nat) : Vote:=(Vote.mk ((n:Nat) : Int) ((n+1:Nat) : Int))
def Election.nn (x:Election) : Nat:=((nnL Server.nn x.Servers)+(x.Post.length+(x.Led.length+0)))
def Election.mce (x:Election) : Nat:=zq Server.mce x.Servers+zq Letter.mce x.Post+zq Vote.mce x.Led
def Election.mke (x:Election)(n:Nat) : Election:=(Election.mk (wj Server.mke Server.mce x.Servers (n)) (wj Letter.mke Letter.mce x.Post (n+zq Server.mce x.Servers)) (wj Vote.mke Vote.mce x.Led (n+zq Server.mce x.Servers+zq Letter.mce x.Post)))
def Election.mkd (x:Election)(n:Nat) : Election:=(Election.mk (wj Server.mke Server.mce x.Servers (n)) (wj Letter.mke Letter.mce x.Post (n+zq Server.mce x.Servers)) (wj Vote.mke Vote.mce x.Led (n+zq Server.mce x.Servers+zq Letter.mce x.Post)))
def Election.en (x:Election)(n:Nat) : Nat:=n+zq Server.mce x.Servers+zq Letter.mce x.Post+zq Vote.mce x.Led
theorem Election.en_le {x:Election}{n:Nat}(h:x.nn≤1048576) : x.en n≤n+100*x.nn:=by
 have h0:=qpl (c:=Server.mce) (f:=Server.nn) (m:=100) Server.mce_le (l:=x.Servers)
 have h1:zq Letter.mce x.Post=7*x.Post.length:=u4
 have h2:zq Vote.mce x.Led=2*x.Led.length:=u4
 simp only [Election.en,Election.nn] at h ⊢
 omega
theorem qsm {l:List Int}{left:Int}(hl:l.length≤4611686018427387904)(h0:0≤left)(h1:left≤1048576) : Ev (fun k=>qdw l left) (szr l.length left):=by
 unfold qdw
 exact Ev.of (qnx hl h0 h1)
theorem qqd {l:List (List Int)}{left:Int}(w:wfL 24 (wfL 8 inI) l)(h0:0≤left)(h1:left≤1048576) : Ev (fun k=>qc8 k l left) (szr (nnL IntR.nn l) left):=by
 unfold qc8
 refine q9v (by have:=w.1; omega) h0 h1 (fun hl h2=>?_)
 rw [wx (by omega) (by omega)]
 refine zai hl h2 (by omega) (fun i x s hx hs0 hs1=>?_) (fun s=>?_)
 ·unfold qbe
  have hi:i<l.length:=(List.getElem?_eq_some_iff.1 hx).1
  refine Ev.iteT (by simpa using hi) ?_
  refine Ev.bindp (zv hx) ?_
  refine Ev.bind (qsm (by have:=(w.2 _ (List.mem_of_getElem? hx)).1; omega) hs0 hs1) ?_
  unfold szr IntR.nn
  by_cases hc:(x.length:Int)≤s
  ·rw [if_pos hc,if_pos hc]
   refine Ev.iteF (by simp only [decide_eq_false_iff_not]; omega) ?_
   rw [w8 (by omega)]
   exact Ev.rfl
  ·rw [if_neg hc,if_neg hc]
   exact Ev.iteT (by decide) Ev.rfl
 ·unfold qbe
  exact Ev.iteF (by simp) Ev.rfl
theorem qk8 {l:List ElectStep}{left:Int}(hl:l.length≤4611686018427387904)(h0:0≤left)(h1:left≤1048576) : Ev (fun k=>ul l left) (szr l.length left):=by
 unfold ul
 exact Ev.of (qnx hl h0 h1)
theorem qvp {l:List Int}(hl:l.length≤1048576) : Ev (fun k=>qdx k l) l:=by
 unfold qdx
 refine Ev.bindp (qn7 (by omega)) ?_
 refine Ev.jn (s:=((l.length:Int),l)) (qlj hl (fun i s x y hx hy=>?_) (fun s=>?_)) (Ev.of rfl)
 ·unfold qb6
  have hi:i<l.length:=(List.getElem?_eq_some_iff.1 hx).1
  refine Ev.iteT (by simpa using hi) ?_
  refine Ev.bindp (zv hx) ?_
  refine Ev.bindp (zv hy) ?_
  rw [w8 (by omega)]
  exact Ev.rfl
 ·unfold qb6
  exact Ev.iteF (by simp) Ev.rfl
theorem qgd {l:List (List Int)}(h:nnL IntR.nn l≤1048576) : Ev (fun k=>x4 k l) l:=by
 have hl:l.length≤1048576:=Nat.le_trans qdd h
 unfold x4
 refine Ev.bindp (qn7 (by omega)) ?_
 refine Ev.jn (s:=((l.length:Int),l)) (qlj hl (fun i s x y hx hy=>?_) (fun s=>?_)) (Ev.of rfl)
 ·unfold qbc
  have hi:i<l.length:=(List.getElem?_eq_some_iff.1 hx).1
  refine Ev.iteT (by simpa using hi) ?_
  refine Ev.bindp (zv hx) ?_
  refine Ev.bind (qvp (Nat.le_trans (qde (f:=IntR.nn) hx) h)) ?_
  refine Ev.bindp (zv hy) ?_
  rw [w8 (by omega)]
  exact Ev.rfl
 ·unfold qbc
  exact Ev.iteF (by simp) Ev.rfl
theorem qcp {l:List ElectStep}(hl:l.length≤1048576) : Ev (fun k=>yq k l) l:=by
 unfold yq
 refine Ev.bindp (qn7 (by omega)) ?_
 refine Ev.jn (s:=((l.length:Int),l)) (qlj hl (fun i s x y hx hy=>?_) (fun s=>?_)) (Ev.of rfl)
 ·unfold w6
  have hi:i<l.length:=(List.getElem?_eq_some_iff.1 hx).1
  refine Ev.iteT (by simpa using hi) ?_
  refine Ev.bindp (zv hx) ?_
  refine Ev.bindp (zv hy) ?_
  rw [w8 (by omega)]
  exact Ev.rfl
 ·unfold w6
  exact Ev.iteF (by simp) Ev.rfl
theorem qiy {a b:List Int}(hl:a.length≤1048576) : Ev (fun k=>qbl k a b) (decide (a=b)):=by
 unfold qbl
 refine qgm (fun hab=>qfe hl hab (fun i x y hx hy=>?_) ?_)
 ·unfold qb3
  have hi:i<a.length:=(List.getElem?_eq_some_iff.1 hx).1
  refine Ev.iteT (by simpa using hi) ?_
  refine Ev.bindp (zv hx) ?_
  refine Ev.bindp (zv hy) ?_
  rw [w8 (by omega)]
  by_cases e:x=y
  ·rw [if_pos e]
   exact Ev.iteF (by simp [e]) Ev.rfl
  ·rw [if_neg e]
   exact Ev.iteT (by simp [e]) Ev.rfl
 ·unfold qb3
  exact Ev.iteF (by simp) Ev.rfl
theorem qo0 {a b:Server}(h:a.nn≤1048576) : Ev (fun k=>qch k a b) (decide (a=b)):=by
 have h:(a.Got.length+(a.Log.length+0))≤1048576:=h
 refine qhq (p:=a.Term=b.Term∧a.Voted=b.Voted∧a.Stands=b.Stands∧a.Leads=b.Leads∧a.Got=b.Got∧a.Log=b.Log∧True) ?_ (by cases a; cases b; simp)
 unfold qch
 refine qbt ?_
 refine qbt ?_
 refine qjj ?_
 refine qjj ?_
 refine qhw (qiy (by omega)) ?_
 refine qhw (qiy (by omega)) ?_
 exact qjf
theorem qnr {a b:List Server}(h:nnL Server.nn a≤1048576) : Ev (fun k=>qbu k a b) (decide (a=b)):=by
 have hl:a.length≤1048576:=Nat.le_trans qdd h
 unfold qbu
 refine qgm (fun hab=>qfe hl hab (fun i x y hx hy=>?_) ?_)
 ·unfold u0
  have hi:i<a.length:=(List.getElem?_eq_some_iff.1 hx).1
  refine Ev.iteT (by simpa using hi) ?_
  refine Ev.bindp (zv hx) ?_
  refine Ev.bindp (zv hy) ?_
  refine Ev.bind (qo0 (Nat.le_trans (qde hx) h)) ?_
  rw [w8 (by omega)]
  by_cases e:x=y
  ·rw [if_pos e]
   exact Ev.iteF (by simp [e]) Ev.rfl
  ·rw [if_neg e]
   exact Ev.iteT (by simp [e]) Ev.rfl
 ·unfold u0
  exact Ev.iteF (by simp) Ev.rfl
theorem qo9 {a b:Letter} : Ev (fun k=>qcg a b) (decide (a=b)):=by
 refine qhq (p:=a.To=b.To∧a.From=b.From∧a.Term=b.Term∧a.Asks=b.Asks∧a.Last=b.Last∧a.Long=b.Long∧a.Grant=b.Grant∧True) ?_ (by cases a; cases b; simp)
 unfold qcg
 refine qbt ?_
 refine qbt ?_
 refine qbt ?_
 refine qjj ?_
 refine qbt ?_
 refine qbt ?_
 refine qjj ?_
 exact qjf
theorem qot {a b:List Letter}(hl:a.length≤1048576) : Ev (fun k=>qb5 k a b) (decide (a=b)):=by
 unfold qb5
 refine qgm (fun hab=>qfe hl hab (fun i x y hx hy=>?_) ?_)
 ·unfold um
  have hi:i<a.length:=(List.getElem?_eq_some_iff.1 hx).1
  refine Ev.iteT (by simpa using hi) ?_
  refine Ev.bindp (zv hx) ?_
  refine Ev.bindp (zv hy) ?_
  refine Ev.bind (qo9) ?_
  rw [w8 (by omega)]
  by_cases e:x=y
  ·rw [if_pos e]
   exact Ev.iteF (by simp [e]) Ev.rfl
  ·rw [if_neg e]
   exact Ev.iteT (by simp [e]) Ev.rfl
 ·unfold um
  exact Ev.iteF (by simp) Ev.rfl
theorem qsp {a b:Vote} : Ev (fun k=>qdv a b) (decide (a=b)):=by
 refine qhq (p:=a.Term=b.Term∧a.Leader=b.Leader∧True) ?_ (by cases a; cases b; simp)
 unfold qdv
 refine qbt ?_
 refine qbt ?_
 exact qjf
theorem qq0 {a b:List Vote}(hl:a.length≤1048576) : Ev (fun k=>qcx k a b) (decide (a=b)):=by
 unfold qcx
 refine qgm (fun hab=>qfe hl hab (fun i x y hx hy=>?_) ?_)
 ·unfold qa4
  have hi:i<a.length:=(List.getElem?_eq_some_iff.1 hx).1
  refine Ev.iteT (by simpa using hi) ?_
  refine Ev.bindp (zv hx) ?_
  refine Ev.bindp (zv hy) ?_
  refine Ev.bind (qsp) ?_
  rw [w8 (by omega)]
  by_cases e:x=y
  ·rw [if_pos e]
   exact Ev.iteF (by simp [e]) Ev.rfl
  ·rw [if_neg e]
   exact Ev.iteT (by simp [e]) Ev.rfl
 ·unfold qa4
  exact Ev.iteF (by simp) Ev.rfl
theorem qfv {a b:Election}(h:a.nn≤1048576) : Ev (fun k=>xa k a b) (decide (a=b)):=by
 have h:((nnL Server.nn a.Servers)+(a.Post.length+(a.Led.length+0)))≤1048576:=h
 refine qhq (p:=a.Servers=b.Servers∧a.Post=b.Post∧a.Led=b.Led∧True) ?_ (by cases a; cases b; simp)
 unfold xa
 refine qhw (qnr (by omega)) ?_
 refine qhw (qot (by omega)) ?_
 refine qhw (qq0 (by omega)) ?_
 exact qjf
theorem qh7 {a b:List Bool}(hl:a.length≤1048576) : Ev (fun k=>qal k a b) (decide (a=b)):=by
 unfold qal
 refine qgm (fun hab=>qfe hl hab (fun i x y hx hy=>?_) ?_)
 ·unfold qa2
  have hi:i<a.length:=(List.getElem?_eq_some_iff.1 hx).1
  refine Ev.iteT (by simpa using hi) ?_
  refine Ev.bindp (zv hx) ?_
  refine Ev.bindp (zv hy) ?_
  rw [w8 (by omega)]
  by_cases e:x=y
  ·rw [if_pos e]
   exact Ev.iteF (by simp [e]) Ev.rfl
  ·rw [if_neg e]
   exact Ev.iteT (by simp [e]) Ev.rfl
 ·unfold qa2
  exact Ev.iteF (by simp) Ev.rfl
theorem qqb {a b:List (List Int)}(h:nnL IntR.nn a≤1048576) : Ev (fun k=>qc6 k a b) (decide (a=b)):=by
 have hl:a.length≤1048576:=Nat.le_trans qdd h
 unfold qc6
 refine qgm (fun hab=>qfe hl hab (fun i x y hx hy=>?_) ?_)
 ·unfold qbd
  have hi:i<a.length:=(List.getElem?_eq_some_iff.1 hx).1
  refine Ev.iteT (by simpa using hi) ?_
  refine Ev.bindp (zv hx) ?_
  refine Ev.bindp (zv hy) ?_
  refine Ev.bind (qiy (Nat.le_trans (qde (f:=IntR.nn) hx) h)) ?_
  rw [w8 (by omega)]
  by_cases e:x=y
  ·rw [if_pos e]
   exact Ev.iteF (by simp [e]) Ev.rfl
  ·rw [if_neg e]
   exact Ev.iteT (by simp [e]) Ev.rfl
 ·unfold qbd
  exact Ev.iteF (by simp) Ev.rfl
theorem qlk {a b:ElectStep} : Ev (fun k=>qan a b) (decide (a=b)):=by
 refine qhq (p:=a.Term=b.Term∧a.Leader=b.Leader∧True) ?_ (by cases a; cases b; simp)
 unfold qan
 refine qbt ?_
 refine qbt ?_
 exact qjf
theorem qkz {a b:List ElectStep}(hl:a.length≤1048576) : Ev (fun k=>uo k a b) (decide (a=b)):=by
 unfold uo
 refine qgm (fun hab=>qfe hl hab (fun i x y hx hy=>?_) ?_)
 ·unfold xe
  have hi:i<a.length:=(List.getElem?_eq_some_iff.1 hx).1
  refine Ev.iteT (by simpa using hi) ?_
  refine Ev.bindp (zv hx) ?_
  refine Ev.bindp (zv hy) ?_
  refine Ev.bind (qlk) ?_
  rw [w8 (by omega)]
  by_cases e:x=y
  ·rw [if_pos e]
   exact Ev.iteF (by simp [e]) Ev.rfl
  ·rw [if_neg e]
   exact Ev.iteT (by simp [e]) Ev.rfl
 ·unfold xe
  exact Ev.iteF (by simp) Ev.rfl
theorem qhj {l:List Int}{n:Nat}(hl:l.length≤1048576)(hn:n+zq (fun _=>1) l<4611686018427387904) : Ev (fun k=>ug k l (n:Int)) (((n+zq (fun _=>1) l:Nat) : Int),wj qfg (fun _=>1) l n):=by
 unfold ug
 refine Ev.jn (qcv (c:=(fun _=>1)) (M:=qfg) hl hn (fun n i s x hn hi hx hsx hs=>?_) (fun n s hs=>?_)) (Ev.of rfl)
 ·try dsimp only at hn
  unfold qao
  try dsimp only
  refine Ev.iteT (by rw [hs]; simpa using hi) ?_
  refine Ev.bindp (zv hsx) ?_
  try simp (disch:=omega) only [w8]
  exact Ev.rfl
 ·unfold qao
  try dsimp only
  exact Ev.iteF (by rw [hs]; simp) Ev.rfl
theorem qn5 {l:List (List Int)}{n:Nat}(h:nnL IntR.nn l≤1048576)(hn:n+zq IntR.mce l<4611686018427387904) : Ev (fun k=>qbw k l (n:Int)) (((n+zq IntR.mce l:Nat) : Int),wj IntR.mke IntR.mce l n):=by
 have hl:l.length≤1048576:=Nat.le_trans qdd h
 unfold qbw
 refine Ev.jn (qcv (c:=IntR.mce) (M:=IntR.mke) hl hn (fun n i s x hn hi hx hsx hs=>?_) (fun n s hs=>?_)) (Ev.of rfl)
 ·unfold ux
  dsimp only
  refine Ev.iteT (by rw [hs]; simpa using hi) ?_
  refine Ev.bindp (zv hsx) ?_
  refine Ev.bind (qhj (Nat.le_trans (qde (f:=IntR.nn) hx) h) hn) ?_
  dsimp only
  try simp (disch:=omega) only [w8]
  exact Ev.rfl
 ·unfold ux
  dsimp only
  exact Ev.iteF (by rw [hs]; simp) Ev.rfl
theorem qjp {l:List ElectStep}{n:Nat}(hl:l.length≤1048576)(hn:n+zq ElectStep.mce l<4611686018427387904) : Ev (fun k=>xm k l (n:Int)) (((n+zq ElectStep.mce l:Nat) : Int),wj ElectStep.mke ElectStep.mce l n):=by
 unfold xm
 refine Ev.jn (qcv (c:=ElectStep.mce) (M:=ElectStep.mke) hl hn (fun n i s x hn hi hx hsx hs=>?_) (fun n s hs=>?_)) (Ev.of rfl)
 ·have hc:ElectStep.mce x=1+1:=rfl
  rw [hc] at hn
  rw [show n+ElectStep.mce x=n+1+1 by omega]
  unfold wh
  try dsimp only
  refine Ev.iteT (by rw [hs]; simpa using hi) ?_
  refine Ev.bindp (zv hsx) ?_
  try simp (disch:=omega) only [w8]
  exact Ev.rfl
 ·unfold wh
  try dsimp only
  exact Ev.iteF (by rw [hs]; simp) Ev.rfl
theorem ql9 {l:List Server}{n:Nat}(h:nnL Server.nn l≤1048576)(hn:n+zq Server.mce l<4611686018427387904) : Ev (fun k=>qag k l (n:Int)) (((n+zq Server.mce l:Nat) : Int),wj Server.mke Server.mce l n):=by
 have hl:l.length≤1048576:=Nat.le_trans qdd h
 unfold qag
 refine Ev.jn (qcv (c:=Server.mce) (M:=Server.mke) hl hn (fun n i s x hn hi hx hsx hs=>?_) (fun n s hs=>?_)) (Ev.of rfl)
 ·have hc:Server.mce x=1+1+1+1+zq (fun _=>1) x.Got+zq (fun _=>1) x.Log:=rfl
  rw [hc] at hn
  rw [show n+Server.mce x=n+1+1+1+1+zq (fun _=>1) x.Got+zq (fun _=>1) x.Log by omega]
  have hb:(x.Got.length+(x.Log.length+0))≤1048576:=Nat.le_trans (qde (f:=Server.nn) hx) h
  unfold xq
  try dsimp only
  refine Ev.iteT (by rw [hs]; simpa using hi) ?_
  refine Ev.bindp (zv hsx) ?_
  try simp (disch:=omega) only [w8]
  refine Ev.bind (qhj (l:=x.Got) (n:=n+1+1+1+1) (by omega) (by omega)) ?_
  try dsimp only
  try simp (disch:=omega) only [w8]
  refine Ev.bind (qhj (l:=x.Log) (n:=n+1+1+1+1+zq (fun _=>1) x.Got) (by omega) (by omega)) ?_
  try dsimp only
  try simp (disch:=omega) only [w8]
  exact Ev.rfl
 ·unfold xq
  try dsimp only
  exact Ev.iteF (by rw [hs]; simp) Ev.rfl
theorem qlv {l:List Letter}{n:Nat}(hl:l.length≤1048576)(hn:n+zq Letter.mce l<4611686018427387904) : Ev (fun k=>qai k l (n:Int)) (((n+zq Letter.mce l:Nat) : Int),wj Letter.mke Letter.mce l n):=by
 unfold qai
 refine Ev.jn (qcv (c:=Letter.mce) (M:=Letter.mke) hl hn (fun n i s x hn hi hx hsx hs=>?_) (fun n s hs=>?_)) (Ev.of rfl)
 ·have hc:Letter.mce x=1+1+1+1+1+1+1:=rfl
  rw [hc] at hn
  rw [show n+Letter.mce x=n+1+1+1+1+1+1+1 by omega]
  unfold xl
  try dsimp only
  refine Ev.iteT (by rw [hs]; simpa using hi) ?_
  refine Ev.bindp (zv hsx) ?_
  try simp (disch:=omega) only [w8]
  exact Ev.rfl
 ·unfold xl
  try dsimp only
  exact Ev.iteF (by rw [hs]; simp) Ev.rfl
theorem qnb {l:List Vote}{n:Nat}(hl:l.length≤1048576)(hn:n+zq Vote.mce l<4611686018427387904) : Ev (fun k=>qb4 k l (n:Int)) (((n+zq Vote.mce l:Nat) : Int),wj Vote.mke Vote.mce l n):=by
 unfold qb4
 refine Ev.jn (qcv (c:=Vote.mce) (M:=Vote.mke) hl hn (fun n i s x hn hi hx hsx hs=>?_) (fun n s hs=>?_)) (Ev.of rfl)
 ·have hc:Vote.mce x=1+1:=rfl
  rw [hc] at hn
  rw [show n+Vote.mce x=n+1+1 by omega]
  unfold uy
  try dsimp only
  refine Ev.iteT (by rw [hs]; simpa using hi) ?_
  refine Ev.bindp (zv hsx) ?_
  try simp (disch:=omega) only [w8]
  exact Ev.rfl
 ·unfold uy
  try dsimp only
  exact Ev.iteF (by rw [hs]; simp) Ev.rfl
theorem qla {x:Election}{n:Nat}(h:x.nn≤1048576)(hn:x.en n<4611686018427387904) : Ev (fun k=>uz k x (n:Int)) (((x.en n:Nat) : Int),x.mkd n):=by
 simp only [Election.en,Election.nn] at h hn
 unfold uz
 refine Ev.bind (ql9 (l:=x.Servers) (n:=n) (by omega) (by (try simp only [Election.en,Election.nn]); omega)) ?_
 refine Ev.bind (qlv (l:=x.Post) (n:=n+zq Server.mce x.Servers) (by omega) (by (try simp only [Election.en,Election.nn]); omega)) ?_
 refine Ev.bind (qnb (l:=x.Led) (n:=n+zq Server.mce x.Servers+zq Letter.mce x.Post) (by omega) (by (try simp only [Election.en,Election.nn]); omega)) ?_
 exact Ev.rfl
theorem qnh {l:List Bool}{n:Nat}(hl:l.length≤1048576)(hn:n+zq (fun _=>1) l<4611686018427387904) : Ev (fun k=>qbx k l (n:Int)) (((n+zq (fun _=>1) l:Nat) : Int),wj qkl (fun _=>1) l n):=by
 unfold qbx
 refine Ev.jn (qcv (c:=(fun _=>1)) (M:=qkl) hl hn (fun n i s x hn hi hx hsx hs=>?_) (fun n s hs=>?_)) (Ev.of rfl)
 ·try dsimp only at hn
  unfold uq
  try dsimp only
  refine Ev.iteT (by rw [hs]; simpa using hi) ?_
  refine Ev.bindp (zv hsx) ?_
  try simp (disch:=omega) only [w8]
  exact Ev.rfl
 ·unfold uq
  try dsimp only
  exact Ev.iteF (by rw [hs]; simp) Ev.rfl
theorem qjz {l:List Int}{n:Nat}(hl:l.length≤1048576)(hn:n+zq (fun _=>1) l<4611686018427387904) : Ev (fun k=>qax k (wj qfg (fun _=>1) l n) (n:Int)) ((n+zq (fun _=>1) l:Nat) : Int):=by
 unfold qax
 refine Ev.jn (qfk (l:=l) (c:=(fun _=>1)) hl hn (fun i x hx hn=>?_) (fun n=>?_)) (Ev.of rfl)
 ·have hg:=qfa (M:=qfg) (c:=(fun _=>1)) (n:=n) hx
  have hi:i<l.length:=(List.getElem?_eq_some_iff.1 hx).1
  generalize n+zq (fun _=>1) (l.take i)=n at hg hn ⊢
  try dsimp only at hn
  unfold qak
  try dsimp only
  refine Ev.iteT (by rw [wg]; simpa using hi) ?_
  try simp (disch:=omega) only [w8]
  refine Ev.bindp (zv hg) ?_
  refine Ev.iteF (by simp [qfg]) ?_
  exact Ev.rfl
 ·unfold qak
  try dsimp only
  exact Ev.iteF (by rw [wg]; simp) Ev.rfl
theorem qll {l:List Server}{n:Nat}(h:nnL Server.nn l≤1048576)(hn:n+zq Server.mce l<4611686018427387904) : Ev (fun k=>qac k (wj Server.mke Server.mce l n) (n:Int)) ((n+zq Server.mce l:Nat) : Int):=by
 have hl:l.length≤1048576:=Nat.le_trans qdd h
 unfold qac
 refine Ev.jn (qfk (l:=l) (c:=Server.mce) hl hn (fun i x hx hn=>?_) (fun n=>?_)) (Ev.of rfl)
 ·have hg:=qfa (M:=Server.mke) (c:=Server.mce) (n:=n) hx
  have hi:i<l.length:=(List.getElem?_eq_some_iff.1 hx).1
  generalize n+zq Server.mce (l.take i)=n at hg hn ⊢
  have hc:Server.mce x=1+1+1+1+zq (fun _=>1) x.Got+zq (fun _=>1) x.Log:=rfl
  rw [hc] at hn
  rw [show n+Server.mce x=n+1+1+1+1+zq (fun _=>1) x.Got+zq (fun _=>1) x.Log by omega]
  have hb:(x.Got.length+(x.Log.length+0))≤1048576:=Nat.le_trans (qde (f:=Server.nn) hx) h
  unfold xp
  try dsimp only
  refine Ev.iteT (by rw [wg]; simpa using hi) ?_
  try simp (disch:=omega) only [w8]
  refine Ev.bindp (zv hg) ?_
  refine Ev.iteF (by simp [Server.mke]) ?_
  refine Ev.bindp (zv hg) ?_
  refine Ev.iteF (by simp [Server.mke]) ?_
  refine Ev.bindp (zv hg) ?_
  refine Ev.iteF (by simp [Server.mke]) ?_
  refine Ev.bindp (zv hg) ?_
  refine Ev.iteF (by simp [Server.mke]) ?_
  refine Ev.bindp (zv hg) ?_
  refine Ev.bind (qjz (l:=x.Got) (n:=n+1+1+1+1) (by omega) (by omega)) ?_
  refine Ev.iteF (by simp only [decide_eq_false_iff_not]; omega) ?_
  try simp (disch:=omega) only [w8]
  refine Ev.bindp (zv hg) ?_
  refine Ev.bind (qjz (l:=x.Log) (n:=n+1+1+1+1+zq (fun _=>1) x.Got) (by omega) (by omega)) ?_
  refine Ev.iteF (by simp only [decide_eq_false_iff_not]; omega) ?_
  try simp (disch:=omega) only [w8]
  exact Ev.rfl
 ·unfold xp
  try dsimp only
  exact Ev.iteF (by rw [wg]; simp) Ev.rfl
theorem ql2 {l:List Letter}{n:Nat}(hl:l.length≤1048576)(hn:n+zq Letter.mce l<4611686018427387904) : Ev (fun k=>qaf k (wj Letter.mke Letter.mce l n) (n:Int)) ((n+zq Letter.mce l:Nat) : Int):=by
 unfold qaf
 refine Ev.jn (qfk (l:=l) (c:=Letter.mce) hl hn (fun i x hx hn=>?_) (fun n=>?_)) (Ev.of rfl)
 ·have hg:=qfa (M:=Letter.mke) (c:=Letter.mce) (n:=n) hx
  have hi:i<l.length:=(List.getElem?_eq_some_iff.1 hx).1
  generalize n+zq Letter.mce (l.take i)=n at hg hn ⊢
  have hc:Letter.mce x=1+1+1+1+1+1+1:=rfl
  rw [hc] at hn
  rw [show n+Letter.mce x=n+1+1+1+1+1+1+1 by omega]
  unfold xn
  try dsimp only
  refine Ev.iteT (by rw [wg]; simpa using hi) ?_
  try simp (disch:=omega) only [w8]
  refine Ev.bindp (zv hg) ?_
  refine Ev.iteF (by simp [Letter.mke]) ?_
  refine Ev.bindp (zv hg) ?_
  refine Ev.iteF (by simp [Letter.mke]) ?_
  refine Ev.bindp (zv hg) ?_
  refine Ev.iteF (by simp [Letter.mke]) ?_
  refine Ev.bindp (zv hg) ?_
  refine Ev.iteF (by simp [Letter.mke]) ?_
  refine Ev.bindp (zv hg) ?_
  refine Ev.iteF (by simp [Letter.mke]) ?_
  refine Ev.bindp (zv hg) ?_
  refine Ev.iteF (by simp [Letter.mke]) ?_
  refine Ev.bindp (zv hg) ?_
  refine Ev.iteF (by simp [Letter.mke]) ?_
  exact Ev.rfl
 ·unfold xn
  try dsimp only
  exact Ev.iteF (by rw [wg]; simp) Ev.rfl
theorem qm7 {l:List Vote}{n:Nat}(hl:l.length≤1048576)(hn:n+zq Vote.mce l<4611686018427387904) : Ev (fun k=>qb7 k (wj Vote.mke Vote.mce l n) (n:Int)) ((n+zq Vote.mce l:Nat) : Int):=by
 unfold qb7
 refine Ev.jn (qfk (l:=l) (c:=Vote.mce) hl hn (fun i x hx hn=>?_) (fun n=>?_)) (Ev.of rfl)
 ·have hg:=qfa (M:=Vote.mke) (c:=Vote.mce) (n:=n) hx
  have hi:i<l.length:=(List.getElem?_eq_some_iff.1 hx).1
  generalize n+zq Vote.mce (l.take i)=n at hg hn ⊢
  have hc:Vote.mce x=1+1:=rfl
  rw [hc] at hn
  rw [show n+Vote.mce x=n+1+1 by omega]
  unfold uw
  try dsimp only
  refine Ev.iteT (by rw [wg]; simpa using hi) ?_
  try simp (disch:=omega) only [w8]
  refine Ev.bindp (zv hg) ?_
  refine Ev.iteF (by simp [Vote.mke]) ?_
  refine Ev.bindp (zv hg) ?_
  refine Ev.iteF (by simp [Vote.mke]) ?_
  exact Ev.rfl
 ·unfold uw
  try dsimp only
  exact Ev.iteF (by rw [wg]; simp) Ev.rfl
theorem qg1 {x:Election}{n:Nat}(h:x.nn≤1048576)(hn:x.en n<4611686018427387904) : Ev (fun k=>xh k (x.mkd n) (n:Int)) ((x.en n:Nat) : Int):=by
 simp only [Election.en,Election.nn] at h hn
 unfold xh
 refine Ev.bind (qll (l:=x.Servers) (n:=n) (by omega) (by (try simp only [Election.en,Election.nn]); omega)) ?_
 refine Ev.iteF (by simp only [decide_eq_false_iff_not]; omega) ?_
 refine Ev.bind (ql2 (l:=x.Post) (n:=n+zq Server.mce x.Servers) (by omega) (by (try simp only [Election.en,Election.nn]); omega)) ?_
 refine Ev.iteF (by simp only [decide_eq_false_iff_not]; omega) ?_
 refine Ev.bind (qm7 (l:=x.Led) (n:=n+zq Server.mce x.Servers+zq Letter.mce x.Post) (by omega) (by (try simp only [Election.en,Election.nn]); omega)) ?_
 refine Ev.iteF (by simp only [decide_eq_false_iff_not]; omega) ?_
 exact Ev.rfl
theorem qi0 {l:List Bool}{n:Nat}(hl:l.length≤1048576)(hn:n+zq (fun _=>1) l<4611686018427387904) : Ev (fun k=>u9 k (wj qkl (fun _=>1) l n) (n:Int)) ((n+zq (fun _=>1) l:Nat) : Int):=by
 unfold u9
 refine Ev.jn (qfk (l:=l) (c:=(fun _=>1)) hl hn (fun i x hx hn=>?_) (fun n=>?_)) (Ev.of rfl)
 ·have hg:=qfa (M:=qkl) (c:=(fun _=>1)) (n:=n) hx
  have hi:i<l.length:=(List.getElem?_eq_some_iff.1 hx).1
  generalize n+zq (fun _=>1) (l.take i)=n at hg hn ⊢
  try dsimp only at hn
  unfold uu
  try dsimp only
  refine Ev.iteT (by rw [wg]; simpa using hi) ?_
  try simp (disch:=omega) only [w8]
  refine Ev.bindp (zv hg) ?_
  refine Ev.iteF (by simp [qkl]) ?_
  exact Ev.rfl
 ·unfold uu
  try dsimp only
  exact Ev.iteF (by rw [wg]; simp) Ev.rfl
end Go.Proofs.Ytpddolihbnfahaa.X
