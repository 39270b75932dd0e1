/- The laws' own walks: sizes, copies, comparisons, marks. -/
import Derived.Test.YtjloihcijdcpeaaXAD
import Derived.Test.YtjloihcijdcpeaaXAW
import Derived.Test.YtjloihcijdcpeaaZLib2
set_option linter.unusedVariables false
set_option linter.unusedSimpArgs false
set_option maxRecDepth 100000
namespace Go.Proofs.Ytjloihcijdcpeaa.X
open Go
def qdq (_:Int)(n:Nat) : Int:=(n:Int)
def Broker.mce (x:Broker) : Nat:=1+1+1
def Broker.mke (x:Broker)(n:Nat) : Broker:=(Broker.mk ((n:Nat) : Int) ((n+1:Nat) : Int) (decide (Int.tmod ((n+1+1:Nat) : Int) 3=0)))
def Partition.nn (x:Partition) : Nat:=(x.Homes.length+(x.InStep.length+0))
def Partition.mce (x:Partition) : Nat:=zy (fun _=>1) x.Homes+zy (fun _=>1) x.InStep+1+1+1
def Partition.mke (x:Partition)(n:Nat) : Partition:=(Partition.mk (xv qdq (fun _=>1) x.Homes (n)) (xv qdq (fun _=>1) x.InStep (n+zy (fun _=>1) x.Homes)) ((n+zy (fun _=>1) x.Homes+zy (fun _=>1) x.InStep:Nat) : Int) ((n+zy (fun _=>1) x.Homes+zy (fun _=>1) x.InStep+1:Nat) : Int) ((n+zy (fun _=>1) x.Homes+zy (fun _=>1) x.InStep+1+1:Nat) : Int))
def Partition.mkd (x:Partition)(n:Nat) : Partition:=(Partition.mk (xv qdq (fun _=>1) x.Homes (n)) (xv qdq (fun _=>1) x.InStep (n+zy (fun _=>1) x.Homes)) x.Leader x.Epoch x.Stamp)
def Partition.en (x:Partition)(n:Nat) : Nat:=n+zy (fun _=>1) x.Homes+zy (fun _=>1) x.InStep
theorem Partition.mce_le (x:Partition) : x.mce≤100*(1+x.nn):=by
 have h0:zy (fun _=>1) x.Homes=1*x.Homes.length:=qbk
 have h1:zy (fun _=>1) x.InStep=1*x.InStep.length:=qbk
 unfold Partition.mce
 simp only [Partition.nn]
 omega
theorem Partition.en_le {x:Partition}{n:Nat}(h:x.nn≤1048576) : x.en n≤n+100*x.nn:=by
 have h0:zy (fun _=>1) x.Homes=1*x.Homes.length:=qbk
 have h1:zy (fun _=>1) x.InStep=1*x.InStep.length:=qbk
 simp only [Partition.en,Partition.nn] at h ⊢
 omega
def Control.nn (x:Control) : Nat:=(x.Brokers.length+((nnL Partition.nn x.Parts)+0))
def Control.mce (x:Control) : Nat:=zy Broker.mce x.Brokers+zy Partition.mce x.Parts+1
def Control.mke (x:Control)(n:Nat) : Control:=(Control.mk (xv Broker.mke Broker.mce x.Brokers (n)) (xv Partition.mke Partition.mce x.Parts (n+zy Broker.mce x.Brokers)) ((n+zy Broker.mce x.Brokers+zy Partition.mce x.Parts:Nat) : Int))
def Control.mkd (x:Control)(n:Nat) : Control:=(Control.mk (xv Broker.mke Broker.mce x.Brokers (n)) (xv Partition.mke Partition.mce x.Parts (n+zy Broker.mce x.Brokers)) x.Next)
def Control.en (x:Control)(n:Nat) : Nat:=n+zy Broker.mce x.Brokers+zy Partition.mce x.Parts
theorem Control.en_le {x:Control}{n:Nat}(h:x.nn≤1048576) : x.en n≤n+100*x.nn:=by
 have h0:zy Broker.mce x.Brokers=3*x.Brokers.length:=qbk
 have h1:=q4v (c:=Partition.mce) (f:=Partition.nn) (m:=100) Partition.mce_le (l:=x.Parts)
 simp only [Control.en,Control.nn] at h ⊢
 omega
def Command.nn (x:Command) : Nat:=(x.InStep.length+0)
def Command.mce (x:Command) : Nat:=1+1+1+1+1+zy (fun _=>1) x.InStep
def Command.mke (x:Command)(n:Nat) : Command:=(Command.mk ((n:Nat) : Int) ((n+1:Nat) : Int) ((n+1+1:Nat) : Int) ((n+1+1+1:Nat) : Int) ((n+1+1+1+1:Nat) : Int) (xv qdq (fun _=>1) x.InStep (n+1+1+1+1+1)))
def Command.mkd (x:Command)(n:Nat) : Command:=(Command.mk x.Kind x.Broker x.Epoch x.Part x.Stamp (xv qdq (fun _=>1) x.InStep (n)))
def Command.en (x:Command)(n:Nat) : Nat:=n+zy (fun _=>1) x.InStep
theorem Command.mce_le (x:Command) : x.mce≤100*(1+x.nn):=by
 have h0:zy (fun _=>1) x.InStep=1*x.InStep.length:=qbk
 unfold Command.mce
 simp only [Command.nn]
 omega
theorem Command.en_le {x:Command}{n:Nat}(h:x.nn≤1048576) : x.en n≤n+100*x.nn:=by
 have h0:zy (fun _=>1) x.InStep=1*x.InStep.length:=qbk
 simp only [Command.en,Command.nn] at h ⊢
 omega
theorem qnp {a b:Broker} : Ev (fun k=>qbu a b) (decide (a=b)):=by
 refine qiv (p:=a.Epoch=b.Epoch∧a.Left=b.Left∧a.Fenced=b.Fenced∧True) ?_ (by cases a; cases b; simp)
 unfold qbu
 refine qbd ?_
 refine qbd ?_
 refine q47 ?_
 exact qj3
theorem qmy {a b:List Broker}(hl:a.length≤1048576) : Ev (fun k=>qa1 k a b) (decide (a=b)):=by
 unfold qa1
 refine qm4 (fun hab=>qkx hl hab (fun i x y hx hy=>?_) ?_)
 ·unfold ua
  have hi:i<a.length:=(List.getElem?_eq_some_iff.1 hx).1
  refine Ev.iteT (by simpa using hi) ?_
  refine Ev.bindp (jc hx) ?_
  refine Ev.bindp (jc hy) ?_
  refine Ev.bind (qnp) ?_
  rw [qca (by omega)]
  by_cases e:x=y
  ·rw [if_pos e]
   exact Ev.iteF (by simp [e]) Ev.rfl
  ·rw [if_neg e]
   exact Ev.iteT (by simp [e]) Ev.rfl
 ·unfold ua
  exact Ev.iteF (by simp) Ev.rfl
theorem qij {a b:List Int}(hl:a.length≤1048576) : Ev (fun k=>qao k a b) (decide (a=b)):=by
 unfold qao
 refine qm4 (fun hab=>qkx hl hab (fun i x y hx hy=>?_) ?_)
 ·unfold qay
  have hi:i<a.length:=(List.getElem?_eq_some_iff.1 hx).1
  refine Ev.iteT (by simpa using hi) ?_
  refine Ev.bindp (jc hx) ?_
  refine Ev.bindp (jc hy) ?_
  rw [qca (by omega)]
  by_cases e:x=y
  ·rw [if_pos e]
   exact Ev.iteF (by simp [e]) Ev.rfl
  ·rw [if_neg e]
   exact Ev.iteT (by simp [e]) Ev.rfl
 ·unfold qay
  exact Ev.iteF (by simp) Ev.rfl
theorem qkh {a b:Partition}(h:a.nn≤1048576) : Ev (fun k=>uq k a b) (decide (a=b)):=by
 have h:(a.Homes.length+(a.InStep.length+0))≤1048576:=h
 refine qiv (p:=a.Homes=b.Homes∧a.InStep=b.InStep∧a.Leader=b.Leader∧a.Epoch=b.Epoch∧a.Stamp=b.Stamp∧True) ?_ (by cases a; cases b; simp)
 unfold uq
 refine qgk (qij (by omega)) ?_
 refine qgk (qij (by omega)) ?_
 refine qbd ?_
 refine qbd ?_
 refine qbd ?_
 exact qj3
theorem qjv {a b:List Partition}(h:nnL Partition.nn a≤1048576) : Ev (fun k=>x9 k a b) (decide (a=b)):=by
 have hl:a.length≤1048576:=Nat.le_trans qgp h
 unfold x9
 refine qm4 (fun hab=>qkx hl hab (fun i x y hx hy=>?_) ?_)
 ·unfold wi
  have hi:i<a.length:=(List.getElem?_eq_some_iff.1 hx).1
  refine Ev.iteT (by simpa using hi) ?_
  refine Ev.bindp (jc hx) ?_
  refine Ev.bindp (jc hy) ?_
  refine Ev.bind (qkh (Nat.le_trans (qgn hx) h)) ?_
  rw [qca (by omega)]
  by_cases e:x=y
  ·rw [if_pos e]
   exact Ev.iteF (by simp [e]) Ev.rfl
  ·rw [if_neg e]
   exact Ev.iteT (by simp [e]) Ev.rfl
 ·unfold wi
  exact Ev.iteF (by simp) Ev.rfl
theorem qdj {a b:Control}(h:a.nn≤1048576) : Ev (fun k=>wa k a b) (decide (a=b)):=by
 have h:(a.Brokers.length+((nnL Partition.nn a.Parts)+0))≤1048576:=h
 refine qiv (p:=a.Brokers=b.Brokers∧a.Parts=b.Parts∧a.Next=b.Next∧True) ?_ (by cases a; cases b; simp)
 unfold wa
 refine qgk (qmy (by omega)) ?_
 refine qgk (qjv (by omega)) ?_
 refine qbd ?_
 exact qj3
theorem qk0 {l:List Broker}{n:Nat}(hl:l.length≤1048576)(hn:n+zy Broker.mce l<4611686018427387904) : Ev (fun k=>uu k l (n:Int)) (((n+zy Broker.mce l:Nat) : Int),xv Broker.mke Broker.mce l n):=by
 unfold uu
 refine Ev.jn (qid (c:=Broker.mce) (M:=Broker.mke) hl hn (fun n i s x hn hi hx hsx hs=>?_) (fun n s hs=>?_)) (Ev.of rfl)
 ·have hc:Broker.mce x=1+1+1:=rfl
  rw [hc] at hn
  rw [show n+Broker.mce x=n+1+1+1 by omega]
  unfold ww
  try dsimp only
  refine Ev.iteT (by rw [hs]; simpa using hi) ?_
  refine Ev.bindp (jc hsx) ?_
  try simp (disch:=omega) only [qca]
  exact Ev.rfl
 ·unfold ww
  try dsimp only
  exact Ev.iteF (by rw [hs]; simp) Ev.rfl
theorem qgf {l:List Int}{n:Nat}(hl:l.length≤1048576)(hn:n+zy (fun _=>1) l<4611686018427387904) : Ev (fun k=>xu k l (n:Int)) (((n+zy (fun _=>1) l:Nat) : Int),xv qdq (fun _=>1) l n):=by
 unfold xu
 refine Ev.jn (qid (c:=(fun _=>1)) (M:=qdq) hl hn (fun n i s x hn hi hx hsx hs=>?_) (fun n s hs=>?_)) (Ev.of rfl)
 ·try dsimp only at hn
  unfold ux
  try dsimp only
  refine Ev.iteT (by rw [hs]; simpa using hi) ?_
  refine Ev.bindp (jc hsx) ?_
  try simp (disch:=omega) only [qca]
  exact Ev.rfl
 ·unfold ux
  try dsimp only
  exact Ev.iteF (by rw [hs]; simp) Ev.rfl
theorem qiy {l:List Partition}{n:Nat}(h:nnL Partition.nn l≤1048576)(hn:n+zy Partition.mce l<4611686018427387904) : Ev (fun k=>wu k l (n:Int)) (((n+zy Partition.mce l:Nat) : Int),xv Partition.mke Partition.mce l n):=by
 have hl:l.length≤1048576:=Nat.le_trans qgp h
 unfold wu
 refine Ev.jn (qid (c:=Partition.mce) (M:=Partition.mke) hl hn (fun n i s x hn hi hx hsx hs=>?_) (fun n s hs=>?_)) (Ev.of rfl)
 ·have hc:Partition.mce x=zy (fun _=>1) x.Homes+zy (fun _=>1) x.InStep+1+1+1:=rfl
  rw [hc] at hn
  rw [show n+Partition.mce x=n+zy (fun _=>1) x.Homes+zy (fun _=>1) x.InStep+1+1+1 by omega]
  have hb:(x.Homes.length+(x.InStep.length+0))≤1048576:=Nat.le_trans (qgn (f:=Partition.nn) hx) h
  unfold yn
  try dsimp only
  refine Ev.iteT (by rw [hs]; simpa using hi) ?_
  refine Ev.bindp (jc hsx) ?_
  try simp (disch:=omega) only [qca]
  refine Ev.bind (qgf (l:=x.Homes) (n:=n) (by omega) (by omega)) ?_
  try dsimp only
  try simp (disch:=omega) only [qca]
  refine Ev.bind (qgf (l:=x.InStep) (n:=n+zy (fun _=>1) x.Homes) (by omega) (by omega)) ?_
  try dsimp only
  try simp (disch:=omega) only [qca]
  exact Ev.rfl
 ·unfold yn
  try dsimp only
  exact Ev.iteF (by rw [hs]; simp) Ev.rfl
theorem qgq {x:Control}{n:Nat}(h:x.nn≤1048576)(hn:x.en n<4611686018427387904) : Ev (fun k=>w8 k x (n:Int)) (((x.en n:Nat) : Int),x.mkd n):=by
 simp only [Control.en,Control.nn] at h hn
 unfold w8
 refine Ev.bind (qk0 (l:=x.Brokers) (n:=n) (by omega) (by (try simp only [Control.en,Control.nn]); omega)) ?_
 refine Ev.bind (qiy (l:=x.Parts) (n:=n+zy Broker.mce x.Brokers) (by omega) (by (try simp only [Control.en,Control.nn]); omega)) ?_
 exact Ev.rfl
theorem qku {l:List Broker}{n:Nat}(hl:l.length≤1048576)(hn:n+zy Broker.mce l<4611686018427387904) : Ev (fun k=>uv k (xv Broker.mke Broker.mce l n) (n:Int)) ((n+zy Broker.mce l:Nat) : Int):=by
 unfold uv
 refine Ev.jn (qik (l:=l) (c:=Broker.mce) hl hn (fun i x hx hn=>?_) (fun n=>?_)) (Ev.of rfl)
 ·have hg:=qg4 (M:=Broker.mke) (c:=Broker.mce) (n:=n) hx
  have hi:i<l.length:=(List.getElem?_eq_some_iff.1 hx).1
  generalize n+zy Broker.mce (l.take i)=n at hg hn ⊢
  have hc:Broker.mce x=1+1+1:=rfl
  rw [hc] at hn
  rw [show n+Broker.mce x=n+1+1+1 by omega]
  unfold wx
  try dsimp only
  refine Ev.iteT (by rw [qas]; simpa using hi) ?_
  try simp (disch:=omega) only [qca]
  refine Ev.bindp (jc hg) ?_
  refine Ev.iteF (by simp [Broker.mke]) ?_
  refine Ev.bindp (jc hg) ?_
  refine Ev.iteF (by simp [Broker.mke]) ?_
  refine Ev.bindp (jc hg) ?_
  refine Ev.iteF (by simp [Broker.mke]) ?_
  exact Ev.rfl
 ·unfold wx
  try dsimp only
  exact Ev.iteF (by rw [qas]; simp) Ev.rfl
theorem qi9 {l:List Int}{n:Nat}(hl:l.length≤1048576)(hn:n+zy (fun _=>1) l<4611686018427387904) : Ev (fun k=>u6 k (xv qdq (fun _=>1) l n) (n:Int)) ((n+zy (fun _=>1) l:Nat) : Int):=by
 unfold u6
 refine Ev.jn (qik (l:=l) (c:=(fun _=>1)) hl hn (fun i x hx hn=>?_) (fun n=>?_)) (Ev.of rfl)
 ·have hg:=qg4 (M:=qdq) (c:=(fun _=>1)) (n:=n) hx
  have hi:i<l.length:=(List.getElem?_eq_some_iff.1 hx).1
  generalize n+zy (fun _=>1) (l.take i)=n at hg hn ⊢
  try dsimp only at hn
  unfold ut
  try dsimp only
  refine Ev.iteT (by rw [qas]; simpa using hi) ?_
  try simp (disch:=omega) only [qca]
  refine Ev.bindp (jc hg) ?_
  refine Ev.iteF (by simp [qdq]) ?_
  exact Ev.rfl
 ·unfold ut
  try dsimp only
  exact Ev.iteF (by rw [qas]; simp) Ev.rfl
theorem qiz {l:List Partition}{n:Nat}(h:nnL Partition.nn l≤1048576)(hn:n+zy Partition.mce l<4611686018427387904) : Ev (fun k=>ws k (xv Partition.mke Partition.mce l n) (n:Int)) ((n+zy Partition.mce l:Nat) : Int):=by
 have hl:l.length≤1048576:=Nat.le_trans qgp h
 unfold ws
 refine Ev.jn (qik (l:=l) (c:=Partition.mce) hl hn (fun i x hx hn=>?_) (fun n=>?_)) (Ev.of rfl)
 ·have hg:=qg4 (M:=Partition.mke) (c:=Partition.mce) (n:=n) hx
  have hi:i<l.length:=(List.getElem?_eq_some_iff.1 hx).1
  generalize n+zy Partition.mce (l.take i)=n at hg hn ⊢
  have hc:Partition.mce x=zy (fun _=>1) x.Homes+zy (fun _=>1) x.InStep+1+1+1:=rfl
  rw [hc] at hn
  rw [show n+Partition.mce x=n+zy (fun _=>1) x.Homes+zy (fun _=>1) x.InStep+1+1+1 by omega]
  have hb:(x.Homes.length+(x.InStep.length+0))≤1048576:=Nat.le_trans (qgn (f:=Partition.nn) hx) h
  unfold yo
  try dsimp only
  refine Ev.iteT (by rw [qas]; simpa using hi) ?_
  try simp (disch:=omega) only [qca]
  refine Ev.bindp (jc hg) ?_
  refine Ev.bind (qi9 (l:=x.Homes) (n:=n) (by omega) (by omega)) ?_
  refine Ev.iteF (by simp only [decide_eq_false_iff_not]; omega) ?_
  try simp (disch:=omega) only [qca]
  refine Ev.bindp (jc hg) ?_
  refine Ev.bind (qi9 (l:=x.InStep) (n:=n+zy (fun _=>1) x.Homes) (by omega) (by omega)) ?_
  refine Ev.iteF (by simp only [decide_eq_false_iff_not]; omega) ?_
  try simp (disch:=omega) only [qca]
  refine Ev.bindp (jc hg) ?_
  refine Ev.iteF (by simp [Partition.mke]) ?_
  refine Ev.bindp (jc hg) ?_
  refine Ev.iteF (by simp [Partition.mke]) ?_
  refine Ev.bindp (jc hg) ?_
  refine Ev.iteF (by simp [Partition.mke]) ?_
  exact Ev.rfl
 ·unfold yo
  try dsimp only
  exact Ev.iteF (by rw [qas]; simp) Ev.rfl
theorem qgt {x:Control}{n:Nat}(h:x.nn≤1048576)(hn:x.en n<4611686018427387904) : Ev (fun k=>w6 k (x.mkd n) (n:Int)) ((x.en n:Nat) : Int):=by
 simp only [Control.en,Control.nn] at h hn
 unfold w6
 refine Ev.bind (qku (l:=x.Brokers) (n:=n) (by omega) (by (try simp only [Control.en,Control.nn]); omega)) ?_
 refine Ev.iteF (by simp only [decide_eq_false_iff_not]; omega) ?_
 refine Ev.bind (qiz (l:=x.Parts) (n:=n+zy Broker.mce x.Brokers) (by omega) (by (try simp only [Control.en,Control.nn]); omega)) ?_
 refine Ev.iteF (by simp only [decide_eq_false_iff_not]; omega) ?_
 exact Ev.rfl
theorem qm2 {l:List Broker}{left:Int}(hl:l.length≤4611686018427387904)(h0:0≤left)(h1:left≤1048576) : Ev (fun k=>qbf l left) (szr l.length left):=by
 unfold qbf
 exact Ev.of (qmk hl h0 h1)
theorem qil {l:List Int}{left:Int}(hl:l.length≤4611686018427387904)(h0:0≤left)(h1:left≤1048576) : Ev (fun k=>qat l left) (szr l.length left):=by
 unfold qat
 exact Ev.of (qmk hl h0 h1)
theorem qkp {x:Partition}{left:Int}(w:x.wf)(h0:0≤left)(h1:left≤1048576) : Ev (fun k=>um x left) (szr x.nn left):=by
 unfold um
 refine qfv h0 (qil (by have:=w.1.1; omega) h0 (by omega)) (fun v0 b0 c0=>?_)
 refine qfv b0 (qil (by have:=w.2.1.1; omega) b0 (by omega)) (fun v1 b1 c1=>?_)
 exact Ev.of (by rw [qug b1])
theorem qj2 {l:List Partition}{left:Int}(w:wfL 72 Partition.wf l)(h0:0≤left)(h1:left≤1048576) : Ev (fun k=>xy k l left) (szr (nnL Partition.nn l) left):=by
 unfold xy
 refine q6p (by have:=w.1; omega) h0 h1 (fun hl h2=>?_)
 rw [y8 (by omega) (by omega)]
 refine q59 hl h2 (by omega) (fun i x s hx hs0 hs1=>?_) (fun s=>?_)
 ·unfold wd
  have hi:i<l.length:=(List.getElem?_eq_some_iff.1 hx).1
  refine Ev.iteT (by simpa using hi) ?_
  refine Ev.bindp (jc hx) ?_
  refine Ev.bind (qkp (w.2 _ (List.mem_of_getElem? hx)) hs0 hs1) ?_
  unfold szr
  by_cases hc:(x.nn:Int)≤s
  ·rw [if_pos hc,if_pos hc]
   refine Ev.iteF (by simp only [decide_eq_false_iff_not]; omega) ?_
   rw [qca (by omega)]
   exact Ev.rfl
  ·rw [if_neg hc,if_neg hc]
   exact Ev.iteT (by decide) Ev.rfl
 ·unfold wd
  exact Ev.iteF (by simp) Ev.rfl
theorem ql8 {x:Control}{left:Int}(w:x.wf)(h0:0≤left)(h1:left≤1048576) : Ev (fun k=>qaz k x left) (szr x.nn left):=by
 unfold qaz
 refine qfv h0 (qm2 (by have:=w.1.1; omega) h0 (by omega)) (fun v0 b0 c0=>?_)
 refine qfv b0 (qj2 w.2.1 b0 (by omega)) (fun v1 b1 c1=>?_)
 exact Ev.of (by rw [qug b1])
theorem qlx {x:Command}{left:Int}(w:x.wf)(h0:0≤left)(h1:left≤1048576) : Ev (fun k=>qa6 x left) (szr x.nn left):=by
 unfold qa6
 refine qfv h0 (qil (by have:=w.2.2.2.2.2.1; omega) h0 (by omega)) (fun v0 b0 c0=>?_)
 exact Ev.of (by rw [qug b0])
theorem qls {l:List Broker}(hl:l.length≤1048576) : Ev (fun k=>qbc k l) l:=by
 unfold qbc
 refine Ev.bindp (qm3 (by omega)) ?_
 refine Ev.jn (s:=((l.length:Int),l)) (qk2 hl (fun i s x y hx hy=>?_) (fun s=>?_)) (Ev.of rfl)
 ·unfold ub
  have hi:i<l.length:=(List.getElem?_eq_some_iff.1 hx).1
  refine Ev.iteT (by simpa using hi) ?_
  refine Ev.bindp (jc hx) ?_
  refine Ev.bindp (jc hy) ?_
  rw [qca (by omega)]
  exact Ev.rfl
 ·unfold ub
  exact Ev.iteF (by simp) Ev.rfl
theorem qip {l:List Int}(hl:l.length≤1048576) : Ev (fun k=>qam k l) l:=by
 unfold qam
 refine Ev.bindp (qm3 (by omega)) ?_
 refine Ev.jn (s:=((l.length:Int),l)) (qk2 hl (fun i s x y hx hy=>?_) (fun s=>?_)) (Ev.of rfl)
 ·unfold qa7
  have hi:i<l.length:=(List.getElem?_eq_some_iff.1 hx).1
  refine Ev.iteT (by simpa using hi) ?_
  refine Ev.bindp (jc hx) ?_
  refine Ev.bindp (jc hy) ?_
  rw [qca (by omega)]
  exact Ev.rfl
 ·unfold qa7
  exact Ev.iteF (by simp) Ev.rfl
theorem qk4 {x:Partition}(h:x.nn≤1048576) : Ev (fun k=>ur k x) x:=by
 have h:(x.Homes.length+(x.InStep.length+0))≤1048576:=h
 unfold ur
 refine Ev.bind (qip (by omega)) ?_
 refine Ev.bind (qip (by omega)) ?_
 exact Ev.rfl
theorem qj8 {l:List Partition}(h:nnL Partition.nn l≤1048576) : Ev (fun k=>xx k l) l:=by
 have hl:l.length≤1048576:=Nat.le_trans qgp h
 unfold xx
 refine Ev.bindp (qm3 (by omega)) ?_
 refine Ev.jn (s:=((l.length:Int),l)) (qk2 hl (fun i s x y hx hy=>?_) (fun s=>?_)) (Ev.of rfl)
 ·unfold wk
  have hi:i<l.length:=(List.getElem?_eq_some_iff.1 hx).1
  refine Ev.iteT (by simpa using hi) ?_
  refine Ev.bindp (jc hx) ?_
  refine Ev.bind (qk4 (Nat.le_trans (qgn hx) h)) ?_
  refine Ev.bindp (jc hy) ?_
  rw [qca (by omega)]
  exact Ev.rfl
 ·unfold wk
  exact Ev.iteF (by simp) Ev.rfl
theorem qdr {x:Control}(h:x.nn≤1048576) : Ev (fun k=>y4 k x) x:=by
 have h:(x.Brokers.length+((nnL Partition.nn x.Parts)+0))≤1048576:=h
 unfold y4
 refine Ev.bind (qls (by omega)) ?_
 refine Ev.bind (qj8 (by omega)) ?_
 exact Ev.rfl
theorem qdy {x:Command}(h:x.nn≤1048576) : Ev (fun k=>y2 k x) x:=by
 have h:(x.InStep.length+0)≤1048576:=h
 unfold y2
 refine Ev.bind (qip (by omega)) ?_
 exact Ev.rfl
theorem qmg {a b:Command}(h:a.nn≤1048576) : Ev (fun k=>qa4 k a b) (decide (a=b)):=by
 have h:(a.InStep.length+0)≤1048576:=h
 refine qiv (p:=a.Kind=b.Kind∧a.Broker=b.Broker∧a.Epoch=b.Epoch∧a.Part=b.Part∧a.Stamp=b.Stamp∧a.InStep=b.InStep∧True) ?_ (by cases a; cases b; simp)
 unfold qa4
 refine qbd ?_
 refine qbd ?_
 refine qbd ?_
 refine qbd ?_
 refine qbd ?_
 refine qgk (qij (by omega)) ?_
 exact qj3
theorem qkq {x:Command}{n:Nat}(h:x.nn≤1048576)(hn:x.en n<4611686018427387904) : Ev (fun k=>uo k x (n:Int)) (((x.en n:Nat) : Int),x.mkd n):=by
 simp only [Command.en,Command.nn] at h hn
 unfold uo
 refine Ev.bind (qgf (l:=x.InStep) (n:=n) (by omega) (by (try simp only [Command.en,Command.nn]); omega)) ?_
 exact Ev.rfl
end Go.Proofs.Ytjloihcijdcpeaa.X
