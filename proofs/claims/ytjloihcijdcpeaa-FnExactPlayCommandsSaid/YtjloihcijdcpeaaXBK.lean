/- The laws' own walks: sizes, copies, comparisons, marks. -/
import Derived.Test.YtjloihcijdcpeaaXBD
import Derived.Test.YtjloihcijdcpeaaXBW
import Derived.Test.YtjloihcijdcpeaaZLib2
set_option linter.unusedVariables false
set_option linter.unusedSimpArgs false
set_option maxRecDepth 100000
namespace Go.Proofs.Ytjloihcijdcpeaa.X
open Go
def qdg (_:Int)(n:Nat) : Int:=(n:Int)
def Command.nn (x:Command) : Nat:=(x.InStep.length+0)
def Command.mce (x:Command) : Nat:=1+1+1+1+1+zp (fun _=>1) x.InStep
def Command.mke (x:Command)(n:Nat) : Command:=(Command.mk ((n:Nat) : Int) ((n+1:Nat) : Int) ((n+1+1:Nat) : Int) ((n+1+1+1:Nat) : Int) ((n+1+1+1+1:Nat) : Int) (xy qdg (fun _=>1) x.InStep (n+1+1+1+1+1)))
def Command.mkd (x:Command)(n:Nat) : Command:=(Command.mk x.Kind x.Broker x.Epoch x.Part x.Stamp (xy qdg (fun _=>1) x.InStep (n)))
def Command.en (x:Command)(n:Nat) : Nat:=n+zp (fun _=>1) x.InStep
theorem Command.mce_le (x:Command) : x.mce≤100*(1+x.nn):=by
 have h0:zp (fun _=>1) x.InStep=1*x.InStep.length:=qaf
 unfold Command.mce
 simp only [Command.nn]
 omega
theorem Command.en_le {x:Command}{n:Nat}(h:x.nn≤1048576) : x.en n≤n+100*x.nn:=by
 have h0:zp (fun _=>1) x.InStep=1*x.InStep.length:=qaf
 simp only [Command.en,Command.nn] at h ⊢
 omega
def Broker.mce (x:Broker) : Nat:=1+1+1
def Broker.mke (x:Broker)(n:Nat) : Broker:=(Broker.mk ((n:Nat) : Int) ((n+1:Nat) : Int) (decide (Int.tmod ((n+1+1:Nat) : Int) 3=0)))
def Partition.nn (x:Partition) : Nat:=(x.Homes.length+(x.InStep.length+0))
def Partition.mce (x:Partition) : Nat:=zp (fun _=>1) x.Homes+zp (fun _=>1) x.InStep+1+1+1
def Partition.mke (x:Partition)(n:Nat) : Partition:=(Partition.mk (xy qdg (fun _=>1) x.Homes (n)) (xy qdg (fun _=>1) x.InStep (n+zp (fun _=>1) x.Homes)) ((n+zp (fun _=>1) x.Homes+zp (fun _=>1) x.InStep:Nat) : Int) ((n+zp (fun _=>1) x.Homes+zp (fun _=>1) x.InStep+1:Nat) : Int) ((n+zp (fun _=>1) x.Homes+zp (fun _=>1) x.InStep+1+1:Nat) : Int))
def Partition.mkd (x:Partition)(n:Nat) : Partition:=(Partition.mk (xy qdg (fun _=>1) x.Homes (n)) (xy qdg (fun _=>1) x.InStep (n+zp (fun _=>1) x.Homes)) x.Leader x.Epoch x.Stamp)
def Partition.en (x:Partition)(n:Nat) : Nat:=n+zp (fun _=>1) x.Homes+zp (fun _=>1) x.InStep
theorem Partition.mce_le (x:Partition) : x.mce≤100*(1+x.nn):=by
 have h0:zp (fun _=>1) x.Homes=1*x.Homes.length:=qaf
 have h1:zp (fun _=>1) x.InStep=1*x.InStep.length:=qaf
 unfold Partition.mce
 simp only [Partition.nn]
 omega
theorem Partition.en_le {x:Partition}{n:Nat}(h:x.nn≤1048576) : x.en n≤n+100*x.nn:=by
 have h0:zp (fun _=>1) x.Homes=1*x.Homes.length:=qaf
 have h1:zp (fun _=>1) x.InStep=1*x.InStep.length:=qaf
 simp only [Partition.en,Partition.nn] at h ⊢
 omega
def Control.nn (x:Control) : Nat:=(x.Brokers.length+((nnL Partition.nn x.Parts)+0))
def Control.mce (x:Control) : Nat:=zp Broker.mce x.Brokers+zp Partition.mce x.Parts+1
def Control.mke (x:Control)(n:Nat) : Control:=(Control.mk (xy Broker.mke Broker.mce x.Brokers (n)) (xy Partition.mke Partition.mce x.Parts (n+zp Broker.mce x.Brokers)) ((n+zp Broker.mce x.Brokers+zp Partition.mce x.Parts:Nat) : Int))
def Control.mkd (x:Control)(n:Nat) : Control:=(Control.mk (xy Broker.mke Broker.mce x.Brokers (n)) (xy Partition.mke Partition.mce x.Parts (n+zp Broker.mce x.Brokers)) x.Next)
def Control.en (x:Control)(n:Nat) : Nat:=n+zp Broker.mce x.Brokers+zp Partition.mce x.Parts
theorem Control.en_le {x:Control}{n:Nat}(h:x.nn≤1048576) : x.en n≤n+100*x.nn:=by
 have h0:zp Broker.mce x.Brokers=3*x.Brokers.length:=qaf
 have h1:=qnq (c:=Partition.mce) (f:=Partition.nn) (m:=100) Partition.mce_le (l:=x.Parts)
 simp only [Control.en,Control.nn] at h ⊢
 omega
theorem qq9 {l:List Int}{left:Int}(hl:l.length≤4611686018427387904)(h0:0≤left)(h1:left≤1048576) : Ev (fun k=>qct l left) (szr l.length left):=by
 unfold qct
 exact Ev.of (quh hl h0 h1)
theorem qlp {x:Command}{left:Int}(w:x.wf)(h0:0≤left)(h1:left≤1048576) : Ev (fun k=>qbf x left) (szr x.nn left):=by
 unfold qbf
 refine qt8 h0 (qq9 (by have:=w.2.2.2.2.2.1; omega) h0 (by omega)) (fun v0 b0 c0=>?_)
 exact Ev.of (by rw [q8x b0])
theorem qk7 {l:List Command}{left:Int}(w:wfL 64 Command.wf l)(h0:0≤left)(h1:left≤1048576) : Ev (fun k=>qap k l left) (szr (nnL Command.nn l) left):=by
 unfold qap
 refine q5x (by have:=w.1; omega) h0 h1 (fun hl h2=>?_)
 rw [wi (by omega) (by omega)]
 refine q6x hl h2 (by omega) (fun i x s hx hs0 hs1=>?_) (fun s=>?_)
 ·unfold xw
  have hi:i<l.length:=(List.getElem?_eq_some_iff.1 hx).1
  refine Ev.iteT (by simpa using hi) ?_
  refine Ev.bindp (z9 hx) ?_
  refine Ev.bind (qlp (w.2 _ (List.mem_of_getElem? hx)) hs0 hs1) ?_
  unfold szr
  by_cases hc:(x.nn:Int)≤s
  ·rw [if_pos hc,if_pos hc]
   refine Ev.iteF (by simp only [decide_eq_false_iff_not]; omega) ?_
   rw [qa8 (by omega)]
   exact Ev.rfl
  ·rw [if_neg hc,if_neg hc]
   exact Ev.iteT (by decide) Ev.rfl
 ·unfold xw
  exact Ev.iteF (by simp) Ev.rfl
theorem qp4 {l:List Int}(hl:l.length≤1048576) : Ev (fun k=>qcw k l) l:=by
 unfold qcw
 refine Ev.bindp (qs0 (by omega)) ?_
 refine Ev.jn (s:=((l.length:Int),l)) (qnm hl (fun i s x y hx hy=>?_) (fun s=>?_)) (Ev.of rfl)
 ·unfold qa6
  have hi:i<l.length:=(List.getElem?_eq_some_iff.1 hx).1
  refine Ev.iteT (by simpa using hi) ?_
  refine Ev.bindp (z9 hx) ?_
  refine Ev.bindp (z9 hy) ?_
  rw [qa8 (by omega)]
  exact Ev.rfl
 ·unfold qa6
  exact Ev.iteF (by simp) Ev.rfl
theorem qmd {x:Command}(h:x.nn≤1048576) : Ev (fun k=>qbj k x) x:=by
 have h:(x.InStep.length+0)≤1048576:=h
 unfold qbj
 refine Ev.bind (qp4 (by omega)) ?_
 exact Ev.rfl
theorem qcy {l:List Command}(h:nnL Command.nn l≤1048576) : Ev (fun k=>yx k l) l:=by
 have hl:l.length≤1048576:=Nat.le_trans qd4 h
 unfold yx
 refine Ev.bindp (qs0 (by omega)) ?_
 refine Ev.jn (s:=((l.length:Int),l)) (qnm hl (fun i s x y hx hy=>?_) (fun s=>?_)) (Ev.of rfl)
 ·unfold xq
  have hi:i<l.length:=(List.getElem?_eq_some_iff.1 hx).1
  refine Ev.iteT (by simpa using hi) ?_
  refine Ev.bindp (z9 hx) ?_
  refine Ev.bind (qmd (Nat.le_trans (qdc hx) h)) ?_
  refine Ev.bindp (z9 hy) ?_
  rw [qa8 (by omega)]
  exact Ev.rfl
 ·unfold xq
  exact Ev.iteF (by simp) Ev.rfl
theorem qmu {a b:Broker} : Ev (fun k=>qbp a b) (decide (a=b)):=by
 refine qik (p:=a.Epoch=b.Epoch∧a.Left=b.Left∧a.Fenced=b.Fenced∧True) ?_ (by cases a; cases b; simp)
 unfold qbp
 refine qbe ?_
 refine qbe ?_
 refine q4o ?_
 exact qj4
theorem qmb {a b:List Broker}(hl:a.length≤1048576) : Ev (fun k=>qba k a b) (decide (a=b)):=by
 unfold qba
 refine qjv (fun hab=>qih hl hab (fun i x y hx hy=>?_) ?_)
 ·unfold ug
  have hi:i<a.length:=(List.getElem?_eq_some_iff.1 hx).1
  refine Ev.iteT (by simpa using hi) ?_
  refine Ev.bindp (z9 hx) ?_
  refine Ev.bindp (z9 hy) ?_
  refine Ev.bind (qmu) ?_
  rw [qa8 (by omega)]
  by_cases e:x=y
  ·rw [if_pos e]
   exact Ev.iteF (by simp [e]) Ev.rfl
  ·rw [if_neg e]
   exact Ev.iteT (by simp [e]) Ev.rfl
 ·unfold ug
  exact Ev.iteF (by simp) Ev.rfl
theorem qdd {a b:List Int}(hl:a.length≤1048576) : Ev (fun k=>wd k a b) (decide (a=b)):=by
 unfold wd
 refine qjv (fun hab=>qih hl hab (fun i x y hx hy=>?_) ?_)
 ·unfold qbb
  have hi:i<a.length:=(List.getElem?_eq_some_iff.1 hx).1
  refine Ev.iteT (by simpa using hi) ?_
  refine Ev.bindp (z9 hx) ?_
  refine Ev.bindp (z9 hy) ?_
  rw [qa8 (by omega)]
  by_cases e:x=y
  ·rw [if_pos e]
   exact Ev.iteF (by simp [e]) Ev.rfl
  ·rw [if_neg e]
   exact Ev.iteT (by simp [e]) Ev.rfl
 ·unfold qbb
  exact Ev.iteF (by simp) Ev.rfl
theorem qkb {a b:Partition}(h:a.nn≤1048576) : Ev (fun k=>ux k a b) (decide (a=b)):=by
 have h:(a.Homes.length+(a.InStep.length+0))≤1048576:=h
 refine qik (p:=a.Homes=b.Homes∧a.InStep=b.InStep∧a.Leader=b.Leader∧a.Epoch=b.Epoch∧a.Stamp=b.Stamp∧True) ?_ (by cases a; cases b; simp)
 unfold ux
 refine qgv (qdd (by omega)) ?_
 refine qgv (qdd (by omega)) ?_
 refine qbe ?_
 refine qbe ?_
 refine qbe ?_
 exact qj4
theorem qjp {a b:List Partition}(h:nnL Partition.nn a≤1048576) : Ev (fun k=>uk k a b) (decide (a=b)):=by
 have hl:a.length≤1048576:=Nat.le_trans qd4 h
 unfold uk
 refine qjv (fun hab=>qih hl hab (fun i x y hx hy=>?_) ?_)
 ·unfold wk
  have hi:i<a.length:=(List.getElem?_eq_some_iff.1 hx).1
  refine Ev.iteT (by simpa using hi) ?_
  refine Ev.bindp (z9 hx) ?_
  refine Ev.bindp (z9 hy) ?_
  refine Ev.bind (qkb (Nat.le_trans (qdc hx) h)) ?_
  rw [qa8 (by omega)]
  by_cases e:x=y
  ·rw [if_pos e]
   exact Ev.iteF (by simp [e]) Ev.rfl
  ·rw [if_neg e]
   exact Ev.iteT (by simp [e]) Ev.rfl
 ·unfold wk
  exact Ev.iteF (by simp) Ev.rfl
theorem qfq {a b:Control}(h:a.nn≤1048576) : Ev (fun k=>xa k a b) (decide (a=b)):=by
 have h:(a.Brokers.length+((nnL Partition.nn a.Parts)+0))≤1048576:=h
 refine qik (p:=a.Brokers=b.Brokers∧a.Parts=b.Parts∧a.Next=b.Next∧True) ?_ (by cases a; cases b; simp)
 unfold xa
 refine qgv (qmb (by omega)) ?_
 refine qgv (qjp (by omega)) ?_
 refine qbe ?_
 exact qj4
theorem qlu {a b:Command}(h:a.nn≤1048576) : Ev (fun k=>qa9 k a b) (decide (a=b)):=by
 have h:(a.InStep.length+0)≤1048576:=h
 refine qik (p:=a.Kind=b.Kind∧a.Broker=b.Broker∧a.Epoch=b.Epoch∧a.Part=b.Part∧a.Stamp=b.Stamp∧a.InStep=b.InStep∧True) ?_ (by cases a; cases b; simp)
 unfold qa9
 refine qbe ?_
 refine qbe ?_
 refine qbe ?_
 refine qbe ?_
 refine qbe ?_
 refine qgv (qdd (by omega)) ?_
 exact qj4
theorem qlc {a b:List Command}(h:nnL Command.nn a≤1048576) : Ev (fun k=>qaq k a b) (decide (a=b)):=by
 have hl:a.length≤1048576:=Nat.le_trans qd4 h
 unfold qaq
 refine qjv (fun hab=>qih hl hab (fun i x y hx hy=>?_) ?_)
 ·unfold xv
  have hi:i<a.length:=(List.getElem?_eq_some_iff.1 hx).1
  refine Ev.iteT (by simpa using hi) ?_
  refine Ev.bindp (z9 hx) ?_
  refine Ev.bindp (z9 hy) ?_
  refine Ev.bind (qlu (Nat.le_trans (qdc hx) h)) ?_
  rw [qa8 (by omega)]
  by_cases e:x=y
  ·rw [if_pos e]
   exact Ev.iteF (by simp [e]) Ev.rfl
  ·rw [if_neg e]
   exact Ev.iteT (by simp [e]) Ev.rfl
 ·unfold xv
  exact Ev.iteF (by simp) Ev.rfl
theorem qef {l:List Int}{n:Nat}(hl:l.length≤1048576)(hn:n+zp (fun _=>1) l<4611686018427387904) : Ev (fun k=>ww k l (n:Int)) (((n+zp (fun _=>1) l:Nat) : Int),xy qdg (fun _=>1) l n):=by
 unfold ww
 refine Ev.jn (qga (c:=(fun _=>1)) (M:=qdg) hl hn (fun n i s x hn hi hx hsx hs=>?_) (fun n s hs=>?_)) (Ev.of rfl)
 ·try dsimp only at hn
  unfold uy
  try dsimp only
  refine Ev.iteT (by rw [hs]; simpa using hi) ?_
  refine Ev.bindp (z9 hsx) ?_
  try simp (disch:=omega) only [qa8]
  exact Ev.rfl
 ·unfold uy
  try dsimp only
  exact Ev.iteF (by rw [hs]; simp) Ev.rfl
theorem qjr {l:List Command}{n:Nat}(h:nnL Command.nn l≤1048576)(hn:n+zp Command.mce l<4611686018427387904) : Ev (fun k=>uj k l (n:Int)) (((n+zp Command.mce l:Nat) : Int),xy Command.mke Command.mce l n):=by
 have hl:l.length≤1048576:=Nat.le_trans qd4 h
 unfold uj
 refine Ev.jn (qga (c:=Command.mce) (M:=Command.mke) hl hn (fun n i s x hn hi hx hsx hs=>?_) (fun n s hs=>?_)) (Ev.of rfl)
 ·have hc:Command.mce x=1+1+1+1+1+zp (fun _=>1) x.InStep:=rfl
  rw [hc] at hn
  rw [show n+Command.mce x=n+1+1+1+1+1+zp (fun _=>1) x.InStep by omega]
  have hb:(x.InStep.length+0)≤1048576:=Nat.le_trans (qdc (f:=Command.nn) hx) h
  unfold wg
  try dsimp only
  refine Ev.iteT (by rw [hs]; simpa using hi) ?_
  refine Ev.bindp (z9 hsx) ?_
  try simp (disch:=omega) only [qa8]
  refine Ev.bind (qef (l:=x.InStep) (n:=n+1+1+1+1+1) (by omega) (by omega)) ?_
  try dsimp only
  try simp (disch:=omega) only [qa8]
  exact Ev.rfl
 ·unfold wg
  try dsimp only
  exact Ev.iteF (by rw [hs]; simp) Ev.rfl
theorem qj8 {l:List Broker}{n:Nat}(hl:l.length≤1048576)(hn:n+zp Broker.mce l<4611686018427387904) : Ev (fun k=>u4 k l (n:Int)) (((n+zp Broker.mce l:Nat) : Int),xy Broker.mke Broker.mce l n):=by
 unfold u4
 refine Ev.jn (qga (c:=Broker.mce) (M:=Broker.mke) hl hn (fun n i s x hn hi hx hsx hs=>?_) (fun n s hs=>?_)) (Ev.of rfl)
 ·have hc:Broker.mce x=1+1+1:=rfl
  rw [hc] at hn
  rw [show n+Broker.mce x=n+1+1+1 by omega]
  unfold w9
  try dsimp only
  refine Ev.iteT (by rw [hs]; simpa using hi) ?_
  refine Ev.bindp (z9 hsx) ?_
  try simp (disch:=omega) only [qa8]
  exact Ev.rfl
 ·unfold w9
  try dsimp only
  exact Ev.iteF (by rw [hs]; simp) Ev.rfl
theorem qio {l:List Partition}{n:Nat}(h:nnL Partition.nn l≤1048576)(hn:n+zp Partition.mce l<4611686018427387904) : Ev (fun k=>w6 k l (n:Int)) (((n+zp Partition.mce l:Nat) : Int),xy Partition.mke Partition.mce l n):=by
 have hl:l.length≤1048576:=Nat.le_trans qd4 h
 unfold w6
 refine Ev.jn (qga (c:=Partition.mce) (M:=Partition.mke) hl hn (fun n i s x hn hi hx hsx hs=>?_) (fun n s hs=>?_)) (Ev.of rfl)
 ·have hc:Partition.mce x=zp (fun _=>1) x.Homes+zp (fun _=>1) x.InStep+1+1+1:=rfl
  rw [hc] at hn
  rw [show n+Partition.mce x=n+zp (fun _=>1) x.Homes+zp (fun _=>1) x.InStep+1+1+1 by omega]
  have hb:(x.Homes.length+(x.InStep.length+0))≤1048576:=Nat.le_trans (qdc (f:=Partition.nn) hx) h
  unfold yy
  try dsimp only
  refine Ev.iteT (by rw [hs]; simpa using hi) ?_
  refine Ev.bindp (z9 hsx) ?_
  try simp (disch:=omega) only [qa8]
  refine Ev.bind (qef (l:=x.Homes) (n:=n) (by omega) (by omega)) ?_
  try dsimp only
  try simp (disch:=omega) only [qa8]
  refine Ev.bind (qef (l:=x.InStep) (n:=n+zp (fun _=>1) x.Homes) (by omega) (by omega)) ?_
  try dsimp only
  try simp (disch:=omega) only [qa8]
  exact Ev.rfl
 ·unfold yy
  try dsimp only
  exact Ev.iteF (by rw [hs]; simp) Ev.rfl
theorem qkc {x:Control}{n:Nat}(h:x.nn≤1048576)(hn:x.en n<4611686018427387904) : Ev (fun k=>uw k x (n:Int)) (((x.en n:Nat) : Int),x.mkd n):=by
 simp only [Control.en,Control.nn] at h hn
 unfold uw
 refine Ev.bind (qj8 (l:=x.Brokers) (n:=n) (by omega) (by (try simp only [Control.en,Control.nn]); omega)) ?_
 refine Ev.bind (qio (l:=x.Parts) (n:=n+zp Broker.mce x.Brokers) (by omega) (by (try simp only [Control.en,Control.nn]); omega)) ?_
 exact Ev.rfl
theorem qj9 {l:List Broker}{n:Nat}(hl:l.length≤1048576)(hn:n+zp Broker.mce l<4611686018427387904) : Ev (fun k=>uz k (xy Broker.mke Broker.mce l n) (n:Int)) ((n+zp Broker.mce l:Nat) : Int):=by
 unfold uz
 refine Ev.jn (qh4 (l:=l) (c:=Broker.mce) hl hn (fun i x hx hn=>?_) (fun n=>?_)) (Ev.of rfl)
 ·have hg:=qg6 (M:=Broker.mke) (c:=Broker.mce) (n:=n) hx
  have hi:i<l.length:=(List.getElem?_eq_some_iff.1 hx).1
  generalize n+zp Broker.mce (l.take i)=n at hg hn ⊢
  have hc:Broker.mce x=1+1+1:=rfl
  rw [hc] at hn
  rw [show n+Broker.mce x=n+1+1+1 by omega]
  unfold w7
  try dsimp only
  refine Ev.iteT (by rw [qas]; simpa using hi) ?_
  try simp (disch:=omega) only [qa8]
  refine Ev.bindp (z9 hg) ?_
  refine Ev.iteF (by simp [Broker.mke]) ?_
  refine Ev.bindp (z9 hg) ?_
  refine Ev.iteF (by simp [Broker.mke]) ?_
  refine Ev.bindp (z9 hg) ?_
  refine Ev.iteF (by simp [Broker.mke]) ?_
  exact Ev.rfl
 ·unfold w7
  try dsimp only
  exact Ev.iteF (by rw [qas]; simp) Ev.rfl
theorem qeh {l:List Int}{n:Nat}(hl:l.length≤1048576)(hn:n+zp (fun _=>1) l<4611686018427387904) : Ev (fun k=>wt k (xy qdg (fun _=>1) l n) (n:Int)) ((n+zp (fun _=>1) l:Nat) : Int):=by
 unfold wt
 refine Ev.jn (qh4 (l:=l) (c:=(fun _=>1)) hl hn (fun i x hx hn=>?_) (fun n=>?_)) (Ev.of rfl)
 ·have hg:=qg6 (M:=qdg) (c:=(fun _=>1)) (n:=n) hx
  have hi:i<l.length:=(List.getElem?_eq_some_iff.1 hx).1
  generalize n+zp (fun _=>1) (l.take i)=n at hg hn ⊢
  try dsimp only at hn
  unfold u0
  try dsimp only
  refine Ev.iteT (by rw [qas]; simpa using hi) ?_
  try simp (disch:=omega) only [qa8]
  refine Ev.bindp (z9 hg) ?_
  refine Ev.iteF (by simp [qdg]) ?_
  exact Ev.rfl
 ·unfold u0
  try dsimp only
  exact Ev.iteF (by rw [qas]; simp) Ev.rfl
theorem qim {l:List Partition}{n:Nat}(h:nnL Partition.nn l≤1048576)(hn:n+zp Partition.mce l<4611686018427387904) : Ev (fun k=>wx k (xy Partition.mke Partition.mce l n) (n:Int)) ((n+zp Partition.mce l:Nat) : Int):=by
 have hl:l.length≤1048576:=Nat.le_trans qd4 h
 unfold wx
 refine Ev.jn (qh4 (l:=l) (c:=Partition.mce) hl hn (fun i x hx hn=>?_) (fun n=>?_)) (Ev.of rfl)
 ·have hg:=qg6 (M:=Partition.mke) (c:=Partition.mce) (n:=n) hx
  have hi:i<l.length:=(List.getElem?_eq_some_iff.1 hx).1
  generalize n+zp Partition.mce (l.take i)=n at hg hn ⊢
  have hc:Partition.mce x=zp (fun _=>1) x.Homes+zp (fun _=>1) x.InStep+1+1+1:=rfl
  rw [hc] at hn
  rw [show n+Partition.mce x=n+zp (fun _=>1) x.Homes+zp (fun _=>1) x.InStep+1+1+1 by omega]
  have hb:(x.Homes.length+(x.InStep.length+0))≤1048576:=Nat.le_trans (qdc (f:=Partition.nn) hx) h
  unfold yz
  try dsimp only
  refine Ev.iteT (by rw [qas]; simpa using hi) ?_
  try simp (disch:=omega) only [qa8]
  refine Ev.bindp (z9 hg) ?_
  refine Ev.bind (qeh (l:=x.Homes) (n:=n) (by omega) (by omega)) ?_
  refine Ev.iteF (by simp only [decide_eq_false_iff_not]; omega) ?_
  try simp (disch:=omega) only [qa8]
  refine Ev.bindp (z9 hg) ?_
  refine Ev.bind (qeh (l:=x.InStep) (n:=n+zp (fun _=>1) x.Homes) (by omega) (by omega)) ?_
  refine Ev.iteF (by simp only [decide_eq_false_iff_not]; omega) ?_
  try simp (disch:=omega) only [qa8]
  refine Ev.bindp (z9 hg) ?_
  refine Ev.iteF (by simp [Partition.mke]) ?_
  refine Ev.bindp (z9 hg) ?_
  refine Ev.iteF (by simp [Partition.mke]) ?_
  refine Ev.bindp (z9 hg) ?_
  refine Ev.iteF (by simp [Partition.mke]) ?_
  exact Ev.rfl
 ·unfold yz
  try dsimp only
  exact Ev.iteF (by rw [qas]; simp) Ev.rfl
theorem qgk {x:Control}{n:Nat}(h:x.nn≤1048576)(hn:x.en n<4611686018427387904) : Ev (fun k=>xd k (x.mkd n) (n:Int)) ((x.en n:Nat) : Int):=by
 simp only [Control.en,Control.nn] at h hn
 unfold xd
 refine Ev.bind (qj9 (l:=x.Brokers) (n:=n) (by omega) (by (try simp only [Control.en,Control.nn]); omega)) ?_
 refine Ev.iteF (by simp only [decide_eq_false_iff_not]; omega) ?_
 refine Ev.bind (qim (l:=x.Parts) (n:=n+zp Broker.mce x.Brokers) (by omega) (by (try simp only [Control.en,Control.nn]); omega)) ?_
 refine Ev.iteF (by simp only [decide_eq_false_iff_not]; omega) ?_
 exact Ev.rfl
end Go.Proofs.Ytjloihcijdcpeaa.X
