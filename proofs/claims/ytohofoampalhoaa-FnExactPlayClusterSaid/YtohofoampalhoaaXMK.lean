/- The laws' own walks: sizes, copies, comparisons, marks. -/
import Derived.Test.YtohofoampalhoaaXMD
import Derived.Test.YtohofoampalhoaaXMW
import Derived.Test.YtohofoampalhoaaZLib2
open Go.Proofs.Ytohofoampalhoaa.X.Ev renaming bindp→a0q,bind→a0n,iteF→a0t,iteT→a00,jn→a39,of→a32,rfl→a0o
open List renaming getElem?_eq_some_iff→v6
open Nat renaming le_trans→a18
set_option linter.unusedVariables false
set_option linter.unusedSimpArgs false
set_option maxRecDepth 100000
namespace Go.Proofs.Ytohofoampalhoaa.X
open Go
def qe0 (_:Int)(n:Nat) : Int:=(n:Int)
def qmv (_:Bool)(n:Nat) : Bool:=decide (Int.tmod (n:Int) 3=0)
def View.nn (x:View) : Nat:=(x.InStep.length+0)
def View.mce (x:View) : Nat:=1+1+ja (fun _=>1) x.InStep
def View.mke (x:View)(n:Nat) : View:=(View.mk ((n:Nat) : Int) ((n+1:Nat) : Int) (w9 qe0 (fun _=>1) x.InStep (n+1+1)))
def View.mkd (x:View)(n:Nat) : View:=(View.mk x.Epoch x.Leader (w9 qe0 (fun _=>1) x.InStep (n)))
def View.en (x:View)(n:Nat) : Nat:=n+ja (fun _=>1) x.InStep
theorem View.mce_le (x:View) : x.mce≤100*(1+x.nn):=by
 have h0:ja (fun _=>1) x.InStep=1*x.InStep.length:=wy
 unfold View.mce
 simp only [View.nn]
 omega
theorem View.en_le {x:View}{n:Nat}(h:x.nn≤1048576) : x.en n≤n+100*x.nn:=by
 have h0:ja (fun _=>1) x.InStep=1*x.InStep.length:=wy
 simp only [View.en,View.nn] at h ⊢
 omega
def Row.mce (x:Row) : Nat:=1+1
def Row.mke (x:Row)(n:Nat) : Row:=(Row.mk ((n:Nat) : Int) ((n+1:Nat) : Int))
def Node.nn (x:Node) : Nat:=(x.View.nn+(x.Log.length+(x.Known.length+0)))
def Node.mce (x:Node) : Nat:=1+1+ja (fun _=>1) x.View.InStep+ja Row.mce x.Log+ja (fun _=>1) x.Known+1
def Node.mke (x:Node)(n:Nat) : Node:=(Node.mk (View.mk ((n:Nat) : Int) ((n+1:Nat) : Int) (w9 qe0 (fun _=>1) x.View.InStep (n+1+1))) (w9 Row.mke Row.mce x.Log (n+1+1+ja (fun _=>1) x.View.InStep)) (w9 qe0 (fun _=>1) x.Known (n+1+1+ja (fun _=>1) x.View.InStep+ja Row.mce x.Log)) ((n+1+1+ja (fun _=>1) x.View.InStep+ja Row.mce x.Log+ja (fun _=>1) x.Known:Nat) : Int))
def Node.mkd (x:Node)(n:Nat) : Node:=(Node.mk (View.mkd x.View (n)) (w9 Row.mke Row.mce x.Log (View.en x.View (n))) (w9 qe0 (fun _=>1) x.Known (View.en x.View (n)+ja Row.mce x.Log)) x.Told)
def Node.en (x:Node)(n:Nat) : Nat:=View.en x.View (n)+ja Row.mce x.Log+ja (fun _=>1) x.Known
theorem Node.mce_le (x:Node) : x.mce≤100*(1+x.nn):=by
 have h0:ja (fun _=>1) x.View.InStep=1*x.View.InStep.length:=wy
 have h1:ja Row.mce x.Log=2*x.Log.length:=wy
 have h2:ja (fun _=>1) x.Known=1*x.Known.length:=wy
 unfold Node.mce
 simp only [Node.nn,View.nn]
 omega
theorem Node.en_le {x:Node}{n:Nat}(h:x.nn≤1048576) : x.en n≤n+100*x.nn:=by
 have h0:ja (fun _=>1) x.View.InStep=1*x.View.InStep.length:=wy
 have h1:ja Row.mce x.Log=2*x.Log.length:=wy
 have h2:ja (fun _=>1) x.Known=1*x.Known.length:=wy
 simp only [Node.en,Node.nn,View.en,View.nn] at h ⊢
 omega
def Cluster.nn (x:Cluster) : Nat:=(x.Truth.nn+((nnL Node.nn x.Nodes)+(x.Acked.length+0)))
def Cluster.mce (x:Cluster) : Nat:=1+1+ja (fun _=>1) x.Truth.InStep+ja Node.mce x.Nodes+ja Row.mce x.Acked
def Cluster.mke (x:Cluster)(n:Nat) : Cluster:=(Cluster.mk (View.mk ((n:Nat) : Int) ((n+1:Nat) : Int) (w9 qe0 (fun _=>1) x.Truth.InStep (n+1+1))) (w9 Node.mke Node.mce x.Nodes (n+1+1+ja (fun _=>1) x.Truth.InStep)) (w9 Row.mke Row.mce x.Acked (n+1+1+ja (fun _=>1) x.Truth.InStep+ja Node.mce x.Nodes)))
def Cluster.mkd (x:Cluster)(n:Nat) : Cluster:=(Cluster.mk (View.mkd x.Truth (n)) (w9 Node.mke Node.mce x.Nodes (View.en x.Truth (n))) (w9 Row.mke Row.mce x.Acked (View.en x.Truth (n)+ja Node.mce x.Nodes)))
def Cluster.en (x:Cluster)(n:Nat) : Nat:=View.en x.Truth (n)+ja Node.mce x.Nodes+ja Row.mce x.Acked
theorem Cluster.en_le {x:Cluster}{n:Nat}(h:x.nn≤1048576) : x.en n≤n+100*x.nn:=by
 have h0:ja (fun _=>1) x.Truth.InStep=1*x.Truth.InStep.length:=wy
 have h1:=q9g (c:=Node.mce) (f:=Node.nn) (m:=100) Node.mce_le (l:=x.Nodes)
 have h2:ja Row.mce x.Acked=2*x.Acked.length:=wy
 simp only [Cluster.en,Cluster.nn,View.en,View.nn] at h ⊢
 omega
def ClusterStep.mce (x:ClusterStep) : Nat:=1+1+1+1
def ClusterStep.mke (x:ClusterStep)(n:Nat) : ClusterStep:=(ClusterStep.mk ((n:Nat) : Int) ((n+1:Nat) : Int) ((n+1+1:Nat) : Int) ((n+1+1+1:Nat) : Int))
theorem qnz {a b:List Int}(hl:a.length≤1048576) : Ev (fun k=>qcw k a b) (decide (a=b)):=by
 unfold qcw
 refine qj2 (fun hab=>qii hl hab (fun i x y hx hy=>?_) ?_)
 ·unfold qcc
  have hi:i<a.length:=(v6.1 hx).1
  refine a00 (by simpa using hi) ?_
  refine a0q (jl hx) ?_
  refine a0q (jl hy) ?_
  rw [xe (by omega)]
  by_cases e:x=y
  ·rw [if_pos e]
   exact a0t (by simp [e]) a0o
  ·rw [if_neg e]
   exact a00 (by simp [e]) a0o
 ·unfold qcc
  exact a0t (by simp) a0o
theorem qn3 {a b:View}(h:a.nn≤1048576) : Ev (fun k=>qcu k a b) (decide (a=b)):=by
 have h:(a.InStep.length+0)≤1048576:=h
 refine qip (p:=a.Epoch=b.Epoch∧a.Leader=b.Leader∧a.InStep=b.InStep∧True) ?_ (by cases a; cases b; simp)
 unfold qcu
 refine qdr ?_
 refine qdr ?_
 refine qfq (qnz (by omega)) ?_
 exact qkn
theorem qyc {a b:Row} : Ev (fun k=>qe3 a b) (decide (a=b)):=by
 refine qip (p:=a.Epoch=b.Epoch∧a.Value=b.Value∧True) ?_ (by cases a; cases b; simp)
 unfold qe3
 refine qdr ?_
 refine qdr ?_
 exact qkn
theorem qn0 {a b:List Row}(hl:a.length≤1048576) : Ev (fun k=>qct k a b) (decide (a=b)):=by
 unfold qct
 refine qj2 (fun hab=>qii hl hab (fun i x y hx hy=>?_) ?_)
 ·unfold qb2
  have hi:i<a.length:=(v6.1 hx).1
  refine a00 (by simpa using hi) ?_
  refine a0q (jl hx) ?_
  refine a0q (jl hy) ?_
  refine a0n (qyc) ?_
  rw [xe (by omega)]
  by_cases e:x=y
  ·rw [if_pos e]
   exact a0t (by simp [e]) a0o
  ·rw [if_neg e]
   exact a00 (by simp [e]) a0o
 ·unfold qb2
  exact a0t (by simp) a0o
theorem qu7 {a b:Node}(h:a.nn≤1048576) : Ev (fun k=>qea k a b) (decide (a=b)):=by
 have h:(a.View.nn+(a.Log.length+(a.Known.length+0)))≤1048576:=h
 refine qip (p:=a.View=b.View∧a.Log=b.Log∧a.Known=b.Known∧a.Told=b.Told∧True) ?_ (by cases a; cases b; simp)
 unfold qea
 refine qfq (qn3 (by omega)) ?_
 refine qfq (qn0 (by omega)) ?_
 refine qfq (qnz (by omega)) ?_
 refine qdr ?_
 exact qkn
theorem qrv {a b:List Node}(h:nnL Node.nn a≤1048576) : Ev (fun k=>qdm k a b) (decide (a=b)):=by
 have hl:a.length≤1048576:=a18 qkq h
 unfold qdm
 refine qj2 (fun hab=>qii hl hab (fun i x y hx hy=>?_) ?_)
 ·unfold qbg
  have hi:i<a.length:=(v6.1 hx).1
  refine a00 (by simpa using hi) ?_
  refine a0q (jl hx) ?_
  refine a0q (jl hy) ?_
  refine a0n (qu7 (a18 (qky hx) h)) ?_
  rw [xe (by omega)]
  by_cases e:x=y
  ·rw [if_pos e]
   exact a0t (by simp [e]) a0o
  ·rw [if_neg e]
   exact a00 (by simp [e]) a0o
 ·unfold qbg
  exact a0t (by simp) a0o
theorem qg5 {a b:Cluster}(h:a.nn≤1048576) : Ev (fun k=>uc k a b) (decide (a=b)):=by
 have h:(a.Truth.nn+((nnL Node.nn a.Nodes)+(a.Acked.length+0)))≤1048576:=h
 refine qip (p:=a.Truth=b.Truth∧a.Nodes=b.Nodes∧a.Acked=b.Acked∧True) ?_ (by cases a; cases b; simp)
 unfold uc
 refine qfq (qn3 (by omega)) ?_
 refine qfq (qrv (by omega)) ?_
 refine qfq (qn0 (by omega)) ?_
 exact qkn
theorem qif {l:List Int}{n:Nat}(hl:l.length≤1048576)(hn:n+ja (fun _=>1) l<4611686018427387904) : Ev (fun k=>u5 k l (n:Int)) (((n+ja (fun _=>1) l:Nat) : Int),w9 qe0 (fun _=>1) l n):=by
 unfold u5
 refine a39 (qf1 (c:=(fun _=>1)) (M:=qe0) hl hn (fun n i s x hn hi hx hsx hs=>?_) (fun n s hs=>?_)) (a32 rfl)
 ·try dsimp only at hn
  unfold qaz
  try dsimp only
  refine a00 (by rw [hs]; simpa using hi) ?_
  refine a0q (jl hsx) ?_
  try simp (disch:=omega) only [xe]
  exact a0o
 ·unfold qaz
  try dsimp only
  exact a0t (by rw [hs]; simp) a0o
theorem qqb {x:View}{n:Nat}(h:x.nn≤1048576)(hn:x.en n<4611686018427387904) : Ev (fun k=>qcq k x (n:Int)) (((x.en n:Nat) : Int),x.mkd n):=by
 simp only [View.en,View.nn] at h hn
 unfold qcq
 refine a0n (qif (l:=x.InStep) (n:=n) (by omega) (by (try simp only [View.en,View.nn]); omega)) ?_
 exact a0o
theorem qle {l:List Row}{n:Nat}(hl:l.length≤1048576)(hn:n+ja Row.mce l<4611686018427387904) : Ev (fun k=>qbc k l (n:Int)) (((n+ja Row.mce l:Nat) : Int),w9 Row.mke Row.mce l n):=by
 unfold qbc
 refine a39 (qf1 (c:=Row.mce) (M:=Row.mke) hl hn (fun n i s x hn hi hx hsx hs=>?_) (fun n s hs=>?_)) (a32 rfl)
 ·have hc:Row.mce x=1+1:=rfl
  rw [hc] at hn
  rw [show n+Row.mce x=n+1+1 by omega]
  unfold qas
  try dsimp only
  refine a00 (by rw [hs]; simpa using hi) ?_
  refine a0q (jl hsx) ?_
  try simp (disch:=omega) only [xe]
  exact a0o
 ·unfold qas
  try dsimp only
  exact a0t (by rw [hs]; simp) a0o
theorem qpy {l:List Node}{n:Nat}(h:nnL Node.nn l≤1048576)(hn:n+ja Node.mce l<4611686018427387904) : Ev (fun k=>qb4 k l (n:Int)) (((n+ja Node.mce l:Nat) : Int),w9 Node.mke Node.mce l n):=by
 have hl:l.length≤1048576:=a18 qkq h
 unfold qb4
 refine a39 (qf1 (c:=Node.mce) (M:=Node.mke) hl hn (fun n i s x hn hi hx hsx hs=>?_) (fun n s hs=>?_)) (a32 rfl)
 ·have hc:Node.mce x=1+1+ja (fun _=>1) x.View.InStep+ja Row.mce x.Log+ja (fun _=>1) x.Known+1:=rfl
  rw [hc] at hn
  rw [show n+Node.mce x=n+1+1+ja (fun _=>1) x.View.InStep+ja Row.mce x.Log+ja (fun _=>1) x.Known+1 by omega]
  have hb:(x.View.nn+(x.Log.length+(x.Known.length+0)))≤1048576:=a18 (qky (f:=Node.nn) hx) h
  simp only [View.nn] at hb
  unfold qae
  try dsimp only
  refine a00 (by rw [hs]; simpa using hi) ?_
  refine a0q (jl hsx) ?_
  try simp (disch:=omega) only [xe]
  refine a0n (qif (l:=x.View.InStep) (n:=n+1+1) (by omega) (by omega)) ?_
  try dsimp only
  try simp (disch:=omega) only [xe]
  refine a0n (qle (l:=x.Log) (n:=n+1+1+ja (fun _=>1) x.View.InStep) (by omega) (by omega)) ?_
  try dsimp only
  try simp (disch:=omega) only [xe]
  refine a0n (qif (l:=x.Known) (n:=n+1+1+ja (fun _=>1) x.View.InStep+ja Row.mce x.Log) (by omega) (by omega)) ?_
  try dsimp only
  try simp (disch:=omega) only [xe]
  exact a0o
 ·unfold qae
  try dsimp only
  exact a0t (by rw [hs]; simp) a0o
theorem qns {x:Cluster}{n:Nat}(h:x.nn≤1048576)(hn:x.en n<4611686018427387904) : Ev (fun k=>qa1 k x (n:Int)) (((x.en n:Nat) : Int),x.mkd n):=by
 simp only [Cluster.en,Cluster.nn,View.en,View.nn] at h hn
 unfold qa1
 refine a0n (qqb (x:=x.Truth) (n:=n) (by simp only [Cluster.en,Cluster.nn,View.en,View.nn]; omega) (by simp only [Cluster.en,Cluster.nn,View.en,View.nn]; omega)) ?_
 refine a0n (qpy (l:=x.Nodes) (n:=View.en x.Truth (n)) (by omega) (by (try simp only [Cluster.en,Cluster.nn,View.en,View.nn]); omega)) ?_
 refine a0n (qle (l:=x.Acked) (n:=View.en x.Truth (n)+ja Node.mce x.Nodes) (by omega) (by (try simp only [Cluster.en,Cluster.nn,View.en,View.nn]); omega)) ?_
 exact a0o
theorem qih {l:List Int}{n:Nat}(hl:l.length≤1048576)(hn:n+ja (fun _=>1) l<4611686018427387904) : Ev (fun k=>u4 k (w9 qe0 (fun _=>1) l n) (n:Int)) ((n+ja (fun _=>1) l:Nat) : Int):=by
 unfold u4
 refine a39 (qhw (l:=l) (c:=(fun _=>1)) hl hn (fun i x hx hn=>?_) (fun n=>?_)) (a32 rfl)
 ·have hg:=qhf (M:=qe0) (c:=(fun _=>1)) (n:=n) hx
  have hi:i<l.length:=(v6.1 hx).1
  generalize n+ja (fun _=>1) (l.take i)=n at hg hn ⊢
  try dsimp only at hn
  unfold qaq
  try dsimp only
  refine a00 (by rw [ug]; simpa using hi) ?_
  try simp (disch:=omega) only [xe]
  refine a0q (jl hg) ?_
  refine a0t (by simp [qe0]) ?_
  exact a0o
 ·unfold qaq
  try dsimp only
  exact a0t (by rw [ug]; simp) a0o
theorem qqp {x:View}{n:Nat}(h:x.nn≤1048576)(hn:x.en n<4611686018427387904) : Ev (fun k=>qcn k (x.mkd n) (n:Int)) ((x.en n:Nat) : Int):=by
 simp only [View.en,View.nn] at h hn
 unfold qcn
 refine a0n (qih (l:=x.InStep) (n:=n) (by omega) (by (try simp only [View.en,View.nn]); omega)) ?_
 refine a0t (by simp only [decide_eq_false_iff_not]; omega) ?_
 exact a0o
theorem qlg {l:List Row}{n:Nat}(hl:l.length≤1048576)(hn:n+ja Row.mce l<4611686018427387904) : Ev (fun k=>qbe k (w9 Row.mke Row.mce l n) (n:Int)) ((n+ja Row.mce l:Nat) : Int):=by
 unfold qbe
 refine a39 (qhw (l:=l) (c:=Row.mce) hl hn (fun i x hx hn=>?_) (fun n=>?_)) (a32 rfl)
 ·have hg:=qhf (M:=Row.mke) (c:=Row.mce) (n:=n) hx
  have hi:i<l.length:=(v6.1 hx).1
  generalize n+ja Row.mce (l.take i)=n at hg hn ⊢
  have hc:Row.mce x=1+1:=rfl
  rw [hc] at hn
  rw [show n+Row.mce x=n+1+1 by omega]
  unfold qat
  try dsimp only
  refine a00 (by rw [ug]; simpa using hi) ?_
  try simp (disch:=omega) only [xe]
  refine a0q (jl hg) ?_
  refine a0t (by simp [Row.mke]) ?_
  refine a0q (jl hg) ?_
  refine a0t (by simp [Row.mke]) ?_
  exact a0o
 ·unfold qat
  try dsimp only
  exact a0t (by rw [ug]; simp) a0o
theorem qo4 {l:List Node}{n:Nat}(h:nnL Node.nn l≤1048576)(hn:n+ja Node.mce l<4611686018427387904) : Ev (fun k=>qca k (w9 Node.mke Node.mce l n) (n:Int)) ((n+ja Node.mce l:Nat) : Int):=by
 have hl:l.length≤1048576:=a18 qkq h
 unfold qca
 refine a39 (qhw (l:=l) (c:=Node.mce) hl hn (fun i x hx hn=>?_) (fun n=>?_)) (a32 rfl)
 ·have hg:=qhf (M:=Node.mke) (c:=Node.mce) (n:=n) hx
  have hi:i<l.length:=(v6.1 hx).1
  generalize n+ja Node.mce (l.take i)=n at hg hn ⊢
  have hc:Node.mce x=1+1+ja (fun _=>1) x.View.InStep+ja Row.mce x.Log+ja (fun _=>1) x.Known+1:=rfl
  rw [hc] at hn
  rw [show n+Node.mce x=n+1+1+ja (fun _=>1) x.View.InStep+ja Row.mce x.Log+ja (fun _=>1) x.Known+1 by omega]
  have hb:(x.View.nn+(x.Log.length+(x.Known.length+0)))≤1048576:=a18 (qky (f:=Node.nn) hx) h
  simp only [View.nn] at hb
  unfold qac
  try dsimp only
  refine a00 (by rw [ug]; simpa using hi) ?_
  try simp (disch:=omega) only [xe]
  refine a0q (jl hg) ?_
  refine a0t (by simp [Node.mke]) ?_
  refine a0q (jl hg) ?_
  refine a0t (by simp [Node.mke]) ?_
  refine a0q (jl hg) ?_
  refine a0n (qih (l:=x.View.InStep) (n:=n+1+1) (by omega) (by omega)) ?_
  refine a0t (by simp only [decide_eq_false_iff_not]; omega) ?_
  try simp (disch:=omega) only [xe]
  refine a0q (jl hg) ?_
  refine a0n (qlg (l:=x.Log) (n:=n+1+1+ja (fun _=>1) x.View.InStep) (by omega) (by omega)) ?_
  refine a0t (by simp only [decide_eq_false_iff_not]; omega) ?_
  try simp (disch:=omega) only [xe]
  refine a0q (jl hg) ?_
  refine a0n (qih (l:=x.Known) (n:=n+1+1+ja (fun _=>1) x.View.InStep+ja Row.mce x.Log) (by omega) (by omega)) ?_
  refine a0t (by simp only [decide_eq_false_iff_not]; omega) ?_
  try simp (disch:=omega) only [xe]
  refine a0q (jl hg) ?_
  refine a0t (by simp [Node.mke]) ?_
  exact a0o
 ·unfold qac
  try dsimp only
  exact a0t (by rw [ug]; simp) a0o
theorem qiq {x:Cluster}{n:Nat}(h:x.nn≤1048576)(hn:x.en n<4611686018427387904) : Ev (fun k=>ub k (x.mkd n) (n:Int)) ((x.en n:Nat) : Int):=by
 simp only [Cluster.en,Cluster.nn,View.en,View.nn] at h hn
 unfold ub
 refine a0n (qqp (x:=x.Truth) (n:=n) (by simp only [Cluster.en,Cluster.nn,View.en,View.nn]; omega) (by simp only [Cluster.en,Cluster.nn,View.en,View.nn]; omega)) ?_
 refine a0t (by simp only [decide_eq_false_iff_not]; omega) ?_
 refine a0n (qo4 (l:=x.Nodes) (n:=View.en x.Truth (n)) (by omega) (by (try simp only [Cluster.en,Cluster.nn,View.en,View.nn]); omega)) ?_
 refine a0t (by simp only [decide_eq_false_iff_not]; omega) ?_
 refine a0n (qlg (l:=x.Acked) (n:=View.en x.Truth (n)+ja Node.mce x.Nodes) (by omega) (by (try simp only [Cluster.en,Cluster.nn,View.en,View.nn]); omega)) ?_
 refine a0t (by simp only [decide_eq_false_iff_not]; omega) ?_
 exact a0o
theorem qk5 {l:List ClusterStep}{left:Int}(hl:l.length≤4611686018427387904)(h0:0≤left)(h1:left≤1048576) : Ev (fun k=>xw l left) (szr l.length left):=by
 unfold xw
 exact a32 (qyw hl h0 h1)
theorem qbz {l:List ClusterStep}(hl:l.length≤1048576) : Ev (fun k=>yl k l) l:=by
 unfold yl
 refine a0q (qp0 (by omega)) ?_
 refine a39 (s:=((l.length:Int),l)) (q81 hl (fun i s x y hx hy=>?_) (fun s=>?_)) (a32 rfl)
 ·unfold ww
  have hi:i<l.length:=(v6.1 hx).1
  refine a00 (by simpa using hi) ?_
  refine a0q (jl hx) ?_
  refine a0q (jl hy) ?_
  rw [xe (by omega)]
  exact a0o
 ·unfold ww
  exact a0t (by simp) a0o
theorem qjl {a b:List Bool}(hl:a.length≤1048576) : Ev (fun k=>qaw k a b) (decide (a=b)):=by
 unfold qaw
 refine qj2 (fun hab=>qii hl hab (fun i x y hx hy=>?_) ?_)
 ·unfold qbi
  have hi:i<a.length:=(v6.1 hx).1
  refine a00 (by simpa using hi) ?_
  refine a0q (jl hx) ?_
  refine a0q (jl hy) ?_
  rw [xe (by omega)]
  by_cases e:x=y
  ·rw [if_pos e]
   exact a0t (by simp [e]) a0o
  ·rw [if_neg e]
   exact a00 (by simp [e]) a0o
 ·unfold qbi
  exact a0t (by simp) a0o
theorem qlj {a b:ClusterStep} : Ev (fun k=>ut a b) (decide (a=b)):=by
 refine qip (p:=a.Kind=b.Kind∧a.K=b.K∧a.To=b.To∧a.N=b.N∧True) ?_ (by cases a; cases b; simp)
 unfold ut
 refine qdr ?_
 refine qdr ?_
 refine qdr ?_
 refine qdr ?_
 exact qkn
theorem qk6 {a b:List ClusterStep}(hl:a.length≤1048576) : Ev (fun k=>xy k a b) (decide (a=b)):=by
 unfold xy
 refine qj2 (fun hab=>qii hl hab (fun i x y hx hy=>?_) ?_)
 ·unfold wx
  have hi:i<a.length:=(v6.1 hx).1
  refine a00 (by simpa using hi) ?_
  refine a0q (jl hx) ?_
  refine a0q (jl hy) ?_
  refine a0n (qlj) ?_
  rw [xe (by omega)]
  by_cases e:x=y
  ·rw [if_pos e]
   exact a0t (by simp [e]) a0o
  ·rw [if_neg e]
   exact a00 (by simp [e]) a0o
 ·unfold wx
  exact a0t (by simp) a0o
theorem qj0 {l:List ClusterStep}{n:Nat}(hl:l.length≤1048576)(hn:n+ja ClusterStep.mce l<4611686018427387904) : Ev (fun k=>w8 k l (n:Int)) (((n+ja ClusterStep.mce l:Nat) : Int),w9 ClusterStep.mke ClusterStep.mce l n):=by
 unfold w8
 refine a39 (qf1 (c:=ClusterStep.mce) (M:=ClusterStep.mke) hl hn (fun n i s x hn hi hx hsx hs=>?_) (fun n s hs=>?_)) (a32 rfl)
 ·have hc:ClusterStep.mce x=1+1+1+1:=rfl
  rw [hc] at hn
  rw [show n+ClusterStep.mce x=n+1+1+1+1 by omega]
  unfold wj
  try dsimp only
  refine a00 (by rw [hs]; simpa using hi) ?_
  refine a0q (jl hsx) ?_
  try simp (disch:=omega) only [xe]
  exact a0o
 ·unfold wj
  try dsimp only
  exact a0t (by rw [hs]; simp) a0o
theorem qoq {l:List Bool}{n:Nat}(hl:l.length≤1048576)(hn:n+ja (fun _=>1) l<4611686018427387904) : Ev (fun k=>qb5 k l (n:Int)) (((n+ja (fun _=>1) l:Nat) : Int),w9 qmv (fun _=>1) l n):=by
 unfold qb5
 refine a39 (qf1 (c:=(fun _=>1)) (M:=qmv) hl hn (fun n i s x hn hi hx hsx hs=>?_) (fun n s hs=>?_)) (a32 rfl)
 ·try dsimp only at hn
  unfold qaa
  try dsimp only
  refine a00 (by rw [hs]; simpa using hi) ?_
  refine a0q (jl hsx) ?_
  try simp (disch:=omega) only [xe]
  exact a0o
 ·unfold qaa
  try dsimp only
  exact a0t (by rw [hs]; simp) a0o
theorem qka {l:List Bool}{n:Nat}(hl:l.length≤1048576)(hn:n+ja (fun _=>1) l<4611686018427387904) : Ev (fun k=>qam k (w9 qmv (fun _=>1) l n) (n:Int)) ((n+ja (fun _=>1) l:Nat) : Int):=by
 unfold qam
 refine a39 (qhw (l:=l) (c:=(fun _=>1)) hl hn (fun i x hx hn=>?_) (fun n=>?_)) (a32 rfl)
 ·have hg:=qhf (M:=qmv) (c:=(fun _=>1)) (n:=n) hx
  have hi:i<l.length:=(v6.1 hx).1
  generalize n+ja (fun _=>1) (l.take i)=n at hg hn ⊢
  try dsimp only at hn
  unfold u7
  try dsimp only
  refine a00 (by rw [ug]; simpa using hi) ?_
  try simp (disch:=omega) only [xe]
  refine a0q (jl hg) ?_
  refine a0t (by simp [qmv]) ?_
  exact a0o
 ·unfold u7
  try dsimp only
  exact a0t (by rw [ug]; simp) a0o
end Go.Proofs.Ytohofoampalhoaa.X
