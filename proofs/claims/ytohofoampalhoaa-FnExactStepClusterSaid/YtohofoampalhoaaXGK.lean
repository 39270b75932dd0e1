/- The laws' own walks: sizes, copies, comparisons, marks. -/
import Derived.Test.YtohofoampalhoaaXGD
import Derived.Test.YtohofoampalhoaaXGW
import Derived.Test.YtohofoampalhoaaZLib2
open Go.Proofs.Ytohofoampalhoaa.X.Ev renaming bindp→r4,bind→n8,iteF→r5,iteT→t6,of→a3a,rfl→o6
open List renaming getElem?_eq_some_iff→i4
open Nat renaming le_trans→a05
set_option linter.unusedVariables false
set_option linter.unusedSimpArgs false
set_option maxRecDepth 100000
namespace Go.Proofs.Ytohofoampalhoaa.X
open Go
def qex (_:Int)(n:Nat) : Int:=(n:Int)
def View.nn (x:View) : Nat:=(x.InStep.length+0)
def View.mce (x:View) : Nat:=1+1+jf (fun _=>1) x.InStep
def View.mke (x:View)(n:Nat) : View:=(View.mk ((n:Nat) : Int) ((n+1:Nat) : Int) (xx qex (fun _=>1) x.InStep (n+1+1)))
def View.mkd (x:View)(n:Nat) : View:=(View.mk x.Epoch x.Leader (xx qex (fun _=>1) x.InStep (n)))
def View.en (x:View)(n:Nat) : Nat:=n+jf (fun _=>1) x.InStep
theorem View.mce_le (x:View) : x.mce≤100*(1+x.nn):=by
 have h0:jf (fun _=>1) x.InStep=1*x.InStep.length:=x6
 unfold View.mce
 simp only [View.nn]
 omega
theorem View.en_le {x:View}{n:Nat}(h:x.nn≤1048576) : x.en n≤n+100*x.nn:=by
 have h0:jf (fun _=>1) x.InStep=1*x.InStep.length:=x6
 simp only [View.en,View.nn] at h ⊢
 omega
def Row.mce (x:Row) : Nat:=1+1
def Row.mke (x:Row)(n:Nat) : Row:=(Row.mk ((n:Nat) : Int) ((n+1:Nat) : Int))
def Node.nn (x:Node) : Nat:=(x.View.nn+(x.Log.length+(x.Known.length+0)))
def Node.mce (x:Node) : Nat:=1+1+jf (fun _=>1) x.View.InStep+jf Row.mce x.Log+jf (fun _=>1) x.Known+1
def Node.mke (x:Node)(n:Nat) : Node:=(Node.mk (View.mk ((n:Nat) : Int) ((n+1:Nat) : Int) (xx qex (fun _=>1) x.View.InStep (n+1+1))) (xx Row.mke Row.mce x.Log (n+1+1+jf (fun _=>1) x.View.InStep)) (xx qex (fun _=>1) x.Known (n+1+1+jf (fun _=>1) x.View.InStep+jf Row.mce x.Log)) ((n+1+1+jf (fun _=>1) x.View.InStep+jf Row.mce x.Log+jf (fun _=>1) x.Known:Nat) : Int))
def Node.mkd (x:Node)(n:Nat) : Node:=(Node.mk (View.mkd x.View (n)) (xx Row.mke Row.mce x.Log (View.en x.View (n))) (xx qex (fun _=>1) x.Known (View.en x.View (n)+jf Row.mce x.Log)) x.Told)
def Node.en (x:Node)(n:Nat) : Nat:=View.en x.View (n)+jf Row.mce x.Log+jf (fun _=>1) x.Known
theorem Node.mce_le (x:Node) : x.mce≤100*(1+x.nn):=by
 have h0:jf (fun _=>1) x.View.InStep=1*x.View.InStep.length:=x6
 have h1:jf Row.mce x.Log=2*x.Log.length:=x6
 have h2:jf (fun _=>1) x.Known=1*x.Known.length:=x6
 unfold Node.mce
 simp only [Node.nn,View.nn]
 omega
theorem Node.en_le {x:Node}{n:Nat}(h:x.nn≤1048576) : x.en n≤n+100*x.nn:=by
 have h0:jf (fun _=>1) x.View.InStep=1*x.View.InStep.length:=x6
 have h1:jf Row.mce x.Log=2*x.Log.length:=x6
 have h2:jf (fun _=>1) x.Known=1*x.Known.length:=x6
 simp only [Node.en,Node.nn,View.en,View.nn] at h ⊢
 omega
def Cluster.nn (x:Cluster) : Nat:=(x.Truth.nn+((nnL Node.nn x.Nodes)+(x.Acked.length+0)))
def Cluster.mce (x:Cluster) : Nat:=1+1+jf (fun _=>1) x.Truth.InStep+jf Node.mce x.Nodes+jf Row.mce x.Acked
def Cluster.mke (x:Cluster)(n:Nat) : Cluster:=(Cluster.mk (View.mk ((n:Nat) : Int) ((n+1:Nat) : Int) (xx qex (fun _=>1) x.Truth.InStep (n+1+1))) (xx Node.mke Node.mce x.Nodes (n+1+1+jf (fun _=>1) x.Truth.InStep)) (xx Row.mke Row.mce x.Acked (n+1+1+jf (fun _=>1) x.Truth.InStep+jf Node.mce x.Nodes)))
def Cluster.mkd (x:Cluster)(n:Nat) : Cluster:=(Cluster.mk (View.mkd x.Truth (n)) (xx Node.mke Node.mce x.Nodes (View.en x.Truth (n))) (xx Row.mke Row.mce x.Acked (View.en x.Truth (n)+jf Node.mce x.Nodes)))
def Cluster.en (x:Cluster)(n:Nat) : Nat:=View.en x.Truth (n)+jf Node.mce x.Nodes+jf Row.mce x.Acked
theorem Cluster.en_le {x:Cluster}{n:Nat}(h:x.nn≤1048576) : x.en n≤n+100*x.nn:=by
 have h0:jf (fun _=>1) x.Truth.InStep=1*x.Truth.InStep.length:=x6
 have h1:=q8n (c:=Node.mce) (f:=Node.nn) (m:=100) Node.mce_le (l:=x.Nodes)
 have h2:jf Row.mce x.Acked=2*x.Acked.length:=x6
 simp only [Cluster.en,Cluster.nn,View.en,View.nn] at h ⊢
 omega
def ClusterStep.mce (x:ClusterStep) : Nat:=1+1+1+1
def ClusterStep.mke (x:ClusterStep)(n:Nat) : ClusterStep:=(ClusterStep.mk ((n:Nat) : Int) ((n+1:Nat) : Int) ((n+1+1:Nat) : Int) ((n+1+1+1:Nat) : Int))
theorem qnv {a b:List Int}(hl:a.length≤1048576) : Ev (fun k=>qcl k a b) (decide (a=b)):=by
 unfold qcl
 refine qop (fun hab=>qnj hl hab (fun i x y hx hy=>?_) ?_)
 ·unfold qbm
  have hi:i<a.length:=(i4.1 hx).1
  refine t6 (by simpa using hi) ?_
  refine r4 (jr hx) ?_
  refine r4 (jr hy) ?_
  rw [xv (by omega)]
  by_cases e:x=y
  ·rw [if_pos e]
   exact r5 (by simp [e]) o6
  ·rw [if_neg e]
   exact t6 (by simp [e]) o6
 ·unfold qbm
  exact r5 (by simp) o6
theorem qno {a b:View}(h:a.nn≤1048576) : Ev (fun k=>qck k a b) (decide (a=b)):=by
 have h:(a.InStep.length+0)≤1048576:=h
 refine qko (p:=a.Epoch=b.Epoch∧a.Leader=b.Leader∧a.InStep=b.InStep∧True) ?_ (by cases a; cases b; simp)
 unfold qck
 refine qih ?_
 refine qih ?_
 refine qfb (qnv (by omega)) ?_
 exact ql5
theorem qxv {a b:Row} : Ev (fun k=>qez a b) (decide (a=b)):=by
 refine qko (p:=a.Epoch=b.Epoch∧a.Value=b.Value∧True) ?_ (by cases a; cases b; simp)
 unfold qez
 refine qih ?_
 refine qih ?_
 exact ql5
theorem qns {a b:List Row}(hl:a.length≤1048576) : Ev (fun k=>qci k a b) (decide (a=b)):=by
 unfold qci
 refine qop (fun hab=>qnj hl hab (fun i x y hx hy=>?_) ?_)
 ·unfold qbw
  have hi:i<a.length:=(i4.1 hx).1
  refine t6 (by simpa using hi) ?_
  refine r4 (jr hx) ?_
  refine r4 (jr hy) ?_
  refine n8 (qxv) ?_
  rw [xv (by omega)]
  by_cases e:x=y
  ·rw [if_pos e]
   exact r5 (by simp [e]) o6
  ·rw [if_neg e]
   exact t6 (by simp [e]) o6
 ·unfold qbw
  exact r5 (by simp) o6
theorem qvz {a b:Node}(h:a.nn≤1048576) : Ev (fun k=>qdw k a b) (decide (a=b)):=by
 have h:(a.View.nn+(a.Log.length+(a.Known.length+0)))≤1048576:=h
 refine qko (p:=a.View=b.View∧a.Log=b.Log∧a.Known=b.Known∧a.Told=b.Told∧True) ?_ (by cases a; cases b; simp)
 unfold qdw
 refine qfb (qno (by omega)) ?_
 refine qfb (qns (by omega)) ?_
 refine qfb (qnv (by omega)) ?_
 refine qih ?_
 exact ql5
theorem qr0 {a b:List Node}(h:nnL Node.nn a≤1048576) : Ev (fun k=>qc4 k a b) (decide (a=b)):=by
 have hl:a.length≤1048576:=a05 qip h
 unfold qc4
 refine qop (fun hab=>qnj hl hab (fun i x y hx hy=>?_) ?_)
 ·unfold qa3
  have hi:i<a.length:=(i4.1 hx).1
  refine t6 (by simpa using hi) ?_
  refine r4 (jr hx) ?_
  refine r4 (jr hy) ?_
  refine n8 (qvz (a05 (qh3 hx) h)) ?_
  rw [xv (by omega)]
  by_cases e:x=y
  ·rw [if_pos e]
   exact r5 (by simp [e]) o6
  ·rw [if_neg e]
   exact t6 (by simp [e]) o6
 ·unfold qa3
  exact r5 (by simp) o6
theorem qeu {a b:Cluster}(h:a.nn≤1048576) : Ev (fun k=>wz k a b) (decide (a=b)):=by
 have h:(a.Truth.nn+((nnL Node.nn a.Nodes)+(a.Acked.length+0)))≤1048576:=h
 refine qko (p:=a.Truth=b.Truth∧a.Nodes=b.Nodes∧a.Acked=b.Acked∧True) ?_ (by cases a; cases b; simp)
 unfold wz
 refine qfb (qno (by omega)) ?_
 refine qfb (qr0 (by omega)) ?_
 refine qfb (qns (by omega)) ?_
 exact ql5
theorem qhx {l:List Int}{n:Nat}(hl:l.length≤1048576)(hn:n+jf (fun _=>1) l<4611686018427387904) : Ev (fun k=>ux k l (n:Int)) (((n+jf (fun _=>1) l:Nat) : Int),xx qex (fun _=>1) l n):=by
 unfold ux
 refine Ev.jn (qj5 (c:=(fun _=>1)) (M:=qex) hl hn (fun n i s x hn hi hx hsx hs=>?_) (fun n s hs=>?_)) (a3a rfl)
 ·try dsimp only at hn
  unfold qap
  try dsimp only
  refine t6 (by rw [hs]; simpa using hi) ?_
  refine r4 (jr hsx) ?_
  try simp (disch:=omega) only [xv]
  exact o6
 ·unfold qap
  try dsimp only
  exact r5 (by rw [hs]; simp) o6
theorem qp9 {x:View}{n:Nat}(h:x.nn≤1048576)(hn:x.en n<4611686018427387904) : Ev (fun k=>qb8 k x (n:Int)) (((x.en n:Nat) : Int),x.mkd n):=by
 simp only [View.en,View.nn] at h hn
 unfold qb8
 refine n8 (qhx (l:=x.InStep) (n:=n) (by omega) (by (try simp only [View.en,View.nn]); omega)) ?_
 exact o6
theorem qk0 {l:List Row}{n:Nat}(hl:l.length≤1048576)(hn:n+jf Row.mce l<4611686018427387904) : Ev (fun k=>qa0 k l (n:Int)) (((n+jf Row.mce l:Nat) : Int),xx Row.mke Row.mce l n):=by
 unfold qa0
 refine Ev.jn (qj5 (c:=Row.mce) (M:=Row.mke) hl hn (fun n i s x hn hi hx hsx hs=>?_) (fun n s hs=>?_)) (a3a rfl)
 ·have hc:Row.mce x=1+1:=rfl
  rw [hc] at hn
  rw [show n+Row.mce x=n+1+1 by omega]
  unfold qaf
  try dsimp only
  refine t6 (by rw [hs]; simpa using hi) ?_
  refine r4 (jr hsx) ?_
  try simp (disch:=omega) only [xv]
  exact o6
 ·unfold qaf
  try dsimp only
  exact r5 (by rw [hs]; simp) o6
theorem qpt {l:List Node}{n:Nat}(h:nnL Node.nn l≤1048576)(hn:n+jf Node.mce l<4611686018427387904) : Ev (fun k=>qbx k l (n:Int)) (((n+jf Node.mce l:Nat) : Int),xx Node.mke Node.mce l n):=by
 have hl:l.length≤1048576:=a05 qip h
 unfold qbx
 refine Ev.jn (qj5 (c:=Node.mce) (M:=Node.mke) hl hn (fun n i s x hn hi hx hsx hs=>?_) (fun n s hs=>?_)) (a3a rfl)
 ·have hc:Node.mce x=1+1+jf (fun _=>1) x.View.InStep+jf Row.mce x.Log+jf (fun _=>1) x.Known+1:=rfl
  rw [hc] at hn
  rw [show n+Node.mce x=n+1+1+jf (fun _=>1) x.View.InStep+jf Row.mce x.Log+jf (fun _=>1) x.Known+1 by omega]
  have hb:(x.View.nn+(x.Log.length+(x.Known.length+0)))≤1048576:=a05 (qh3 (f:=Node.nn) hx) h
  simp only [View.nn] at hb
  unfold u4
  try dsimp only
  refine t6 (by rw [hs]; simpa using hi) ?_
  refine r4 (jr hsx) ?_
  try simp (disch:=omega) only [xv]
  refine n8 (qhx (l:=x.View.InStep) (n:=n+1+1) (by omega) (by omega)) ?_
  try dsimp only
  try simp (disch:=omega) only [xv]
  refine n8 (qk0 (l:=x.Log) (n:=n+1+1+jf (fun _=>1) x.View.InStep) (by omega) (by omega)) ?_
  try dsimp only
  try simp (disch:=omega) only [xv]
  refine n8 (qhx (l:=x.Known) (n:=n+1+1+jf (fun _=>1) x.View.InStep+jf Row.mce x.Log) (by omega) (by omega)) ?_
  try dsimp only
  try simp (disch:=omega) only [xv]
  exact o6
 ·unfold u4
  try dsimp only
  exact r5 (by rw [hs]; simp) o6
theorem qik {x:Cluster}{n:Nat}(h:x.nn≤1048576)(hn:x.en n<4611686018427387904) : Ev (fun k=>xw k x (n:Int)) (((x.en n:Nat) : Int),x.mkd n):=by
 simp only [Cluster.en,Cluster.nn,View.en,View.nn] at h hn
 unfold xw
 refine n8 (qp9 (x:=x.Truth) (n:=n) (by simp only [Cluster.en,Cluster.nn,View.en,View.nn]; omega) (by simp only [Cluster.en,Cluster.nn,View.en,View.nn]; omega)) ?_
 refine n8 (qpt (l:=x.Nodes) (n:=View.en x.Truth (n)) (by omega) (by (try simp only [Cluster.en,Cluster.nn,View.en,View.nn]); omega)) ?_
 refine n8 (qk0 (l:=x.Acked) (n:=View.en x.Truth (n)+jf Node.mce x.Nodes) (by omega) (by (try simp only [Cluster.en,Cluster.nn,View.en,View.nn]); omega)) ?_
 exact o6
theorem qhp {l:List Int}{n:Nat}(hl:l.length≤1048576)(hn:n+jf (fun _=>1) l<4611686018427387904) : Ev (fun k=>uu k (xx qex (fun _=>1) l n) (n:Int)) ((n+jf (fun _=>1) l:Nat) : Int):=by
 unfold uu
 refine Ev.jn (qj4 (l:=l) (c:=(fun _=>1)) hl hn (fun i x hx hn=>?_) (fun n=>?_)) (a3a rfl)
 ·have hg:=qix (M:=qex) (c:=(fun _=>1)) (n:=n) hx
  have hi:i<l.length:=(i4.1 hx).1
  generalize n+jf (fun _=>1) (l.take i)=n at hg hn ⊢
  try dsimp only at hn
  unfold qah
  try dsimp only
  refine t6 (by rw [qbe]; simpa using hi) ?_
  try simp (disch:=omega) only [xv]
  refine r4 (jr hg) ?_
  refine r5 (by simp [qex]) ?_
  exact o6
 ·unfold qah
  try dsimp only
  exact r5 (by rw [qbe]; simp) o6
theorem qql {x:View}{n:Nat}(h:x.nn≤1048576)(hn:x.en n<4611686018427387904) : Ev (fun k=>qcc k (x.mkd n) (n:Int)) ((x.en n:Nat) : Int):=by
 simp only [View.en,View.nn] at h hn
 unfold qcc
 refine n8 (qhp (l:=x.InStep) (n:=n) (by omega) (by (try simp only [View.en,View.nn]); omega)) ?_
 refine r5 (by simp only [decide_eq_false_iff_not]; omega) ?_
 exact o6
theorem qk3 {l:List Row}{n:Nat}(hl:l.length≤1048576)(hn:n+jf Row.mce l<4611686018427387904) : Ev (fun k=>qay k (xx Row.mke Row.mce l n) (n:Int)) ((n+jf Row.mce l:Nat) : Int):=by
 unfold qay
 refine Ev.jn (qj4 (l:=l) (c:=Row.mce) hl hn (fun i x hx hn=>?_) (fun n=>?_)) (a3a rfl)
 ·have hg:=qix (M:=Row.mke) (c:=Row.mce) (n:=n) hx
  have hi:i<l.length:=(i4.1 hx).1
  generalize n+jf Row.mce (l.take i)=n at hg hn ⊢
  have hc:Row.mce x=1+1:=rfl
  rw [hc] at hn
  rw [show n+Row.mce x=n+1+1 by omega]
  unfold qal
  try dsimp only
  refine t6 (by rw [qbe]; simpa using hi) ?_
  try simp (disch:=omega) only [xv]
  refine r4 (jr hg) ?_
  refine r5 (by simp [Row.mke]) ?_
  refine r4 (jr hg) ?_
  refine r5 (by simp [Row.mke]) ?_
  exact o6
 ·unfold qal
  try dsimp only
  exact r5 (by rw [qbe]; simp) o6
theorem qov {l:List Node}{n:Nat}(h:nnL Node.nn l≤1048576)(hn:n+jf Node.mce l<4611686018427387904) : Ev (fun k=>qbs k (xx Node.mke Node.mce l n) (n:Int)) ((n+jf Node.mce l:Nat) : Int):=by
 have hl:l.length≤1048576:=a05 qip h
 unfold qbs
 refine Ev.jn (qj4 (l:=l) (c:=Node.mce) hl hn (fun i x hx hn=>?_) (fun n=>?_)) (a3a rfl)
 ·have hg:=qix (M:=Node.mke) (c:=Node.mce) (n:=n) hx
  have hi:i<l.length:=(i4.1 hx).1
  generalize n+jf Node.mce (l.take i)=n at hg hn ⊢
  have hc:Node.mce x=1+1+jf (fun _=>1) x.View.InStep+jf Row.mce x.Log+jf (fun _=>1) x.Known+1:=rfl
  rw [hc] at hn
  rw [show n+Node.mce x=n+1+1+jf (fun _=>1) x.View.InStep+jf Row.mce x.Log+jf (fun _=>1) x.Known+1 by omega]
  have hb:(x.View.nn+(x.Log.length+(x.Known.length+0)))≤1048576:=a05 (qh3 (f:=Node.nn) hx) h
  simp only [View.nn] at hb
  unfold u2
  try dsimp only
  refine t6 (by rw [qbe]; simpa using hi) ?_
  try simp (disch:=omega) only [xv]
  refine r4 (jr hg) ?_
  refine r5 (by simp [Node.mke]) ?_
  refine r4 (jr hg) ?_
  refine r5 (by simp [Node.mke]) ?_
  refine r4 (jr hg) ?_
  refine n8 (qhp (l:=x.View.InStep) (n:=n+1+1) (by omega) (by omega)) ?_
  refine r5 (by simp only [decide_eq_false_iff_not]; omega) ?_
  try simp (disch:=omega) only [xv]
  refine r4 (jr hg) ?_
  refine n8 (qk3 (l:=x.Log) (n:=n+1+1+jf (fun _=>1) x.View.InStep) (by omega) (by omega)) ?_
  refine r5 (by simp only [decide_eq_false_iff_not]; omega) ?_
  try simp (disch:=omega) only [xv]
  refine r4 (jr hg) ?_
  refine n8 (qhp (l:=x.Known) (n:=n+1+1+jf (fun _=>1) x.View.InStep+jf Row.mce x.Log) (by omega) (by omega)) ?_
  refine r5 (by simp only [decide_eq_false_iff_not]; omega) ?_
  try simp (disch:=omega) only [xv]
  refine r4 (jr hg) ?_
  refine r5 (by simp [Node.mke]) ?_
  exact o6
 ·unfold u2
  try dsimp only
  exact r5 (by rw [qbe]; simp) o6
theorem qh1 {x:Cluster}{n:Nat}(h:x.nn≤1048576)(hn:x.en n<4611686018427387904) : Ev (fun k=>xu k (x.mkd n) (n:Int)) ((x.en n:Nat) : Int):=by
 simp only [Cluster.en,Cluster.nn,View.en,View.nn] at h hn
 unfold xu
 refine n8 (qql (x:=x.Truth) (n:=n) (by simp only [Cluster.en,Cluster.nn,View.en,View.nn]; omega) (by simp only [Cluster.en,Cluster.nn,View.en,View.nn]; omega)) ?_
 refine r5 (by simp only [decide_eq_false_iff_not]; omega) ?_
 refine n8 (qov (l:=x.Nodes) (n:=View.en x.Truth (n)) (by omega) (by (try simp only [Cluster.en,Cluster.nn,View.en,View.nn]); omega)) ?_
 refine r5 (by simp only [decide_eq_false_iff_not]; omega) ?_
 refine n8 (qk3 (l:=x.Acked) (n:=View.en x.Truth (n)+jf Node.mce x.Nodes) (by omega) (by (try simp only [Cluster.en,Cluster.nn,View.en,View.nn]); omega)) ?_
 refine r5 (by simp only [decide_eq_false_iff_not]; omega) ?_
 exact o6
theorem qnn {l:List Int}{left:Int}(hl:l.length≤4611686018427387904)(h0:0≤left)(h1:left≤1048576) : Ev (fun k=>qcr l left) (szr l.length left):=by
 unfold qcr
 exact a3a (qoo hl h0 h1)
theorem qny {x:View}{left:Int}(w:x.wf)(h0:0≤left)(h1:left≤1048576) : Ev (fun k=>qcp x left) (szr x.nn left):=by
 unfold qcp
 refine qee h0 (qnn (by have:=w.2.2.1; omega) h0 (by omega)) (fun v0 b0 c0=>?_)
 exact a3a (by rw [qxe b0])
theorem qn0 {l:List Row}{left:Int}(hl:l.length≤4611686018427387904)(h0:0≤left)(h1:left≤1048576) : Ev (fun k=>qcj l left) (szr l.length left):=by
 unfold qcj
 exact a3a (qoo hl h0 h1)
theorem qtn {x:Node}{left:Int}(w:x.wf)(h0:0≤left)(h1:left≤1048576) : Ev (fun k=>qdz x left) (szr x.nn left):=by
 unfold qdz
 refine qee h0 (qny w.1 h0 (by omega)) (fun v0 b0 c0=>?_)
 refine qee b0 (qn0 (by have:=w.2.1.1; omega) b0 (by omega)) (fun v1 b1 c1=>?_)
 refine qee b1 (qnn (by have:=w.2.2.1.1; omega) b1 (by omega)) (fun v2 b2 c2=>?_)
 exact a3a (by rw [qxe b2])
theorem qrs {l:List Node}{left:Int}(w:wfL 96 Node.wf l)(h0:0≤left)(h1:left≤1048576) : Ev (fun k=>qcz k l left) (szr (nnL Node.nn l) left):=by
 unfold qcz
 refine q98 (by have:=w.1; omega) h0 h1 (fun hl h2=>?_)
 rw [qbt (by omega) (by omega)]
 refine zba hl h2 (by omega) (fun i x s hx hs0 hs1=>?_) (fun s=>?_)
 ·unfold qbd
  have hi:i<l.length:=(i4.1 hx).1
  refine t6 (by simpa using hi) ?_
  refine r4 (jr hx) ?_
  refine n8 (qtn (w.2 _ (List.mem_of_getElem? hx)) hs0 hs1) ?_
  unfold szr
  by_cases hc:(x.nn:Int)≤s
  ·rw [if_pos hc,if_pos hc]
   refine r5 (by simp only [decide_eq_false_iff_not]; omega) ?_
   rw [xv (by omega)]
   exact o6
  ·rw [if_neg hc,if_neg hc]
   exact t6 (by decide) o6
 ·unfold qbd
  exact r5 (by simp) o6
theorem qps {x:Cluster}{left:Int}(w:x.wf)(h0:0≤left)(h1:left≤1048576) : Ev (fun k=>qbp k x left) (szr x.nn left):=by
 unfold qbp
 refine qee h0 (qny w.1 h0 (by omega)) (fun v0 b0 c0=>?_)
 refine qee b0 (qrs w.2.1 b0 (by omega)) (fun v1 b1 c1=>?_)
 refine qee b1 (qn0 (by have:=w.2.2.1; omega) b1 (by omega)) (fun v2 b2 c2=>?_)
 exact a3a (by rw [qxe b2])
theorem qnt {l:List Int}(hl:l.length≤1048576) : Ev (fun k=>qcm k l) l:=by
 unfold qcm
 refine r4 (qjw (by omega)) ?_
 refine Ev.jn (s:=((l.length:Int),l)) (qm9 hl (fun i s x y hx hy=>?_) (fun s=>?_)) (a3a rfl)
 ·unfold qbo
  have hi:i<l.length:=(i4.1 hx).1
  refine t6 (by simpa using hi) ?_
  refine r4 (jr hx) ?_
  refine r4 (jr hy) ?_
  rw [xv (by omega)]
  exact o6
 ·unfold qbo
  exact r5 (by simp) o6
theorem qnp {x:View}(h:x.nn≤1048576) : Ev (fun k=>qcq k x) x:=by
 have h:(x.InStep.length+0)≤1048576:=h
 unfold qcq
 refine n8 (qnt (by omega)) ?_
 exact o6
theorem qnr {l:List Row}(hl:l.length≤1048576) : Ev (fun k=>qch k l) l:=by
 unfold qch
 refine r4 (qjw (by omega)) ?_
 refine Ev.jn (s:=((l.length:Int),l)) (qm9 hl (fun i s x y hx hy=>?_) (fun s=>?_)) (a3a rfl)
 ·unfold qbr
  have hi:i<l.length:=(i4.1 hx).1
  refine t6 (by simpa using hi) ?_
  refine r4 (jr hx) ?_
  refine r4 (jr hy) ?_
  rw [xv (by omega)]
  exact o6
 ·unfold qbr
  exact r5 (by simp) o6
theorem qvt {x:Node}(h:x.nn≤1048576) : Ev (fun k=>qdx k x) x:=by
 have h:(x.View.nn+(x.Log.length+(x.Known.length+0)))≤1048576:=h
 unfold qdx
 refine n8 (qnp (by omega)) ?_
 refine n8 (qnr (by omega)) ?_
 refine n8 (qnt (by omega)) ?_
 exact o6
theorem qrv {l:List Node}(h:nnL Node.nn l≤1048576) : Ev (fun k=>qc3 k l) l:=by
 have hl:l.length≤1048576:=a05 qip h
 unfold qc3
 refine r4 (qjw (by omega)) ?_
 refine Ev.jn (s:=((l.length:Int),l)) (qm9 hl (fun i s x y hx hy=>?_) (fun s=>?_)) (a3a rfl)
 ·unfold qa9
  have hi:i<l.length:=(i4.1 hx).1
  refine t6 (by simpa using hi) ?_
  refine r4 (jr hx) ?_
  refine n8 (qvt (a05 (qh3 hx) h)) ?_
  refine r4 (jr hy) ?_
  rw [xv (by omega)]
  exact o6
 ·unfold qa9
  exact r5 (by simp) o6
theorem qel {x:Cluster}(h:x.nn≤1048576) : Ev (fun k=>w6 k x) x:=by
 have h:(x.Truth.nn+((nnL Node.nn x.Nodes)+(x.Acked.length+0)))≤1048576:=h
 unfold w6
 refine n8 (qnp (by omega)) ?_
 refine n8 (qrv (by omega)) ?_
 refine n8 (qnr (by omega)) ?_
 exact o6
end Go.Proofs.Ytohofoampalhoaa.X
