/- The laws' own walks: sizes, copies, comparisons, marks. -/
import Derived.Test.YtanblnjomhgphaaXAD
import Derived.Test.YtanblnjomhgphaaXAW
import Derived.Test.YtanblnjomhgphaaZLib2
open Go.Proofs.Ytanblnjomhgphaa.X.Ev renaming bindp→t7,bind→a0a,iteF→t3,iteT→a0e,jn→a3h,of→a2p,rfl→a0b
open Int renaming tmod→a1l
open List renaming getElem?_eq_some_iff→o7
open Nat renaming le_trans→a06
set_option linter.unusedVariables false
set_option linter.unusedSimpArgs false
set_option maxRecDepth 100000
namespace Go.Proofs.Ytanblnjomhgphaa.X
open Go
def qip (_:Int)(n:Nat) : Int:=(n:Int)
def qly (_:Bool)(n:Nat) : Bool:=decide (a1l (n:Int) 3=0)
def RaftStep.mce (x:RaftStep) : Nat:=1+1+1+1
def RaftStep.mke (x:RaftStep)(n:Nat) : RaftStep:=(RaftStep.mk ((n:Nat) : Int) ((n+1:Nat) : Int) ((n+1+1:Nat) : Int) ((n+1+1+1:Nat) : Int))
def Entry.mce (x:Entry) : Nat:=1+1
def Entry.mke (x:Entry)(n:Nat) : Entry:=(Entry.mk ((n:Nat) : Int) ((n+1:Nat) : Int))
def Peer.nn (x:Peer) : Nat:=(x.Log.length+(x.Match.length+0))
def Peer.mce (x:Peer) : Nat:=1+1+z2 Entry.mce x.Log+1+z2 (fun _=>1) x.Match
def Peer.mke (x:Peer)(n:Nat) : Peer:=(Peer.mk ((n:Nat) : Int) (decide (a1l ((n+1:Nat) : Int) 3=0)) (xb Entry.mke Entry.mce x.Log (n+1+1)) ((n+1+1+z2 Entry.mce x.Log:Nat) : Int) (xb qip (fun _=>1) x.Match (n+1+1+z2 Entry.mce x.Log+1)))
def Peer.mkd (x:Peer)(n:Nat) : Peer:=(Peer.mk x.Term x.Leads (xb Entry.mke Entry.mce x.Log (n)) x.Commit (xb qip (fun _=>1) x.Match (n+z2 Entry.mce x.Log)))
def Peer.en (x:Peer)(n:Nat) : Nat:=n+z2 Entry.mce x.Log+z2 (fun _=>1) x.Match
theorem Peer.mce_le (x:Peer) : x.mce≤100*(1+x.nn):=by
 have h0:z2 Entry.mce x.Log=2*x.Log.length:=qa7
 have h1:z2 (fun _=>1) x.Match=1*x.Match.length:=qa7
 unfold Peer.mce
 simp only [Peer.nn]
 omega
theorem Peer.en_le {x:Peer}{n:Nat}(h:x.nn≤1048576) : x.en n≤n+100*x.nn:=by
 have h0:z2 Entry.mce x.Log=2*x.Log.length:=qa7
 have h1:z2 (fun _=>1) x.Match=1*x.Match.length:=qa7
 simp only [Peer.en,Peer.nn] at h ⊢
 omega
def Mail.nn (x:Mail) : Nat:=(x.Entry.length+0)
def Mail.mce (x:Mail) : Nat:=1+1+1+1+1+1+z2 Entry.mce x.Entry+1+1
def Mail.mke (x:Mail)(n:Nat) : Mail:=(Mail.mk (decide (a1l ((n:Nat) : Int) 3=0)) ((n+1:Nat) : Int) ((n+1+1:Nat) : Int) ((n+1+1+1:Nat) : Int) ((n+1+1+1+1:Nat) : Int) ((n+1+1+1+1+1:Nat) : Int) (xb Entry.mke Entry.mce x.Entry (n+1+1+1+1+1+1)) ((n+1+1+1+1+1+1+z2 Entry.mce x.Entry:Nat) : Int) ((n+1+1+1+1+1+1+z2 Entry.mce x.Entry+1:Nat) : Int))
def Mail.mkd (x:Mail)(n:Nat) : Mail:=(Mail.mk x.Reply x.From x.To x.Term x.Prev x.PTerm (xb Entry.mke Entry.mce x.Entry (n)) x.Commit x.Match)
def Mail.en (x:Mail)(n:Nat) : Nat:=n+z2 Entry.mce x.Entry
theorem Mail.mce_le (x:Mail) : x.mce≤100*(1+x.nn):=by
 have h0:z2 Entry.mce x.Entry=2*x.Entry.length:=qa7
 unfold Mail.mce
 simp only [Mail.nn]
 omega
theorem Mail.en_le {x:Mail}{n:Nat}(h:x.nn≤1048576) : x.en n≤n+100*x.nn:=by
 have h0:z2 Entry.mce x.Entry=2*x.Entry.length:=qa7
 simp only [Mail.en,Mail.nn] at h ⊢
 omega
def Raft.nn (x:Raft) : Nat:=((nnL Peer.nn x.Peers)+((nnL Mail.nn x.Mail)+0))
def Raft.mce (x:Raft) : Nat:=z2 Peer.mce x.Peers+z2 Mail.mce x.Mail
def Raft.mke (x:Raft)(n:Nat) : Raft:=(Raft.mk (xb Peer.mke Peer.mce x.Peers (n)) (xb Mail.mke Mail.mce x.Mail (n+z2 Peer.mce x.Peers)))
def Raft.mkd (x:Raft)(n:Nat) : Raft:=(Raft.mk (xb Peer.mke Peer.mce x.Peers (n)) (xb Mail.mke Mail.mce x.Mail (n+z2 Peer.mce x.Peers)))
def Raft.en (x:Raft)(n:Nat) : Nat:=n+z2 Peer.mce x.Peers+z2 Mail.mce x.Mail
theorem Raft.en_le {x:Raft}{n:Nat}(h:x.nn≤1048576) : x.en n≤n+100*x.nn:=by
 have h0:=qp8 (c:=Peer.mce) (f:=Peer.nn) (m:=100) Peer.mce_le (l:=x.Peers)
 have h1:=qp8 (c:=Mail.mce) (f:=Mail.nn) (m:=100) Mail.mce_le (l:=x.Mail)
 simp only [Raft.en,Raft.nn] at h ⊢
 omega
theorem qmm {l:List RaftStep}{left:Int}(hl:l.length≤4611686018427387904)(h0:0≤left)(h1:left≤1048576) : Ev (fun k=>qaf l left) (szr l.length left):=by
 unfold qaf
 exact a2p (qz3 hl h0 h1)
theorem qdk {l:List RaftStep}(hl:l.length≤1048576) : Ev (fun k=>wh k l) l:=by
 unfold wh
 refine t7 (qjf (by omega)) ?_
 refine a3h (s:=((l.length:Int),l)) (za1 hl (fun i s x y hx hy=>?_) (fun s=>?_)) (a2p rfl)
 ·unfold xn
  have hi:i<l.length:=(o7.1 hx).1
  refine a0e (by simpa using hi) ?_
  refine t7 (jd hx) ?_
  refine t7 (jd hy) ?_
  rw [u7 (by omega)]
  exact a0b
 ·unfold xn
  exact t3 (by simp) a0b
theorem qq4 {a b:Entry} : Ev (fun k=>qc2 a b) (decide (a=b)):=by
 refine qid (p:=a.Term=b.Term∧a.Value=b.Value∧True) ?_ (by cases a; cases b; simp)
 unfold qc2
 refine xu ?_
 refine xu ?_
 exact qjh
theorem qkg {a b:List Entry}(hl:a.length≤1048576) : Ev (fun k=>qax k a b) (decide (a=b)):=by
 unfold qax
 refine qic (fun hab=>qgv hl hab (fun i x y hx hy=>?_) ?_)
 ·unfold qan
  have hi:i<a.length:=(o7.1 hx).1
  refine a0e (by simpa using hi) ?_
  refine t7 (jd hx) ?_
  refine t7 (jd hy) ?_
  refine a0a (qq4) ?_
  rw [u7 (by omega)]
  by_cases e:x=y
  ·rw [if_pos e]
   exact t3 (by simp [e]) a0b
  ·rw [if_neg e]
   exact a0e (by simp [e]) a0b
 ·unfold qan
  exact t3 (by simp) a0b
theorem quh {a b:List Int}(hl:a.length≤1048576) : Ev (fun k=>qdv k a b) (decide (a=b)):=by
 unfold qdv
 refine qic (fun hab=>qgv hl hab (fun i x y hx hy=>?_) ?_)
 ·unfold qb9
  have hi:i<a.length:=(o7.1 hx).1
  refine a0e (by simpa using hi) ?_
  refine t7 (jd hx) ?_
  refine t7 (jd hy) ?_
  rw [u7 (by omega)]
  by_cases e:x=y
  ·rw [if_pos e]
   exact t3 (by simp [e]) a0b
  ·rw [if_neg e]
   exact a0e (by simp [e]) a0b
 ·unfold qb9
  exact t3 (by simp) a0b
theorem qzr {a b:Peer}(h:a.nn≤1048576) : Ev (fun k=>qdw k a b) (decide (a=b)):=by
 have h:(a.Log.length+(a.Match.length+0))≤1048576:=h
 refine qid (p:=a.Term=b.Term∧a.Leads=b.Leads∧a.Log=b.Log∧a.Commit=b.Commit∧a.Match=b.Match∧True) ?_ (by cases a; cases b; simp)
 unfold qdw
 refine xu ?_
 refine qqj ?_
 refine qib (qkg (by omega)) ?_
 refine xu ?_
 refine qib (quh (by omega)) ?_
 exact qjh
theorem qrk {a b:List Peer}(h:nnL Peer.nn a≤1048576) : Ev (fun k=>qc7 k a b) (decide (a=b)):=by
 have hl:a.length≤1048576:=a06 qgu h
 unfold qc7
 refine qic (fun hab=>qgv hl hab (fun i x y hx hy=>?_) ?_)
 ·unfold qbb
  have hi:i<a.length:=(o7.1 hx).1
  refine a0e (by simpa using hi) ?_
  refine t7 (jd hx) ?_
  refine t7 (jd hy) ?_
  refine a0a (qzr (a06 (qgs hx) h)) ?_
  rw [u7 (by omega)]
  by_cases e:x=y
  ·rw [if_pos e]
   exact t3 (by simp [e]) a0b
  ·rw [if_neg e]
   exact a0e (by simp [e]) a0b
 ·unfold qbb
  exact t3 (by simp) a0b
theorem qxu {a b:Mail}(h:a.nn≤1048576) : Ev (fun k=>qdx k a b) (decide (a=b)):=by
 have h:(a.Entry.length+0)≤1048576:=h
 refine qid (p:=a.Reply=b.Reply∧a.From=b.From∧a.To=b.To∧a.Term=b.Term∧a.Prev=b.Prev∧a.PTerm=b.PTerm∧a.Entry=b.Entry∧a.Commit=b.Commit∧a.Match=b.Match∧True) ?_ (by cases a; cases b; simp)
 unfold qdx
 refine qqj ?_
 refine xu ?_
 refine xu ?_
 refine xu ?_
 refine xu ?_
 refine xu ?_
 refine qib (qkg (by omega)) ?_
 refine xu ?_
 refine xu ?_
 exact qjh
theorem qqp {a b:List Mail}(h:nnL Mail.nn a≤1048576) : Ev (fun k=>qc8 k a b) (decide (a=b)):=by
 have hl:a.length≤1048576:=a06 qgu h
 unfold qc8
 refine qic (fun hab=>qgv hl hab (fun i x y hx hy=>?_) ?_)
 ·unfold qa9
  have hi:i<a.length:=(o7.1 hx).1
  refine a0e (by simpa using hi) ?_
  refine t7 (jd hx) ?_
  refine t7 (jd hy) ?_
  refine a0a (qxu (a06 (qgs hx) h)) ?_
  rw [u7 (by omega)]
  by_cases e:x=y
  ·rw [if_pos e]
   exact t3 (by simp [e]) a0b
  ·rw [if_neg e]
   exact a0e (by simp [e]) a0b
 ·unfold qa9
  exact t3 (by simp) a0b
theorem qjt {a b:Raft}(h:a.nn≤1048576) : Ev (fun k=>qbi k a b) (decide (a=b)):=by
 have h:((nnL Peer.nn a.Peers)+((nnL Mail.nn a.Mail)+0))≤1048576:=h
 refine qid (p:=a.Peers=b.Peers∧a.Mail=b.Mail∧True) ?_ (by cases a; cases b; simp)
 unfold qbi
 refine qib (qrk (by omega)) ?_
 refine qib (qqp (by omega)) ?_
 exact qjh
theorem qi3 {a b:List Bool}(hl:a.length≤1048576) : Ev (fun k=>qaq k a b) (decide (a=b)):=by
 unfold qaq
 refine qic (fun hab=>qgv hl hab (fun i x y hx hy=>?_) ?_)
 ·unfold qa8
  have hi:i<a.length:=(o7.1 hx).1
  refine a0e (by simpa using hi) ?_
  refine t7 (jd hx) ?_
  refine t7 (jd hy) ?_
  rw [u7 (by omega)]
  by_cases e:x=y
  ·rw [if_pos e]
   exact t3 (by simp [e]) a0b
  ·rw [if_neg e]
   exact a0e (by simp [e]) a0b
 ·unfold qa8
  exact t3 (by simp) a0b
theorem qnw {a b:RaftStep} : Ev (fun k=>qaz a b) (decide (a=b)):=by
 refine qid (p:=a.Kind=b.Kind∧a.K=b.K∧a.To=b.To∧a.N=b.N∧True) ?_ (by cases a; cases b; simp)
 unfold qaz
 refine xu ?_
 refine xu ?_
 refine xu ?_
 refine xu ?_
 exact qjh
theorem qm1 {a b:List RaftStep}(hl:a.length≤1048576) : Ev (fun k=>qal k a b) (decide (a=b)):=by
 unfold qal
 refine qic (fun hab=>qgv hl hab (fun i x y hx hy=>?_) ?_)
 ·unfold xp
  have hi:i<a.length:=(o7.1 hx).1
  refine a0e (by simpa using hi) ?_
  refine t7 (jd hx) ?_
  refine t7 (jd hy) ?_
  refine a0a (qnw) ?_
  rw [u7 (by omega)]
  by_cases e:x=y
  ·rw [if_pos e]
   exact t3 (by simp [e]) a0b
  ·rw [if_neg e]
   exact a0e (by simp [e]) a0b
 ·unfold xp
  exact t3 (by simp) a0b
theorem qkx {l:List RaftStep}{n:Nat}(hl:l.length≤1048576)(hn:n+z2 RaftStep.mce l<4611686018427387904) : Ev (fun k=>uf k l (n:Int)) (((n+z2 RaftStep.mce l:Nat) : Int),xb RaftStep.mke RaftStep.mce l n):=by
 unfold uf
 refine a3h (qem (c:=RaftStep.mce) (M:=RaftStep.mke) hl hn (fun n i s x hn hi hx hsx hs=>?_) (fun n s hs=>?_)) (a2p rfl)
 ·have hc:RaftStep.mce x=1+1+1+1:=rfl
  rw [hc] at hn
  rw [show n+RaftStep.mce x=n+1+1+1+1 by omega]
  unfold w8
  try dsimp only
  refine a0e (by rw [hs]; simpa using hi) ?_
  refine t7 (jd hsx) ?_
  try simp (config:={ maxSteps:=4000000 }) (disch:=omega) only [u7]
  exact a0b
 ·unfold w8
  try dsimp only
  exact t3 (by rw [hs]; simp) a0b
theorem qi7 {l:List Entry}{n:Nat}(hl:l.length≤1048576)(hn:n+z2 Entry.mce l<4611686018427387904) : Ev (fun k=>uj k l (n:Int)) (((n+z2 Entry.mce l:Nat) : Int),xb Entry.mke Entry.mce l n):=by
 unfold uj
 refine a3h (qem (c:=Entry.mce) (M:=Entry.mke) hl hn (fun n i s x hn hi hx hsx hs=>?_) (fun n s hs=>?_)) (a2p rfl)
 ·have hc:Entry.mce x=1+1:=rfl
  rw [hc] at hn
  rw [show n+Entry.mce x=n+1+1 by omega]
  unfold ud
  try dsimp only
  refine a0e (by rw [hs]; simpa using hi) ?_
  refine t7 (jd hsx) ?_
  try simp (config:={ maxSteps:=4000000 }) (disch:=omega) only [u7]
  exact a0b
 ·unfold ud
  try dsimp only
  exact t3 (by rw [hs]; simp) a0b
theorem qpu {l:List Int}{n:Nat}(hl:l.length≤1048576)(hn:n+z2 (fun _=>1) l<4611686018427387904) : Ev (fun k=>qcp k l (n:Int)) (((n+z2 (fun _=>1) l:Nat) : Int),xb qip (fun _=>1) l n):=by
 unfold qcp
 refine a3h (qem (c:=(fun _=>1)) (M:=qip) hl hn (fun n i s x hn hi hx hsx hs=>?_) (fun n s hs=>?_)) (a2p rfl)
 ·try dsimp only at hn
  unfold qae
  try dsimp only
  refine a0e (by rw [hs]; simpa using hi) ?_
  refine t7 (jd hsx) ?_
  try simp (config:={ maxSteps:=4000000 }) (disch:=omega) only [u7]
  exact a0b
 ·unfold qae
  try dsimp only
  exact t3 (by rw [hs]; simp) a0b
theorem qpd {l:List Peer}{n:Nat}(h:nnL Peer.nn l≤1048576)(hn:n+z2 Peer.mce l<4611686018427387904) : Ev (fun k=>qb3 k l (n:Int)) (((n+z2 Peer.mce l:Nat) : Int),xb Peer.mke Peer.mce l n):=by
 have hl:l.length≤1048576:=a06 qgu h
 unfold qb3
 refine a3h (qem (c:=Peer.mce) (M:=Peer.mke) hl hn (fun n i s x hn hi hx hsx hs=>?_) (fun n s hs=>?_)) (a2p rfl)
 ·have hc:Peer.mce x=1+1+z2 Entry.mce x.Log+1+z2 (fun _=>1) x.Match:=rfl
  rw [hc] at hn
  rw [show n+Peer.mce x=n+1+1+z2 Entry.mce x.Log+1+z2 (fun _=>1) x.Match by omega]
  have hb:(x.Log.length+(x.Match.length+0))≤1048576:=a06 (qgs (f:=Peer.nn) hx) h
  unfold u5
  try dsimp only
  refine a0e (by rw [hs]; simpa using hi) ?_
  refine t7 (jd hsx) ?_
  try simp (config:={ maxSteps:=4000000 }) (disch:=omega) only [u7]
  refine a0a (qi7 (l:=x.Log) (n:=n+1+1) (by omega) (by omega)) ?_
  try dsimp only
  try simp (config:={ maxSteps:=4000000 }) (disch:=omega) only [u7]
  refine a0a (qpu (l:=x.Match) (n:=n+1+1+z2 Entry.mce x.Log+1) (by omega) (by omega)) ?_
  try dsimp only
  try simp (config:={ maxSteps:=4000000 }) (disch:=omega) only [u7]
  exact a0b
 ·unfold u5
  try dsimp only
  exact t3 (by rw [hs]; simp) a0b
theorem qoj {l:List Mail}{n:Nat}(h:nnL Mail.nn l≤1048576)(hn:n+z2 Mail.mce l<4611686018427387904) : Ev (fun k=>qb5 k l (n:Int)) (((n+z2 Mail.mce l:Nat) : Int),xb Mail.mke Mail.mce l n):=by
 have hl:l.length≤1048576:=a06 qgu h
 unfold qb5
 refine a3h (qem (c:=Mail.mce) (M:=Mail.mke) hl hn (fun n i s x hn hi hx hsx hs=>?_) (fun n s hs=>?_)) (a2p rfl)
 ·have hc:Mail.mce x=1+1+1+1+1+1+z2 Entry.mce x.Entry+1+1:=rfl
  rw [hc] at hn
  rw [show n+Mail.mce x=n+1+1+1+1+1+1+z2 Entry.mce x.Entry+1+1 by omega]
  have hb:(x.Entry.length+0)≤1048576:=a06 (qgs (f:=Mail.nn) hx) h
  unfold uv
  try dsimp only
  refine a0e (by rw [hs]; simpa using hi) ?_
  refine t7 (jd hsx) ?_
  try simp (config:={ maxSteps:=4000000 }) (disch:=omega) only [u7]
  refine a0a (qi7 (l:=x.Entry) (n:=n+1+1+1+1+1+1) (by omega) (by omega)) ?_
  try dsimp only
  try simp (config:={ maxSteps:=4000000 }) (disch:=omega) only [u7]
  exact a0b
 ·unfold uv
  try dsimp only
  exact t3 (by rw [hs]; simp) a0b
theorem qpi {x:Raft}{n:Nat}(h:x.nn≤1048576)(hn:x.en n<4611686018427387904) : Ev (fun k=>qcn k x (n:Int)) (((x.en n:Nat) : Int),x.mkd n):=by
 simp only [Raft.en,Raft.nn] at h hn
 unfold qcn
 refine a0a (qpd (l:=x.Peers) (n:=n) (by omega) (by (try simp only [Raft.en,Raft.nn]); omega)) ?_
 refine a0a (qoj (l:=x.Mail) (n:=n+z2 Peer.mce x.Peers) (by omega) (by (try simp only [Raft.en,Raft.nn]); omega)) ?_
 exact a0b
theorem qor {l:List Bool}{n:Nat}(hl:l.length≤1048576)(hn:n+z2 (fun _=>1) l<4611686018427387904) : Ev (fun k=>qb1 k l (n:Int)) (((n+z2 (fun _=>1) l:Nat) : Int),xb qly (fun _=>1) l n):=by
 unfold qb1
 refine a3h (qem (c:=(fun _=>1)) (M:=qly) hl hn (fun n i s x hn hi hx hsx hs=>?_) (fun n s hs=>?_)) (a2p rfl)
 ·try dsimp only at hn
  unfold u0
  try dsimp only
  refine a0e (by rw [hs]; simpa using hi) ?_
  refine t7 (jd hsx) ?_
  try simp (config:={ maxSteps:=4000000 }) (disch:=omega) only [u7]
  exact a0b
 ·unfold u0
  try dsimp only
  exact t3 (by rw [hs]; simp) a0b
theorem qi8 {l:List Entry}{n:Nat}(hl:l.length≤1048576)(hn:n+z2 Entry.mce l<4611686018427387904) : Ev (fun k=>uk k (xb Entry.mke Entry.mce l n) (n:Int)) ((n+z2 Entry.mce l:Nat) : Int):=by
 unfold uk
 refine a3h (qfy (l:=l) (c:=Entry.mce) hl hn (fun i x hx hn=>?_) (fun n=>?_)) (a2p rfl)
 ·have hg:=qfl (M:=Entry.mke) (c:=Entry.mce) (n:=n) hx
  have hi:i<l.length:=(o7.1 hx).1
  generalize n+z2 Entry.mce (l.take i)=n at hg hn ⊢
  have hc:Entry.mce x=1+1:=rfl
  rw [hc] at hn
  rw [show n+Entry.mce x=n+1+1 by omega]
  unfold x9
  try dsimp only
  refine a0e (by rw [wu]; simpa using hi) ?_
  try simp (config:={ maxSteps:=4000000 }) (disch:=omega) only [u7]
  refine t7 (jd hg) ?_
  refine t3 (by simp [Entry.mke]) ?_
  refine t7 (jd hg) ?_
  refine t3 (by simp [Entry.mke]) ?_
  exact a0b
 ·unfold x9
  try dsimp only
  exact t3 (by rw [wu]; simp) a0b
theorem qph {l:List Int}{n:Nat}(hl:l.length≤1048576)(hn:n+z2 (fun _=>1) l<4611686018427387904) : Ev (fun k=>qco k (xb qip (fun _=>1) l n) (n:Int)) ((n+z2 (fun _=>1) l:Nat) : Int):=by
 unfold qco
 refine a3h (qfy (l:=l) (c:=(fun _=>1)) hl hn (fun i x hx hn=>?_) (fun n=>?_)) (a2p rfl)
 ·have hg:=qfl (M:=qip) (c:=(fun _=>1)) (n:=n) hx
  have hi:i<l.length:=(o7.1 hx).1
  generalize n+z2 (fun _=>1) (l.take i)=n at hg hn ⊢
  try dsimp only at hn
  unfold qak
  try dsimp only
  refine a0e (by rw [wu]; simpa using hi) ?_
  try simp (config:={ maxSteps:=4000000 }) (disch:=omega) only [u7]
  refine t7 (jd hg) ?_
  refine t3 (by simp [qip]) ?_
  exact a0b
 ·unfold qak
  try dsimp only
  exact t3 (by rw [wu]; simp) a0b
theorem qn4 {l:List Peer}{n:Nat}(h:nnL Peer.nn l≤1048576)(hn:n+z2 Peer.mce l<4611686018427387904) : Ev (fun k=>qby k (xb Peer.mke Peer.mce l n) (n:Int)) ((n+z2 Peer.mce l:Nat) : Int):=by
 have hl:l.length≤1048576:=a06 qgu h
 unfold qby
 refine a3h (qfy (l:=l) (c:=Peer.mce) hl hn (fun i x hx hn=>?_) (fun n=>?_)) (a2p rfl)
 ·have hg:=qfl (M:=Peer.mke) (c:=Peer.mce) (n:=n) hx
  have hi:i<l.length:=(o7.1 hx).1
  generalize n+z2 Peer.mce (l.take i)=n at hg hn ⊢
  have hc:Peer.mce x=1+1+z2 Entry.mce x.Log+1+z2 (fun _=>1) x.Match:=rfl
  rw [hc] at hn
  rw [show n+Peer.mce x=n+1+1+z2 Entry.mce x.Log+1+z2 (fun _=>1) x.Match by omega]
  have hb:(x.Log.length+(x.Match.length+0))≤1048576:=a06 (qgs (f:=Peer.nn) hx) h
  unfold uz
  try dsimp only
  refine a0e (by rw [wu]; simpa using hi) ?_
  try simp (config:={ maxSteps:=4000000 }) (disch:=omega) only [u7]
  refine t7 (jd hg) ?_
  refine t3 (by simp [Peer.mke]) ?_
  refine t7 (jd hg) ?_
  refine t3 (by simp [Peer.mke]) ?_
  refine t7 (jd hg) ?_
  refine a0a (qi8 (l:=x.Log) (n:=n+1+1) (by omega) (by omega)) ?_
  refine t3 (by simp only [decide_eq_false_iff_not]; omega) ?_
  try simp (config:={ maxSteps:=4000000 }) (disch:=omega) only [u7]
  refine t7 (jd hg) ?_
  refine t3 (by simp [Peer.mke]) ?_
  refine t7 (jd hg) ?_
  refine a0a (qph (l:=x.Match) (n:=n+1+1+z2 Entry.mce x.Log+1) (by omega) (by omega)) ?_
  refine t3 (by simp only [decide_eq_false_iff_not]; omega) ?_
  try simp (config:={ maxSteps:=4000000 }) (disch:=omega) only [u7]
  exact a0b
 ·unfold uz
  try dsimp only
  exact t3 (by rw [wu]; simp) a0b
theorem qn5 {l:List Mail}{n:Nat}(h:nnL Mail.nn l≤1048576)(hn:n+z2 Mail.mce l<4611686018427387904) : Ev (fun k=>qb7 k (xb Mail.mke Mail.mce l n) (n:Int)) ((n+z2 Mail.mce l:Nat) : Int):=by
 have hl:l.length≤1048576:=a06 qgu h
 unfold qb7
 refine a3h (qfy (l:=l) (c:=Mail.mce) hl hn (fun i x hx hn=>?_) (fun n=>?_)) (a2p rfl)
 ·have hg:=qfl (M:=Mail.mke) (c:=Mail.mce) (n:=n) hx
  have hi:i<l.length:=(o7.1 hx).1
  generalize n+z2 Mail.mce (l.take i)=n at hg hn ⊢
  have hc:Mail.mce x=1+1+1+1+1+1+z2 Entry.mce x.Entry+1+1:=rfl
  rw [hc] at hn
  rw [show n+Mail.mce x=n+1+1+1+1+1+1+z2 Entry.mce x.Entry+1+1 by omega]
  have hb:(x.Entry.length+0)≤1048576:=a06 (qgs (f:=Mail.nn) hx) h
  unfold uu
  try dsimp only
  refine a0e (by rw [wu]; simpa using hi) ?_
  try simp (config:={ maxSteps:=4000000 }) (disch:=omega) only [u7]
  refine t7 (jd hg) ?_
  refine t3 (by simp [Mail.mke]) ?_
  refine t7 (jd hg) ?_
  refine t3 (by simp [Mail.mke]) ?_
  refine t7 (jd hg) ?_
  refine t3 (by simp [Mail.mke]) ?_
  refine t7 (jd hg) ?_
  refine t3 (by simp [Mail.mke]) ?_
  refine t7 (jd hg) ?_
  refine t3 (by simp [Mail.mke]) ?_
  refine t7 (jd hg) ?_
  refine t3 (by simp [Mail.mke]) ?_
  refine t7 (jd hg) ?_
  refine a0a (qi8 (l:=x.Entry) (n:=n+1+1+1+1+1+1) (by omega) (by omega)) ?_
  refine t3 (by simp only [decide_eq_false_iff_not]; omega) ?_
  try simp (config:={ maxSteps:=4000000 }) (disch:=omega) only [u7]
  refine t7 (jd hg) ?_
  refine t3 (by simp [Mail.mke]) ?_
  refine t7 (jd hg) ?_
  refine t3 (by simp [Mail.mke]) ?_
  exact a0b
 ·unfold uu
  try dsimp only
  exact t3 (by rw [wu]; simp) a0b
theorem qka {x:Raft}{n:Nat}(h:x.nn≤1048576)(hn:x.en n<4611686018427387904) : Ev (fun k=>qaw k (x.mkd n) (n:Int)) ((x.en n:Nat) : Int):=by
 simp only [Raft.en,Raft.nn] at h hn
 unfold qaw
 refine a0a (qn4 (l:=x.Peers) (n:=n) (by omega) (by (try simp only [Raft.en,Raft.nn]); omega)) ?_
 refine t3 (by simp only [decide_eq_false_iff_not]; omega) ?_
 refine a0a (qn5 (l:=x.Mail) (n:=n+z2 Peer.mce x.Peers) (by omega) (by (try simp only [Raft.en,Raft.nn]); omega)) ?_
 refine t3 (by simp only [decide_eq_false_iff_not]; omega) ?_
 exact a0b
theorem qjs {l:List Bool}{n:Nat}(hl:l.length≤1048576)(hn:n+z2 (fun _=>1) l<4611686018427387904) : Ev (fun k=>qad k (xb qly (fun _=>1) l n) (n:Int)) ((n+z2 (fun _=>1) l:Nat) : Int):=by
 unfold qad
 refine a3h (qfy (l:=l) (c:=(fun _=>1)) hl hn (fun i x hx hn=>?_) (fun n=>?_)) (a2p rfl)
 ·have hg:=qfl (M:=qly) (c:=(fun _=>1)) (n:=n) hx
  have hi:i<l.length:=(o7.1 hx).1
  generalize n+z2 (fun _=>1) (l.take i)=n at hg hn ⊢
  try dsimp only at hn
  unfold ux
  try dsimp only
  refine a0e (by rw [wu]; simpa using hi) ?_
  try simp (config:={ maxSteps:=4000000 }) (disch:=omega) only [u7]
  refine t7 (jd hg) ?_
  refine t3 (by simp [qly]) ?_
  exact a0b
 ·unfold ux
  try dsimp only
  exact t3 (by rw [wu]; simp) a0b
end Go.Proofs.Ytanblnjomhgphaa.X
