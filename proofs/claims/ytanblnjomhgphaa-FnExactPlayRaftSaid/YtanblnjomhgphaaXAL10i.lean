/- A raft: a letter that comes; both sides. -/
import Derived.Test.YtanblnjomhgphaaXAL10p
open Go.Proofs.Ytanblnjomhgphaa.X.Ev renaming bindp→t7,bind→a0a,iteF→t3,iteT→a0e,of→a2p,rfl→a0b
open Go.IntKind renaming wrap→l9
open List renaming getElem?_eq_getElem→o9,getElem?_eq_none→a00,getElem?_set_ne→a1h,getElem?_set_self→a09,length_cons→a0k,length_nil→a1u,length→o6,mem_of_getElem?→a0x,set_set→a3y,take_of_length_le→a2f
set_option linter.unusedVariables false
set_option linter.unusedSimpArgs false
namespace Go.Proofs.Ytanblnjomhgphaa.X
open Go

def pr (r:Raft)(k:Int) : Peer:=if 0≤k then (r.Peers[k.toNat]?).getD ⟨0,false,[],0,[]⟩ else ⟨0,false,[],0,[]⟩
def zs (n:Nat) : List Int:=List.replicate n 0
structure PG (n:Nat) (p:Peer) : Prop where
 t0:0≤p.Term
 t1:p.Term≤100
 lg:p.Log.length≤30
 c0:0≤p.Commit
 c1:p.Commit≤p.Log.length
 ml:p.Match.length=n
 m0:∀ x∈p.Match,0≤x∧x≤p.Log.length
 mz:p.Leads=false→∀ x∈p.Match,x=0
 vs:∀ e∈p.Log,0≤e.Value∧e.Value≤99
structure MG (n:Nat) (m:Mail) : Prop where
 f:je n m.From
 t:je n m.To
 ne:m.From≠m.To
 t0:0≤m.Term∧m.Term≤100
 p:0≤m.Prev∧m.Prev≤30
 c:0≤m.Commit∧m.Commit≤30
 mm:0≤m.Match∧m.Match≤30
 e:m.Entry.length≤1
 re:m.Reply=true→m.Prev=0∧m.PTerm=0∧m.Entry=[]∧m.Commit=0
 rq:m.Reply=false→m.Match=0∧(m.Prev=0→m.PTerm = -1)∧(m.Prev≠0→0≤m.PTerm∧m.PTerm≤m.Term)
 vs:∀ e∈m.Entry,(0≤e.Value∧e.Value≤99)∧0≤e.Term∧e.Term≤m.Term∧m.PTerm≤e.Term
theorem x5 {r:Raft}{k:Int}(h:je r.Peers.length k) : zn r.Peers k=some (pr r k)∧r.Peers[k.toNat]? = some (pr r k)∧k.toNat<r.Peers.length:=by
 obtain ⟨h0,h1⟩:=h
 have hlt:k.toNat<r.Peers.length:=by omega
 have hg:r.Peers[k.toNat]? = some (pr r k):=by
  unfold pr
  rw [if_pos h0,o9 hlt]
  rfl
 refine ⟨?_,hg,hlt⟩
 unfold zn
 rw [if_pos h0]
 exact hg
theorem qes {r:Raft}{k:Int}{x:Peer}{M:List Mail}(hk:je r.Peers.length k) : pr ⟨r.Peers.set k.toNat x,M⟩=yx (pr r) k x:=by
 funext j
 by_cases e:j=k
 ·subst e
  rw [jt]
  unfold pr
  rw [if_pos hk.1]
  dsimp only
  rw [a09 (by have:=hk.1; have:=hk.2; omega)]
  rfl
 ·rw [yj e]
  unfold pr
  dsimp only
  by_cases h0:0≤j
  ·rw [if_pos h0,if_pos h0,a1h (by have:=hk.1; omega)]
  ·rw [if_neg h0,if_neg h0]
theorem qlo {p:Peer}{n:Nat}{k:Int}(h:p.Match.length=n)(hk:je n k) : zn p.Match k=some ((p.Match[k.toNat]?).getD 0):=by
 obtain ⟨h0,h1⟩:=hk
 have hlt:k.toNat<p.Match.length:=by omega
 unfold zn
 rw [if_pos h0,o9 hlt]
 rfl
def w9 (n:Nat)(p:Peer)(t:Int) : Peer:=⟨t,false,p.Log,p.Commit,zs n⟩
def wb (m:Mail) : Int:=m.Prev+(m.Entry.length:Int)
def qe3 (q:Peer)(m:Mail) : Peer:=⟨q.Term,q.Leads,we q.Log m.Prev.toNat m.Entry,mxI q.Commit (mnI m.Commit (wb m)),q.Match⟩
def qfd (q:Peer)(m:Mail) : Bool:=decide ((q.Log.length:Int)<m.Prev)||(decide (0<m.Prev) && !decide ((q.Log[m.Prev.toNat - 1]?).map Entry.Term=some m.PTerm))
def qg6 (q:Peer)(m:Mail) : Mail:=⟨true,m.To,m.From,q.Term,0,0,[],0,wb m⟩
def ue (r:Raft)(m:Mail)(q:Peer) : Raft :=
 if m.Reply=true then (if q.Leads=true∧(q.Match[m.From.toNat]?).getD 0<m.Match then ⟨r.Peers.set m.To.toNat ⟨q.Term,q.Leads,q.Log,q.Commit,q.Match.set m.From.toNat m.Match⟩,r.Mail⟩ else r)
 else if qfd q m=true then r else ⟨r.Peers.set m.To.toNat (qe3 q m),r.Mail++[qg6 q m]⟩
def come (r:Raft)(m:Mail) : Raft :=
 if (pr r m.To).Term<m.Term then ue ⟨r.Peers.set m.To.toNat (w9 r.Peers.length (pr r m.To) m.Term),r.Mail⟩ m (w9 r.Peers.length (pr r m.To) m.Term)
 else if m.Term≠(pr r m.To).Term then r else ue r m (pr r m.To)
structure Acc (n:Nat) (q:Peer) (m:Mail) : Prop where
 pg:PG n q
 rep:m.Reply=true→q.Leads=true→m.Match≤q.Log.length
 req:m.Reply=false→qfd q m=false→q.Leads=false∧(we q.Log m.Prev.toNat m.Entry).length≤30∧q.Commit≤(we q.Log m.Prev.toNat m.Entry).length∧wb m≤(we q.Log m.Prev.toNat m.Entry).length∧wb m≤30
theorem qij {l:List Entry}{e:Entry}(h:l.length≤1000) : ju 16 l [e]=some (l++[e]):=by
 unfold ju
 rw [if_pos (by simp only [a0k,a1u]; omega)]
theorem qgq {l:List Mail}{e:Mail}(h:l.length≤1000) : ju 88 l [e]=some (l++[e]):=by
 unfold ju
 rw [if_pos (by simp only [a0k,a1u]; omega)]
theorem qkm {α:Type}{l:List α}{i:Int}(h0:0≤i)(h1:i≤l.length) : sl l 0 i=some (l.take i.toNat):=by
 have:=zam (l:=l) (i:=i.toNat) (by omega)
 rwa [Int.toNat_of_nonneg h0] at this
theorem quf {n:Nat}{q:Peer}{m:Mail}(hq:PG n q)(hm:MG n m) : Ev (fun _=>(if (decide ((o6 q.Log:Int)<m.Prev))=true then
  (some true) else ((if (decide ((0:Int)<m.Prev))=true then ((zn q.Log (l9 .i64 (m.Prev - 1))).bind fun x47=>(some (decide
  (x47.Term≠m.PTerm)))) else (some false)).bind fun v47=>(some v47)))) (qfd q m):=by
 have hp:=hm.p
 unfold qfd
 by_cases h1:(q.Log.length:Int)<m.Prev
 ·rw [decide_eq_true h1]
  exact a0e rfl a0b
 ·rw [decide_eq_false h1]
  refine t3 rfl ?_
  by_cases h2:0<m.Prev
  ·have hx:q.Log[m.Prev.toNat - 1]? = some (q.Log[m.Prev.toNat - 1]'(by omega)):=o9 _
   generalize q.Log[m.Prev.toNat - 1]'_=x at hx
   have hg:zn q.Log (l9 .i64 (m.Prev - 1))=some x:=by
    rw [wq (n:=m.Prev - 1) (by omega) (by omega)]
    unfold zn
    rw [if_pos (by omega),show (m.Prev - 1).toNat=m.Prev.toNat - 1 by omega]
    exact hx
   rw [decide_eq_true h2,hx]
   refine a0a (a:=decide (x.Term≠m.PTerm)) (a0e rfl (t7 hg a0b)) (a2p ?_)
   simp
  ·rw [decide_eq_false h2]
   exact a0a (a:=false) (t3 rfl a0b) (a2p (by simp))
theorem qup {B:Nat→List Int→Option (Oc (List Int) (Raft × Mail))}{l:List Int}(hl:l.length≤1000)(hB:∀ i:Nat,l[i]? = some 0→Ev (fun _=>B i l) (.nxt l))(hz:∀ x∈l,x=0) : Ev (fun _=>wn B (l.length:Int) l) (.nxt l):=by
 simp only [qd7]
 refine wk (B:=fun _ i _ s=>B i s) (by simp; omega) (fun i q s=>i+q.length=l.length∧s=l) (by simp) (fun i _ q s ⟨h1,hs⟩ => .inl ?_) (fun i s ⟨h1,hs⟩=>by rw [hs])
 simp only [a0k] at h1
 have hx:l[i]? = some (l[i]'(by omega)):=o9 _
 have:=hz _ (a0x hx)
 rw [this] at hx
 subst hs
 exact ⟨_,hB i hx,by omega,rfl⟩
theorem zfi {e:Entry} : zn [e] (0:Int)=some e:=rfl
theorem qni {l:List Entry}{m:Mail}{n:Nat}(hm:MG n m)(h:m.Prev<l.length) : ∃ f,zn l m.Prev=some f∧l[m.Prev.toNat]? = some f:=by
 have hp:=hm.p
 have hx:l[m.Prev.toNat]? = some (l[m.Prev.toNat]'(by omega)):=o9 _
 refine ⟨_,?_,hx⟩
 unfold zn
 rw [if_pos hp.1]
 exact hx
theorem q1c {n:Nat}{r:Raft}{m:Mail}(hn:r.Peers.length=n)(hn5:n≤5)(hm:MG n m)(hr:m.Reply=false)(ha:Acc n (pr r m.To) m)(hM:r.Mail.length<20) : Ev (fun _=>xq r m) (if qfd (pr r m.To) m=true then r else ⟨r.Peers.set m.To.toNat (qe3 (pr r m.To) m),r.Mail++[qg6 (pr r m.To) m]⟩,m):=by
 obtain ⟨g1,_,_⟩:=x5 (r:=r) (k:=m.To) (by rw [hn]; exact hm.t)
 have hq:=ha.pg
 have hp:=hm.p
 have hc:=hm.c
 have hlg:=hq.lg
 unfold xq
 refine t7 g1 (a0a (quf hq hm) ?_)
 cases hb:qfd (pr r m.To) m with
 | true=>exact a0e (F:=fun _=>some (r,m)) rfl a0b
 | false =>
  refine t3 rfl ?_
  show Ev _ ((⟨r.Peers.set m.To.toNat (qe3 (pr r m.To) m),r.Mail++[qg6 (pr r m.To) m]⟩ : Raft),m)
  obtain ⟨a1,a2,a3,a4,a5⟩:=ha.req hr hb
  have hnb:¬ (((pr r m.To).Log.length:Int)<m.Prev):=fun q=>by
   unfold qfd at hb
   rw [decide_eq_true q] at hb
   cases hb
  generalize pr r m.To=q at *
  have hc0:=hq.c0
  have hc1:=hq.c1
  have fin:∀ L:List Entry,L=we q.Log m.Prev.toNat m.Entry→Ev (fun _=>qbo r m q (wb m) ⟨q.Term,q.Leads,L,q.Commit,q.Match⟩) (⟨r.Peers.set m.To.toNat (qe3 q m),r.Mail++[qg6 q m]⟩,m):=by
   rintro L rfl
   have ht0:0≤wb m:=by unfold wb; omega
   unfold qbo
   refine a0a (a:=⟨q.Term,q.Leads,we q.Log m.Prev.toNat m.Entry,q.Commit,q.Match⟩) (t3 (by simpa using a3) a0b) ?_
   unfold qdt
   refine a0a (a:=mnI m.Commit (wb m)) ?_ ?_
   ·unfold mnI
    by_cases h:wb m<m.Commit
    ·rw [if_pos h]; exact a0e (by simpa using h) a0b
    ·rw [if_neg h]; exact t3 (by simpa using h) a0b
   unfold qdp
   refine a0a (a:=qe3 q m) ?_ ?_
   ·unfold qe3 mxI
    dsimp only
    by_cases h:q.Commit<mnI m.Commit (wb m)
    ·rw [if_pos h]; exact a0e (by simpa using h) a0b
    ·rw [if_neg h]; exact t3 (by simpa using h) a0b
   unfold qdq
   refine Ev.jn (s:=q.Match) (qup (by rw [hq.ml]; omega) (fun i hi=>?_) (hq.mz a1)) ?_
   ·unfold qbp
    exact t7 (jd hi) (t3 (by simp) a0b)
   ·unfold qdr
    exact a0e (by simp; omega) (t7 (qgq (by omega)) a0b)
  cases hE:m.Entry with
  | nil =>
   refine a0a (a:=(m.Prev,q)) (t3 (by simp) a0b) ?_
   have:=fin q.Log (by rw [hE]; rfl)
   unfold wb at this
   rw [hE] at this
   simpa using this
  | cons e t =>
   have ht:t=[]:=by have:=hm.e; rw [hE] at this; simp at this; exact this
   subst ht
   have e1:l9 .i64 (m.Prev+1)=m.Prev+1:=wq (by omega) (by omega)
   have eth:wb m=m.Prev+1:=by unfold wb; rw [hE]; rfl
   rw [eth] at a4 a5
   rw [hE] at a2 a3 a4
   simp only [we] at a2 a3 a4
   have fin2:=fin _ rfl
   rw [eth,hE] at fin2
   refine a0a (a:=(m.Prev+1,⟨q.Term,q.Leads,we q.Log m.Prev.toNat [e],q.Commit,q.Match⟩)) (a0e (by simp) (t7 zfi ?_)) fin2
   have j2:∀ L:List Entry,m.Prev<L.length→Ev (fun _=>qbr m q ⟨q.Term,q.Leads,L,q.Commit,q.Match⟩) (m.Prev+1,⟨q.Term,q.Leads,L,q.Commit,q.Match⟩):=fun L hL=>by
    unfold qbr
    rw [e1]
    exact a0e (by simpa using hL) a0b
   by_cases h1:m.Prev<q.Log.length
   ·obtain ⟨f,f1,f2⟩:=qni hm h1
    by_cases h2:f.Term=e.Term
    ·have hn':we q.Log m.Prev.toNat [e]=q.Log:=by
      exact if_pos (by rw [f2]; simp [h2])
     rw [hn']
     refine a0a (a:=false) (a0e (by simpa using h1) (t7 f1 (a2p (by simp [h2])))) (a0a (a:=q) (t3 rfl a0b) ?_)
     unfold uy
     exact a0a (a:=⟨q.Term,q.Leads,q.Log,q.Commit,q.Match⟩) (t3 (by simp; omega) a0b) (j2 _ h1)
    ·have hn':we q.Log m.Prev.toNat [e]=q.Log.take m.Prev.toNat++[e]:=by
      exact if_neg (by rw [f2]; simpa using h2)
     rw [hn']
     refine a0a (a:=true) (a0e (by simpa using h1) (t7 f1 (a2p (by simpa using h2)))) (a0a (a:=⟨q.Term,q.Leads,q.Log.take m.Prev.toNat,q.Commit,q.Match⟩) (a0e rfl (t7 (qkm hp.1 (by omega)) (t7 (qbg (by rw [List.length_take]; omega)) a0b))) ?_)
     unfold uy
     exact a0a (a:=⟨q.Term,q.Leads,q.Log.take m.Prev.toNat++[e],q.Commit,q.Match⟩) (a0e (by simp; omega) (t7 (qij (by simp; omega)) a0b)) (j2 _ (by simp; omega))
   ·have hpl:m.Prev=q.Log.length:=by omega
    have hn':we q.Log m.Prev.toNat [e]=q.Log++[e]:=by
     refine (if_neg (by rw [a00 (by omega)]; simp)).trans ?_
     rw [a2f (by omega)]
    rw [hn']
    refine a0a (a:=false) (t3 (by simpa using h1) a0b) (a0a (a:=q) (t3 rfl a0b) ?_)
    unfold uy
    exact a0a (a:=⟨q.Term,q.Leads,q.Log++[e],q.Commit,q.Match⟩) (a0e (by simp; omega) (t7 (qij (by omega)) a0b)) (j2 _ (by simp; omega))
theorem qxw {n:Nat}{r:Raft}{m:Mail}(hn:r.Peers.length=n)(hn5:n≤5)(hm:MG n m)(ha:Acc n (pr r m.To) m)(hM:r.Mail.length<20) :
  (m.Reply=false→Ev (fun _=>(xq r m).bind fun v111=>(some (v111.1,(Mail.mk m.Reply m.From m.To m.Term m.Prev m.PTerm v111.2.Entry m.Commit m.Match)))) (ue r m (pr r m.To),m)) ∧
  (m.Reply=true→Ev (fun _=>((if (pr r m.To).Leads=true then ((zn (pr r m.To).Match m.From).bind fun x129=>(some (decide (x129<m.Match)))) else (some false)).bind fun v129=>(if (v129&&(decide (m.Match ≤
  (o6 (pr r m.To).Log:Int))))=true then ((zn (pr r m.To).Match m.From).bind fun x158=>(some ((Raft.mk (List.set r.Peers m.To.toNat
  (Peer.mk (pr r m.To).Term (pr r m.To).Leads (pr r m.To).Log (pr r m.To).Commit (List.set (pr r m.To).Match m.From.toNat m.Match))) r.Mail),m))) else (some (r,m))))) (ue r m (pr r m.To),m)):=by
 refine ⟨fun hr=>?_,fun hr=>?_⟩
 ·unfold ue
  rw [if_neg (by rw [hr]; decide)]
  exact a0a (q1c hn hn5 hm hr ha hM) a0b
 ·have eg:ue r m (pr r m.To)=if (pr r m.To).Leads=true∧((pr r m.To).Match[m.From.toNat]?).getD 0<m.Match then ⟨r.Peers.set m.To.toNat ⟨(pr r m.To).Term,(pr r m.To).Leads,(pr r m.To).Log,(pr r m.To).Commit,(pr r m.To).Match.set m.From.toNat m.Match⟩,r.Mail⟩ else r:=by
   unfold ue
   rw [if_pos hr]
  have hg:=qlo ha.pg.ml hm.f
  by_cases hl:(pr r m.To).Leads=true
  ·have hle:=ha.rep hr hl
   refine a0a (a:=decide (((pr r m.To).Match[m.From.toNat]?).getD 0<m.Match)) (a0e hl (t7 hg a0b)) ?_
   by_cases h:((pr r m.To).Match[m.From.toNat]?).getD 0<m.Match
   ·rw [show ue r m (pr r m.To)=_ from eg.trans (if_pos ⟨hl,h⟩)]
    exact a0e (by simp [h,hle]) (t7 hg a0b)
   ·rw [show ue r m (pr r m.To)=r from eg.trans (if_neg (fun q=>h q.2))]
    exact t3 (by simp [h]) a0b
  ·rw [show ue r m (pr r m.To)=r from eg.trans (if_neg (fun q=>hl q.1))]
   exact a0a (a:=false) (t3 (by simpa using hl) a0b) (t3 (by simp) a0b)
theorem zdx {n:Nat}{r:Raft}{m:Mail}(hn:r.Peers.length=n)(hn5:n≤5)(hm:MG n m)(ha:∀ q,(q=pr r m.To∧m.Term=(pr r m.To).Term)∨(q=w9 n (pr r m.To) m.Term∧(pr r m.To).Term<m.Term)→Acc n q m)(hM:r.Mail.length<20) : Ev (fun _=>qbw r m) (come r m,m):=by
 have hto:je r.Peers.length m.To:=by rw [hn]; exact hm.t
 obtain ⟨g1,g2,g3⟩:=x5 hto
 unfold qbw
 refine t7 g1 ?_
 by_cases h:(pr r m.To).Term<m.Term
 ·rw [show come r m=_ from if_pos h]
  have hb:=ha _ (.inr ⟨rfl,h⟩)
  have hs:=qes (r:=r) (M:=r.Mail) (x:=w9 n (pr r m.To) m.Term) hto
  have e1:pr ⟨r.Peers.set m.To.toNat (w9 n (pr r m.To) m.Term),r.Mail⟩ m.To=w9 n (pr r m.To) m.Term:=by rw [hs,jt]
  obtain ⟨s1,s2⟩:=qxw (r:=⟨r.Peers.set m.To.toNat (w9 n (pr r m.To) m.Term),r.Mail⟩) (n:=n) (m:=m) (by simp [hn]) hn5 hm (by rw [e1]; exact hb) hM
  rw [e1] at s1 s2
  refine a0e (by simpa using h) (t7 (qjf (b:=8) (n:=r.Peers.length) (z:=(0:Int)) (by omega)) (t3 (by simp) ?_))
  rw [hn]
  by_cases hr:m.Reply=true
  ·refine t3 (by simp [hr]) ?_
   unfold ue
   rw [if_pos hr,if_neg (fun q=>by cases q.1)]
   exact a0b
  ·have hr':m.Reply=false:=by simpa using hr
   exact a0e (by simp [hr']) (s1 hr')
 ·have ec:come r m=if m.Term≠(pr r m.To).Term then r else ue r m (pr r m.To):=if_neg h
  refine t3 (by simpa using h) ?_
  by_cases h2:m.Term=(pr r m.To).Term
  ·rw [show come r m=_ from ec.trans (if_neg (fun q=>q h2))]
   obtain ⟨s1,s2⟩:=qxw hn hn5 hm (ha _ (.inl ⟨rfl,h2⟩)) hM
   refine t3 (by simpa using h2) ?_
   by_cases hr:m.Reply=true
   ·exact t3 (by simp [hr]) (s2 hr)
   ·have hr':m.Reply=false:=by simpa using hr
    exact a0e (by simp [hr']) (s1 hr')
  ·rw [show come r m=r from ec.trans (if_pos h2)]
   exact a0e (by simpa using h2) a0b
theorem q3w {a b:Int} : mnI a b≤a∧mnI a b≤b:=by unfold mnI; split <;> omega
theorem q7f {a b c:Int}(h1:a≤c)(h2:b≤c) : mxI a b≤c:=by unfold mxI; split <;> omega
theorem zew {a b:Int}(h:a≤b) : mnI a b=a:=by unfold mnI; rw [if_neg (by omega)]
theorem zau {p:Peer}{l:List Peer}{k:Nat}(hk:l[k]? = some p){B:Nat→List Peer→Option (Oc (List Peer) (Raft × Mail))}(hl:p.Match.length≤1000)(hz:∀ x∈p.Match,x=0)(hB:∀ i:Nat,p.Match[i]? = some 0→Ev (fun _=>B i l) (.nxt l)) : Ev (fun _=>wn B (p.Match.length:Int) l) (.nxt l):=by
 simp only [qd7]
 refine wk (B:=fun _ i _ s=>B i s) (by simp; omega) (fun i q s=>i+q.length=p.Match.length∧s=l) (by simp) (fun i _ q s ⟨h1,hs⟩ => .inl ?_) (fun i s ⟨h1,hs⟩=>by rw [hs])
 simp only [a0k] at h1
 have hx:p.Match[i]? = some (p.Match[i]'(by omega)):=o9 _
 have:=hz _ (a0x hx)
 rw [this] at hx
 subst hs
 exact ⟨_,hB i hx,by omega,rfl⟩
theorem qf2 {α:Type}{l:List α}{i:Nat}{x:α}(h:l[i]? = some x) : l.set i x=l:=by
 apply List.ext_getElem?
 intro j
 by_cases e:i=j
 ·subst e
  rw [a09 (List.getElem?_eq_some_iff.1 h).1,h]
 ·rw [a1h e]
theorem qug {n:Nat}{r:Raft}{m:Mail}(hn:r.Peers.length=n)(hn5:n≤5)(hm:MG n m)(ha:Acc n (pr r m.To) m)(hM:r.Mail.length<20)(ht:m.Term=(pr r m.To).Term) : Ev (fun _=>uw r m r.Peers) (ue r m (pr r m.To),m):=by
 have hto:je r.Peers.length m.To:=by rw [hn]; exact hm.t
 obtain ⟨g1,g2,g3⟩:=x5 hto
 have hq:=ha.pg
 have hp:=hm.p
 have hc:=hm.c
 have hlg:=hq.lg
 have hc0:=hq.c0
 have hc1:=hq.c1
 have hgs:∀ y:Peer,zn (r.Peers.set m.To.toNat y) m.To=some y:=fun y=>by
  unfold zn
  rw [if_pos hto.1]
  exact a09 g3
 unfold uw
 refine t7 g1 (t3 (by simpa using ht) ?_)
 by_cases hr:m.Reply=true
 ·refine a0e hr ?_
  have eg:ue r m (pr r m.To)=if (pr r m.To).Leads=true∧((pr r m.To).Match[m.From.toNat]?).getD 0<m.Match then ⟨r.Peers.set m.To.toNat ⟨(pr r m.To).Term,(pr r m.To).Leads,(pr r m.To).Log,(pr r m.To).Commit,(pr r m.To).Match.set m.From.toNat m.Match⟩,r.Mail⟩ else r:=by
   unfold ue
   rw [if_pos hr]
  have hg:=qlo hq.ml hm.f
  by_cases hl:(pr r m.To).Leads=true
  ·have hle:=ha.rep hr hl
   refine a0a (a0e hl (t7 hg a0b)) ?_
   have hmn:mnI m.Match ((pr r m.To).Log.length:Int)=m.Match:=by unfold mnI; rw [if_neg (by omega)]
   rw [hmn]
   unfold qbs
   by_cases h:((pr r m.To).Match[m.From.toNat]?).getD 0<m.Match
   ·rw [show ue r m (pr r m.To)=_ from eg.trans (if_pos ⟨hl,h⟩)]
    have hmx:mxI (((pr r m.To).Match[m.From.toNat]?).getD 0) m.Match=m.Match:=by unfold mxI; rw [if_pos h]
    rw [hmx]
    exact a0b
   ·rw [show ue r m (pr r m.To)=r from eg.trans (if_neg (fun q=>h q.2))]
    have hmx:mxI (((pr r m.To).Match[m.From.toNat]?).getD 0) m.Match=((pr r m.To).Match[m.From.toNat]?).getD 0:=by unfold mxI; rw [if_neg (by omega)]
    have hf:=hm.f
    have hmg:(pr r m.To).Match[m.From.toNat]? = some (((pr r m.To).Match[m.From.toNat]?).getD 0):=by
     have hlt:m.From.toNat<(pr r m.To).Match.length:=by rw [hq.ml]; have:=hf.1; have:=hf.2; omega
     rw [o9 hlt]
     rfl
    rw [hmx,qf2 hmg,qf2 g2]
    exact a0b
  ·rw [show ue r m (pr r m.To)=r from eg.trans (if_neg (fun q=>hl q.1))]
   refine a0a (a:=r.Peers) (t3 (by simpa using hl) a0b) ?_
   unfold qbs
   exact a0b
 ·have hr':m.Reply=false:=by simpa using hr
  refine t3 (by simp [hr']) (a0a (quf hq hm) ?_)
  have eg:ue r m (pr r m.To)=if qfd (pr r m.To) m=true then r else ⟨r.Peers.set m.To.toNat (qe3 (pr r m.To) m),r.Mail++[qg6 (pr r m.To) m]⟩:=by
   unfold ue
   rw [if_neg (by rw [hr']; decide)]
  cases hb:qfd (pr r m.To) m with
  | true =>
   rw [show ue r m (pr r m.To)=r from eg.trans (if_pos hb)]
   exact a0e rfl a0b
  | false =>
   rw [show ue r m (pr r m.To)=_ from eg.trans (if_neg (by rw [hb]; decide))]
   refine t3 rfl ?_
   obtain ⟨a1,a2,a3,a4,a5⟩:=ha.req hr' hb
   have hnb:¬ (((pr r m.To).Log.length:Int)<m.Prev):=fun q=>by
    unfold qfd at hb
    rw [decide_eq_true q] at hb
    cases hb
   have hmz:=hq.mz a1
   have hml:=hq.ml
   generalize pr r m.To=q at *
   have ht0:0≤wb m:=by unfold wb; omega
   -- what comes behind the rows
   have fin:∀ s:List Peer,s=r.Peers.set m.To.toNat ⟨q.Term,q.Leads,we q.Log m.Prev.toNat m.Entry,q.Commit,q.Match⟩→Ev (fun _=>qbk r m (wb m) s) (⟨r.Peers.set m.To.toNat (qe3 q m),r.Mail++[qg6 q m]⟩,m):=by
    rintro s rfl
    unfold qbk
    refine t7 (hgs _) ?_
    have hcm:mnI (mxI q.Commit (mnI m.Commit (wb m))) ((we q.Log m.Prev.toNat m.Entry).length:Int)=mxI q.Commit (mnI m.Commit (wb m)):=zew (q7f a3 (Int.le_trans q3w.2 a4))
    dsimp only
    rw [hcm,a3y]
    refine Ev.jn (s:=r.Peers.set m.To.toNat (qe3 q m)) (zau (p:=qe3 q m) (k:=m.To.toNat) (a09 g3) (by show q.Match.length≤1000; omega) hmz (fun i hi=>?_)) ?_
    ·unfold qbt
     refine t7 (hgs _) (t7 (jd hi) (a2p ?_))
     have h0:mnI 0 ((qe3 q m).Log.length:Int)=0:=by unfold mnI; rw [if_neg (by omega)]
     rw [h0,Int.toNat_natCast,qf2 hi,a3y]
    ·unfold qds
     exact t7 (hgs _) (t7 (qgq (by omega)) a0b)
   cases hE:m.Entry with
   | nil =>
    refine Ev.jn (s:=(wb m,r.Peers)) ?_ (fin _ ?_)
    ·unfold wb
     rw [hE]
     simp only [a1u,Int.natCast_zero,Int.add_zero]
     exact a2p rfl
    ·rw [hE]
     exact (qf2 g2).symm
   | cons e t =>
    have htl:t=[]:=by have:=hm.e; rw [hE] at this; simp at this; exact this
    subst htl
    have e1:l9 .i64 (m.Prev+1)=m.Prev+1:=wq (by omega) (by omega)
    have eth:wb m=m.Prev+1:=by unfold wb; rw [hE]; rfl
    rw [eth] at a4 a5
    rw [hE] at a2 a3 a4
    simp only [we] at a2 a3 a4
    refine Ev.jn (s:=(wb m,r.Peers.set m.To.toNat ⟨q.Term,q.Leads,we q.Log m.Prev.toNat m.Entry,q.Commit,q.Match⟩)) ?_ (fin _ rfl)
    have one:∀ {F:Nat→Int × List Peer→Option (Oc (Int × List Peer) (Raft × Mail))} {s0 s1:Int × List Peer},Ev (fun _=>F 0 s0) (.nxt s1)→Ev (fun _=>wn F ((([e] : List Entry).length:Nat) : Int) s0) (.nxt s1):=fun {F s0 s1} ⟨K,h⟩=>⟨K,fun k hk=>by
     have:=h k hk
     simp only [qd7]
     unfold yd
     rw [if_pos (by simp)]
     simp only [a0k,a1u,List.replicate_succ,List.replicate_zero,x6,this]⟩
    refine one ?_
    unfold qbq
    rw [hE,eth]
    have j4:∀ L:List Entry,m.Prev<L.length→Ev (fun _=>qbu m m.Prev (r.Peers.set m.To.toNat ⟨q.Term,q.Leads,L,q.Commit,q.Match⟩)) (.nxt (m.Prev+1,r.Peers.set m.To.toNat ⟨q.Term,q.Leads,L,q.Commit,q.Match⟩)):=fun L hL=>by
     unfold qbu
     rw [e1]
     exact t7 (hgs _) (a0e (by simpa using hL) a0b)
    refine t7 (a:=e) rfl (t7 g1 ?_)
    by_cases h1:m.Prev<q.Log.length
    ·obtain ⟨f,f1,f2⟩:=qni hm h1
     by_cases h2:f.Term=e.Term
     ·have hn':we q.Log m.Prev.toNat [e]=q.Log:=if_pos (by rw [f2]; simp [h2])
      rw [hn']
      refine a0a (a:=false) (a0e (by simpa using h1) (t7 f1 (a2p (by simp [h2])))) (a0a (a:=r.Peers) (t3 rfl a0b) ?_)
      unfold u4
      refine t7 g1 (a0a (a:=r.Peers) (t3 (by simp; omega) a0b) ?_)
      have:=j4 q.Log h1
      rwa [qf2 g2] at this ⊢
     ·have hn':we q.Log m.Prev.toNat [e]=q.Log.take m.Prev.toNat++[e]:=if_neg (by rw [f2]; simpa using h2)
      rw [hn']
      refine a0a (a:=true) (a0e (by simpa using h1) (t7 f1 (a2p (by simpa using h2)))) (a0a (a:=r.Peers.set m.To.toNat ⟨q.Term,q.Leads,q.Log.take m.Prev.toNat,q.Commit,q.Match⟩) (a0e rfl (t7 (qkm hp.1 (by omega)) a0b)) ?_)
      unfold u4
      refine t7 (hgs _) (a0a (a:=r.Peers.set m.To.toNat ⟨q.Term,q.Leads,q.Log.take m.Prev.toNat++[e],q.Commit,q.Match⟩) (a0e (by simp; omega) (t7 (qij (by simp; omega)) (a2p (by rw [a3y])))) (j4 _ (by simp; omega)))
    ·have hpl:m.Prev=q.Log.length:=by omega
     have hn':we q.Log m.Prev.toNat [e]=q.Log++[e]:=by
      refine (if_neg (by rw [a00 (by omega)]; simp)).trans ?_
      rw [a2f (by omega)]
     rw [hn']
     refine a0a (a:=false) (t3 (by simpa using h1) a0b) (a0a (a:=r.Peers) (t3 rfl a0b) ?_)
     unfold u4
     exact t7 g1 (a0a (a:=r.Peers.set m.To.toNat ⟨q.Term,q.Leads,q.Log++[e],q.Commit,q.Match⟩) (a0e (by simp; omega) (t7 (qij (by omega)) a0b)) (j4 _ (by simp; omega)))
theorem zdj {n:Nat}{r:Raft}{m:Mail}(hn:r.Peers.length=n)(hn5:n≤5)(hm:MG n m)(ha:∀ q,(q=pr r m.To∧m.Term=(pr r m.To).Term)∨(q=w9 n (pr r m.To) m.Term∧(pr r m.To).Term<m.Term)→Acc n q m)(hM:r.Mail.length<20) : Ev (fun _=>qbx r m) (come r m,m):=by
 have hto:je r.Peers.length m.To:=by rw [hn]; exact hm.t
 obtain ⟨g1,g2,g3⟩:=x5 hto
 unfold qbx
 refine t7 g1 ?_
 by_cases h:(pr r m.To).Term<m.Term
 ·rw [show come r m=_ from if_pos h]
  have hb:=ha _ (.inr ⟨rfl,h⟩)
  have hs:=qes (r:=r) (M:=r.Mail) (x:=w9 n (pr r m.To) m.Term) hto
  have e1:pr ⟨r.Peers.set m.To.toNat (w9 n (pr r m.To) m.Term),r.Mail⟩ m.To=w9 n (pr r m.To) m.Term:=by rw [hs,jt]
  have s1:=qug (r:=⟨r.Peers.set m.To.toNat (w9 n (pr r m.To) m.Term),r.Mail⟩) (n:=n) (m:=m) (by simp [hn]) hn5 hm (by rw [e1]; exact hb) hM (by rw [e1]; rfl)
  rw [e1] at s1
  refine a0a (a:=r.Peers.set m.To.toNat (w9 n (pr r m.To) m.Term)) (a0e (by simpa using h) (t7 (qjf (b:=8) (n:=r.Peers.length) (z:=(0:Int)) (by omega)) (a2p (by rw [hn]; rfl)))) ?_
  rw [hn]
  exact s1
 ·have ec:come r m=if m.Term≠(pr r m.To).Term then r else ue r m (pr r m.To):=if_neg h
  refine a0a (a:=r.Peers) (t3 (by simpa using h) a0b) ?_
  by_cases h2:m.Term=(pr r m.To).Term
  ·rw [show come r m=_ from ec.trans (if_neg (fun q=>q h2))]
   exact qug hn hn5 hm (ha _ (.inl ⟨rfl,h2⟩)) hM h2
  ·rw [show come r m=r from ec.trans (if_pos h2)]
   unfold uw
   exact t7 g1 (a0e (by simpa using h2) a0b)
end Go.Proofs.Ytanblnjomhgphaa.X
