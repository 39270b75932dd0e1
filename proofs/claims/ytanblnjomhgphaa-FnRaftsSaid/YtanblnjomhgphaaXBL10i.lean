/- A raft: a letter that comes; both sides. -/
import Derived.Test.YtanblnjomhgphaaXBL10p
open Go.Proofs.Ytanblnjomhgphaa.X.Ev renaming bindp→a0c,bind→a0e,iteF→a0b,iteT→a0l,of→a23,rfl→a0h
open Go.IntKind renaming wrap→r8
open List renaming getElem?_eq_getElem→s8,getElem?_eq_none→a00,getElem?_set_ne→a1o,getElem?_set_self→a1i,length_cons→a0p,length_nil→a1y,length→p9,mem_of_getElem?→a0o,take_of_length_le→a25
set_option linter.unusedVariables false
set_option linter.unusedSimpArgs false
namespace Go.Proofs.Ytanblnjomhgphaa.X
open Go

def pr (r:Raft)(k:Int) : Peer:=if 0≤k then (r.Peers[k.toNat]?).getD ⟨0,false,[],0,[]⟩ else ⟨0,false,[],0,[]⟩
def zs (n:Nat) : List Int:=List.replicate n 0
structure PG (n:Nat) (p:Peer) : Prop where
 t0:0≤p.Term
 t1:p.Term≤100
 lg:p.Log.length≤30
 c0:0≤p.Commit
 c1:p.Commit≤p.Log.length
 ml:p.Match.length=n
 m0:∀ x∈p.Match,0≤x∧x≤p.Log.length
 mz:p.Leads=false→∀ x∈p.Match,x=0
 vs:∀ e∈p.Log,0≤e.Value∧e.Value≤99
structure MG (n:Nat) (m:Mail) : Prop where
 f:je n m.From
 t:je n m.To
 ne:m.From≠m.To
 t0:0≤m.Term∧m.Term≤100
 p:0≤m.Prev∧m.Prev≤30
 c:0≤m.Commit∧m.Commit≤30
 mm:0≤m.Match∧m.Match≤30
 e:m.Entry.length≤1
 re:m.Reply=true→m.Prev=0∧m.PTerm=0∧m.Entry=[]∧m.Commit=0
 rq:m.Reply=false→m.Match=0∧(m.Prev=0→m.PTerm = -1)∧(m.Prev≠0→0≤m.PTerm∧m.PTerm≤m.Term)
 vs:∀ e∈m.Entry,(0≤e.Value∧e.Value≤99)∧0≤e.Term∧e.Term≤m.Term∧m.PTerm≤e.Term
theorem wv {r:Raft}{k:Int}(h:je r.Peers.length k) : zy r.Peers k=some (pr r k)∧r.Peers[k.toNat]? = some (pr r k)∧k.toNat<r.Peers.length:=by
 obtain ⟨h0,h1⟩:=h
 have hlt:k.toNat<r.Peers.length:=by omega
 have hg:r.Peers[k.toNat]? = some (pr r k):=by
  unfold pr
  rw [if_pos h0,s8 hlt]
  rfl
 refine ⟨?_,hg,hlt⟩
 unfold zy
 rw [if_pos h0]
 exact hg
theorem qfn {r:Raft}{k:Int}{x:Peer}{M:List Mail}(hk:je r.Peers.length k) : pr ⟨r.Peers.set k.toNat x,M⟩=wg (pr r) k x:=by
 funext j
 by_cases e:j=k
 ·subst e
  rw [j0]
  unfold pr
  rw [if_pos hk.1]
  dsimp only
  rw [a1i (by have:=hk.1; have:=hk.2; omega)]
  rfl
 ·rw [yp e]
  unfold pr
  dsimp only
  by_cases h0:0≤j
  ·rw [if_pos h0,if_pos h0,a1o (by have:=hk.1; omega)]
  ·rw [if_neg h0,if_neg h0]
theorem ql6 {p:Peer}{n:Nat}{k:Int}(h:p.Match.length=n)(hk:je n k) : zy p.Match k=some ((p.Match[k.toNat]?).getD 0):=by
 obtain ⟨h0,h1⟩:=hk
 have hlt:k.toNat<p.Match.length:=by omega
 unfold zy
 rw [if_pos h0,s8 hlt]
 rfl
def xv (n:Nat)(p:Peer)(t:Int) : Peer:=⟨t,false,p.Log,p.Commit,zs n⟩
def wn (m:Mail) : Int:=m.Prev+(m.Entry.length:Int)
def qfi (q:Peer)(m:Mail) : Peer:=⟨q.Term,q.Leads,ws q.Log m.Prev.toNat m.Entry,mxI q.Commit (mnI m.Commit (wn m)),q.Match⟩
def qfx (q:Peer)(m:Mail) : Bool:=decide ((q.Log.length:Int)<m.Prev)||(decide (0<m.Prev) && !decide ((q.Log[m.Prev.toNat - 1]?).map Entry.Term=some m.PTerm))
def qhk (q:Peer)(m:Mail) : Mail:=⟨true,m.To,m.From,q.Term,0,0,[],0,wn m⟩
def uw (r:Raft)(m:Mail)(q:Peer) : Raft :=
 if m.Reply=true then (if q.Leads=true∧(q.Match[m.From.toNat]?).getD 0<m.Match then ⟨r.Peers.set m.To.toNat ⟨q.Term,q.Leads,q.Log,q.Commit,q.Match.set m.From.toNat m.Match⟩,r.Mail⟩ else r)
 else if qfx q m=true then r else ⟨r.Peers.set m.To.toNat (qfi q m),r.Mail++[qhk q m]⟩
def come (r:Raft)(m:Mail) : Raft :=
 if (pr r m.To).Term<m.Term then uw ⟨r.Peers.set m.To.toNat (xv r.Peers.length (pr r m.To) m.Term),r.Mail⟩ m (xv r.Peers.length (pr r m.To) m.Term)
 else if m.Term≠(pr r m.To).Term then r else uw r m (pr r m.To)
structure Acc (n:Nat) (q:Peer) (m:Mail) : Prop where
 pg:PG n q
 rep:m.Reply=true→q.Leads=true→m.Match≤q.Log.length
 req:m.Reply=false→qfx q m=false→q.Leads=false∧(ws q.Log m.Prev.toNat m.Entry).length≤30∧q.Commit≤(ws q.Log m.Prev.toNat m.Entry).length∧wn m≤(ws q.Log m.Prev.toNat m.Entry).length∧wn m≤30
theorem qis {l:List Entry}{e:Entry}(h:l.length≤1000) : ju 16 l [e]=some (l++[e]):=by
 unfold ju
 rw [if_pos (by simp only [a0p,a1y]; omega)]
theorem qg9 {l:List Mail}{e:Mail}(h:l.length≤1000) : ju 88 l [e]=some (l++[e]):=by
 unfold ju
 rw [if_pos (by simp only [a0p,a1y]; omega)]
theorem qf6 {α:Type}{l:List α}{i:Int}(h0:0≤i)(h1:i≤l.length) : sl l 0 i=some (l.take i.toNat):=by
 have:=qiv (l:=l) (i:=i.toNat) (by omega)
 rwa [Int.toNat_of_nonneg h0] at this
theorem qsc {n:Nat}{q:Peer}{m:Mail}(hq:PG n q)(hm:MG n m) : Ev (fun _=>(if (decide ((p9 q.Log:Int)<m.Prev))=true then
  (some true) else ((if (decide ((0:Int)<m.Prev))=true then ((zy q.Log (r8 .i64 (m.Prev - 1))).bind fun x47=>(some (decide
  (x47.Term≠m.PTerm)))) else (some false)).bind fun v47=>(some v47)))) (qfx q m):=by
 have hp:=hm.p
 unfold qfx
 by_cases h1:(q.Log.length:Int)<m.Prev
 ·rw [decide_eq_true h1]
  exact a0l rfl a0h
 ·rw [decide_eq_false h1]
  refine a0b rfl ?_
  by_cases h2:0<m.Prev
  ·have hx:q.Log[m.Prev.toNat - 1]? = some (q.Log[m.Prev.toNat - 1]'(by omega)):=s8 _
   generalize q.Log[m.Prev.toNat - 1]'_=x at hx
   have hg:zy q.Log (r8 .i64 (m.Prev - 1))=some x:=by
    rw [k9 (n:=m.Prev - 1) (by omega) (by omega)]
    unfold zy
    rw [if_pos (by omega),show (m.Prev - 1).toNat=m.Prev.toNat - 1 by omega]
    exact hx
   rw [decide_eq_true h2,hx]
   refine a0e (a:=decide (x.Term≠m.PTerm)) (a0l rfl (a0c hg a0h)) (a23 ?_)
   simp
  ·rw [decide_eq_false h2]
   exact a0e (a:=false) (a0b rfl a0h) (a23 (by simp))
theorem qtk {B:Nat→List Int→Option (Oc (List Int) (Raft × Mail))}{l:List Int}(hl:l.length≤1000)(hB:∀ i:Nat,l[i]? = some 0→Ev (fun _=>B i l) (.nxt l))(hz:∀ x∈l,x=0) : Ev (fun _=>wi B (l.length:Int) l) (.nxt l):=by
 simp only [qdx]
 refine yo (B:=fun _ i _ s=>B i s) (by simp; omega) (fun i q s=>i+q.length=l.length∧s=l) (by simp) (fun i _ q s ⟨h1,hs⟩ => .inl ?_) (fun i s ⟨h1,hs⟩=>by rw [hs])
 simp only [a0p] at h1
 have hx:l[i]? = some (l[i]'(by omega)):=s8 _
 have:=hz _ (a0o hx)
 rw [this] at hx
 subst hs
 exact ⟨_,hB i hx,by omega,rfl⟩
theorem zep {e:Entry} : zy [e] (0:Int)=some e:=rfl
theorem qnr {l:List Entry}{m:Mail}{n:Nat}(hm:MG n m)(h:m.Prev<l.length) : ∃ f,zy l m.Prev=some f∧l[m.Prev.toNat]? = some f:=by
 have hp:=hm.p
 have hx:l[m.Prev.toNat]? = some (l[m.Prev.toNat]'(by omega)):=s8 _
 refine ⟨_,?_,hx⟩
 unfold zy
 rw [if_pos hp.1]
 exact hx
theorem q10 {n:Nat}{r:Raft}{m:Mail}(hn:r.Peers.length=n)(hn5:n≤5)(hm:MG n m)(hr:m.Reply=false)(ha:Acc n (pr r m.To) m)(hM:r.Mail.length<20) : Ev (fun _=>ul r m) (if qfx (pr r m.To) m=true then r else ⟨r.Peers.set m.To.toNat (qfi (pr r m.To) m),r.Mail++[qhk (pr r m.To) m]⟩,m):=by
 obtain ⟨g1,_,_⟩:=wv (r:=r) (k:=m.To) (by rw [hn]; exact hm.t)
 have hq:=ha.pg
 have hp:=hm.p
 have hc:=hm.c
 have hlg:=hq.lg
 unfold ul
 refine a0c g1 (a0e (qsc hq hm) ?_)
 cases hb:qfx (pr r m.To) m with
 | true=>exact a0l (F:=fun _=>some (r,m)) rfl a0h
 | false =>
  refine a0b rfl ?_
  show Ev _ ((⟨r.Peers.set m.To.toNat (qfi (pr r m.To) m),r.Mail++[qhk (pr r m.To) m]⟩ : Raft),m)
  obtain ⟨a1,a2,a3,a4,a5⟩:=ha.req hr hb
  have hnb:¬ (((pr r m.To).Log.length:Int)<m.Prev):=fun q=>by
   unfold qfx at hb
   rw [decide_eq_true q] at hb
   cases hb
  generalize pr r m.To=q at *
  have hc0:=hq.c0
  have hc1:=hq.c1
  have fin:∀ L:List Entry,L=ws q.Log m.Prev.toNat m.Entry→Ev (fun _=>qca r m q (wn m) ⟨q.Term,q.Leads,L,q.Commit,q.Match⟩) (⟨r.Peers.set m.To.toNat (qfi q m),r.Mail++[qhk q m]⟩,m):=by
   rintro L rfl
   have ht0:0≤wn m:=by unfold wn; omega
   unfold qca
   refine a0e (a:=⟨q.Term,q.Leads,ws q.Log m.Prev.toNat m.Entry,q.Commit,q.Match⟩) (a0b (by simpa using a3) a0h) ?_
   unfold qeg
   refine a0e (a:=mnI m.Commit (wn m)) ?_ ?_
   ·unfold mnI
    by_cases h:wn m<m.Commit
    ·rw [if_pos h]; exact a0l (by simpa using h) a0h
    ·rw [if_neg h]; exact a0b (by simpa using h) a0h
   unfold qef
   refine a0e (a:=qfi q m) ?_ ?_
   ·unfold qfi mxI
    dsimp only
    by_cases h:q.Commit<mnI m.Commit (wn m)
    ·rw [if_pos h]; exact a0l (by simpa using h) a0h
    ·rw [if_neg h]; exact a0b (by simpa using h) a0h
   unfold qed
   refine Ev.jn (s:=q.Match) (qtk (by rw [hq.ml]; omega) (fun i hi=>?_) (hq.mz a1)) ?_
   ·unfold qbt
    exact a0c (y9 hi) (a0b (by simp) a0h)
   ·unfold qee
    exact a0l (by simp; omega) (a0c (qg9 (by omega)) a0h)
  cases hE:m.Entry with
  | nil =>
   refine a0e (a:=(m.Prev,q)) (a0b (by simp) a0h) ?_
   have:=fin q.Log (by rw [hE]; rfl)
   unfold wn at this
   rw [hE] at this
   simpa using this
  | cons e t =>
   have ht:t=[]:=by have:=hm.e; rw [hE] at this; simp at this; exact this
   subst ht
   have e1:r8 .i64 (m.Prev+1)=m.Prev+1:=k9 (by omega) (by omega)
   have eth:wn m=m.Prev+1:=by unfold wn; rw [hE]; rfl
   rw [eth] at a4 a5
   rw [hE] at a2 a3 a4
   simp only [ws] at a2 a3 a4
   have fin2:=fin _ rfl
   rw [eth,hE] at fin2
   refine a0e (a:=(m.Prev+1,⟨q.Term,q.Leads,ws q.Log m.Prev.toNat [e],q.Commit,q.Match⟩)) (a0l (by simp) (a0c zep ?_)) fin2
   have j2:∀ L:List Entry,m.Prev<L.length→Ev (fun _=>qb3 m q ⟨q.Term,q.Leads,L,q.Commit,q.Match⟩) (m.Prev+1,⟨q.Term,q.Leads,L,q.Commit,q.Match⟩):=fun L hL=>by
    unfold qb3
    rw [e1]
    exact a0l (by simpa using hL) a0h
   by_cases h1:m.Prev<q.Log.length
   ·obtain ⟨f,f1,f2⟩:=qnr hm h1
    by_cases h2:f.Term=e.Term
    ·have hn':ws q.Log m.Prev.toNat [e]=q.Log:=by
      exact if_pos (by rw [f2]; simp [h2])
     rw [hn']
     refine a0e (a:=false) (a0l (by simpa using h1) (a0c f1 (a23 (by simp [h2])))) (a0e (a:=q) (a0b rfl a0h) ?_)
     unfold qae
     exact a0e (a:=⟨q.Term,q.Leads,q.Log,q.Commit,q.Match⟩) (a0b (by simp; omega) a0h) (j2 _ h1)
    ·have hn':ws q.Log m.Prev.toNat [e]=q.Log.take m.Prev.toNat++[e]:=by
      exact if_neg (by rw [f2]; simpa using h2)
     rw [hn']
     refine a0e (a:=true) (a0l (by simpa using h1) (a0c f1 (a23 (by simpa using h2)))) (a0e (a:=⟨q.Term,q.Leads,q.Log.take m.Prev.toNat,q.Commit,q.Match⟩) (a0l rfl (a0c (qf6 hp.1 (by omega)) (a0c (qaq (by rw [List.length_take]; omega)) a0h))) ?_)
     unfold qae
     exact a0e (a:=⟨q.Term,q.Leads,q.Log.take m.Prev.toNat++[e],q.Commit,q.Match⟩) (a0l (by simp; omega) (a0c (qis (by simp; omega)) a0h)) (j2 _ (by simp; omega))
   ·have hpl:m.Prev=q.Log.length:=by omega
    have hn':ws q.Log m.Prev.toNat [e]=q.Log++[e]:=by
     refine (if_neg (by rw [a00 (by omega)]; simp)).trans ?_
     rw [a25 (by omega)]
    rw [hn']
    refine a0e (a:=false) (a0b (by simpa using h1) a0h) (a0e (a:=q) (a0b rfl a0h) ?_)
    unfold qae
    exact a0e (a:=⟨q.Term,q.Leads,q.Log++[e],q.Commit,q.Match⟩) (a0l (by simp; omega) (a0c (qis (by omega)) a0h)) (j2 _ (by simp; omega))
theorem qye {n:Nat}{r:Raft}{m:Mail}(hn:r.Peers.length=n)(hn5:n≤5)(hm:MG n m)(ha:Acc n (pr r m.To) m)(hM:r.Mail.length<20) :
  (m.Reply=false→Ev (fun _=>(ul r m).bind fun v111=>(some (v111.1,(Mail.mk m.Reply m.From m.To m.Term m.Prev m.PTerm v111.2.Entry m.Commit m.Match)))) (uw r m (pr r m.To),m)) ∧
  (m.Reply=true→Ev (fun _=>((if (pr r m.To).Leads=true then ((zy (pr r m.To).Match m.From).bind fun x129=>(some (decide (x129<m.Match)))) else (some false)).bind fun v129=>(if (v129&&(decide (m.Match ≤
  (p9 (pr r m.To).Log:Int))))=true then ((zy (pr r m.To).Match m.From).bind fun x158=>(some ((Raft.mk (List.set r.Peers m.To.toNat
  (Peer.mk (pr r m.To).Term (pr r m.To).Leads (pr r m.To).Log (pr r m.To).Commit (List.set (pr r m.To).Match m.From.toNat m.Match))) r.Mail),m))) else (some (r,m))))) (uw r m (pr r m.To),m)):=by
 refine ⟨fun hr=>?_,fun hr=>?_⟩
 ·unfold uw
  rw [if_neg (by rw [hr]; decide)]
  exact a0e (q10 hn hn5 hm hr ha hM) a0h
 ·have eg:uw r m (pr r m.To)=if (pr r m.To).Leads=true∧((pr r m.To).Match[m.From.toNat]?).getD 0<m.Match then ⟨r.Peers.set m.To.toNat ⟨(pr r m.To).Term,(pr r m.To).Leads,(pr r m.To).Log,(pr r m.To).Commit,(pr r m.To).Match.set m.From.toNat m.Match⟩,r.Mail⟩ else r:=by
   unfold uw
   rw [if_pos hr]
  have hg:=ql6 ha.pg.ml hm.f
  by_cases hl:(pr r m.To).Leads=true
  ·have hle:=ha.rep hr hl
   refine a0e (a:=decide (((pr r m.To).Match[m.From.toNat]?).getD 0<m.Match)) (a0l hl (a0c hg a0h)) ?_
   by_cases h:((pr r m.To).Match[m.From.toNat]?).getD 0<m.Match
   ·rw [show uw r m (pr r m.To)=_ from eg.trans (if_pos ⟨hl,h⟩)]
    exact a0l (by simp [h,hle]) (a0c hg a0h)
   ·rw [show uw r m (pr r m.To)=r from eg.trans (if_neg (fun q=>h q.2))]
    exact a0b (by simp [h]) a0h
  ·rw [show uw r m (pr r m.To)=r from eg.trans (if_neg (fun q=>hl q.1))]
   exact a0e (a:=false) (a0b (by simpa using hl) a0h) (a0b (by simp) a0h)
theorem zc7 {n:Nat}{r:Raft}{m:Mail}(hn:r.Peers.length=n)(hn5:n≤5)(hm:MG n m)(ha:∀ q,(q=pr r m.To∧m.Term=(pr r m.To).Term)∨(q=xv n (pr r m.To) m.Term∧(pr r m.To).Term<m.Term)→Acc n q m)(hM:r.Mail.length<20) : Ev (fun _=>qci r m) (come r m,m):=by
 have hto:je r.Peers.length m.To:=by rw [hn]; exact hm.t
 obtain ⟨g1,g2,g3⟩:=wv hto
 unfold qci
 refine a0c g1 ?_
 by_cases h:(pr r m.To).Term<m.Term
 ·rw [show come r m=_ from if_pos h]
  have hb:=ha _ (.inr ⟨rfl,h⟩)
  have hs:=qfn (r:=r) (M:=r.Mail) (x:=xv n (pr r m.To) m.Term) hto
  have e1:pr ⟨r.Peers.set m.To.toNat (xv n (pr r m.To) m.Term),r.Mail⟩ m.To=xv n (pr r m.To) m.Term:=by rw [hs,j0]
  obtain ⟨s1,s2⟩:=qye (r:=⟨r.Peers.set m.To.toNat (xv n (pr r m.To) m.Term),r.Mail⟩) (n:=n) (m:=m) (by simp [hn]) hn5 hm (by rw [e1]; exact hb) hM
  rw [e1] at s1 s2
  refine a0l (by simpa using h) (a0c (qme (b:=8) (n:=r.Peers.length) (z:=(0:Int)) (by omega)) (a0b (by simp) ?_))
  rw [hn]
  by_cases hr:m.Reply=true
  ·refine a0b (by simp [hr]) ?_
   unfold uw
   rw [if_pos hr,if_neg (fun q=>by cases q.1)]
   exact a0h
  ·have hr':m.Reply=false:=by simpa using hr
   exact a0l (by simp [hr']) (s1 hr')
 ·have ec:come r m=if m.Term≠(pr r m.To).Term then r else uw r m (pr r m.To):=if_neg h
  refine a0b (by simpa using h) ?_
  by_cases h2:m.Term=(pr r m.To).Term
  ·rw [show come r m=_ from ec.trans (if_neg (fun q=>q h2))]
   obtain ⟨s1,s2⟩:=qye hn hn5 hm (ha _ (.inl ⟨rfl,h2⟩)) hM
   refine a0b (by simpa using h2) ?_
   by_cases hr:m.Reply=true
   ·exact a0b (by simp [hr]) (s2 hr)
   ·have hr':m.Reply=false:=by simpa using hr
    exact a0l (by simp [hr']) (s1 hr')
  ·rw [show come r m=r from ec.trans (if_pos h2)]
   exact a0l (by simpa using h2) a0h
theorem q7w {a b:Int} : mnI a b≤a∧mnI a b≤b:=by unfold mnI; split <;> omega
theorem q7h {a b c:Int}(h1:a≤c)(h2:b≤c) : mxI a b≤c:=by unfold mxI; split <;> omega
theorem zeo {a b:Int}(h:a≤b) : mnI a b=a:=by unfold mnI; rw [if_neg (by omega)]
theorem zac {p:Peer}{l:List Peer}{k:Nat}(hk:l[k]? = some p){B:Nat→List Peer→Option (Oc (List Peer) (Raft × Mail))}(hl:p.Match.length≤1000)(hz:∀ x∈p.Match,x=0)(hB:∀ i:Nat,p.Match[i]? = some 0→Ev (fun _=>B i l) (.nxt l)) : Ev (fun _=>wi B (p.Match.length:Int) l) (.nxt l):=by
 simp only [qdx]
 refine yo (B:=fun _ i _ s=>B i s) (by simp; omega) (fun i q s=>i+q.length=p.Match.length∧s=l) (by simp) (fun i _ q s ⟨h1,hs⟩ => .inl ?_) (fun i s ⟨h1,hs⟩=>by rw [hs])
 simp only [a0p] at h1
 have hx:p.Match[i]? = some (p.Match[i]'(by omega)):=s8 _
 have:=hz _ (a0o hx)
 rw [this] at hx
 subst hs
 exact ⟨_,hB i hx,by omega,rfl⟩
theorem qgt {α:Type}{l:List α}{i:Nat}{x:α}(h:l[i]? = some x) : l.set i x=l:=by
 apply List.ext_getElem?
 intro j
 by_cases e:i=j
 ·subst e
  rw [a1i (List.getElem?_eq_some_iff.1 h).1,h]
 ·rw [a1o e]
theorem qyw {n:Nat}{r:Raft}{m:Mail}(hn:r.Peers.length=n)(hn5:n≤5)(hm:MG n m)(ha:Acc n (pr r m.To) m)(hM:r.Mail.length<20)(ht:m.Term=(pr r m.To).Term) : Ev (fun _=>qaa r m r.Peers) (uw r m (pr r m.To),m):=by
 have hto:je r.Peers.length m.To:=by rw [hn]; exact hm.t
 obtain ⟨g1,g2,g3⟩:=wv hto
 have hq:=ha.pg
 have hp:=hm.p
 have hc:=hm.c
 have hlg:=hq.lg
 have hc0:=hq.c0
 have hc1:=hq.c1
 have hgs:∀ y:Peer,zy (r.Peers.set m.To.toNat y) m.To=some y:=fun y=>by
  unfold zy
  rw [if_pos hto.1]
  exact a1i g3
 unfold qaa
 refine a0c g1 (a0b (by simpa using ht) ?_)
 by_cases hr:m.Reply=true
 ·refine a0l hr ?_
  have eg:uw r m (pr r m.To)=if (pr r m.To).Leads=true∧((pr r m.To).Match[m.From.toNat]?).getD 0<m.Match then ⟨r.Peers.set m.To.toNat ⟨(pr r m.To).Term,(pr r m.To).Leads,(pr r m.To).Log,(pr r m.To).Commit,(pr r m.To).Match.set m.From.toNat m.Match⟩,r.Mail⟩ else r:=by
   unfold uw
   rw [if_pos hr]
  have hg:=ql6 hq.ml hm.f
  by_cases hl:(pr r m.To).Leads=true
  ·have hle:=ha.rep hr hl
   refine a0e (a0l hl (a0c hg a0h)) ?_
   have hmn:mnI m.Match ((pr r m.To).Log.length:Int)=m.Match:=by unfold mnI; rw [if_neg (by omega)]
   rw [hmn]
   unfold qb1
   by_cases h:((pr r m.To).Match[m.From.toNat]?).getD 0<m.Match
   ·rw [show uw r m (pr r m.To)=_ from eg.trans (if_pos ⟨hl,h⟩)]
    have hmx:mxI (((pr r m.To).Match[m.From.toNat]?).getD 0) m.Match=m.Match:=by unfold mxI; rw [if_pos h]
    rw [hmx]
    exact a0h
   ·rw [show uw r m (pr r m.To)=r from eg.trans (if_neg (fun q=>h q.2))]
    have hmx:mxI (((pr r m.To).Match[m.From.toNat]?).getD 0) m.Match=((pr r m.To).Match[m.From.toNat]?).getD 0:=by unfold mxI; rw [if_neg (by omega)]
    have hf:=hm.f
    have hmg:(pr r m.To).Match[m.From.toNat]? = some (((pr r m.To).Match[m.From.toNat]?).getD 0):=by
     have hlt:m.From.toNat<(pr r m.To).Match.length:=by rw [hq.ml]; have:=hf.1; have:=hf.2; omega
     rw [s8 hlt]
     rfl
    rw [hmx,qgt hmg,qgt g2]
    exact a0h
  ·rw [show uw r m (pr r m.To)=r from eg.trans (if_neg (fun q=>hl q.1))]
   refine a0e (a:=r.Peers) (a0b (by simpa using hl) a0h) ?_
   unfold qb1
   exact a0h
 ·have hr':m.Reply=false:=by simpa using hr
  refine a0b (by simp [hr']) (a0e (qsc hq hm) ?_)
  have eg:uw r m (pr r m.To)=if qfx (pr r m.To) m=true then r else ⟨r.Peers.set m.To.toNat (qfi (pr r m.To) m),r.Mail++[qhk (pr r m.To) m]⟩:=by
   unfold uw
   rw [if_neg (by rw [hr']; decide)]
  cases hb:qfx (pr r m.To) m with
  | true =>
   rw [show uw r m (pr r m.To)=r from eg.trans (if_pos hb)]
   exact a0l rfl a0h
  | false =>
   rw [show uw r m (pr r m.To)=_ from eg.trans (if_neg (by rw [hb]; decide))]
   refine a0b rfl ?_
   obtain ⟨a1,a2,a3,a4,a5⟩:=ha.req hr' hb
   have hnb:¬ (((pr r m.To).Log.length:Int)<m.Prev):=fun q=>by
    unfold qfx at hb
    rw [decide_eq_true q] at hb
    cases hb
   have hmz:=hq.mz a1
   have hml:=hq.ml
   generalize pr r m.To=q at *
   have ht0:0≤wn m:=by unfold wn; omega
   -- what comes behind the rows
   have fin:∀ s:List Peer,s=r.Peers.set m.To.toNat ⟨q.Term,q.Leads,ws q.Log m.Prev.toNat m.Entry,q.Commit,q.Match⟩→Ev (fun _=>qbr r m (wn m) s) (⟨r.Peers.set m.To.toNat (qfi q m),r.Mail++[qhk q m]⟩,m):=by
    rintro s rfl
    unfold qbr
    refine a0c (hgs _) ?_
    have hcm:mnI (mxI q.Commit (mnI m.Commit (wn m))) ((ws q.Log m.Prev.toNat m.Entry).length:Int)=mxI q.Commit (mnI m.Commit (wn m)):=zeo (q7h a3 (Int.le_trans q7w.2 a4))
    dsimp only
    rw [hcm,List.set_set]
    refine Ev.jn (s:=r.Peers.set m.To.toNat (qfi q m)) (zac (p:=qfi q m) (k:=m.To.toNat) (a1i g3) (by show q.Match.length≤1000; omega) hmz (fun i hi=>?_)) ?_
    ·unfold qbz
     refine a0c (hgs _) (a0c (y9 hi) (a23 ?_))
     have h0:mnI 0 ((qfi q m).Log.length:Int)=0:=by unfold mnI; rw [if_neg (by omega)]
     rw [h0,Int.toNat_natCast,qgt hi,List.set_set]
    ·unfold qeh
     exact a0c (hgs _) (a0c (qg9 (by omega)) a0h)
   cases hE:m.Entry with
   | nil =>
    refine Ev.jn (s:=(wn m,r.Peers)) ?_ (fin _ ?_)
    ·unfold wn
     rw [hE]
     simp only [a1y,Int.natCast_zero,Int.add_zero]
     exact a23 rfl
    ·rw [hE]
     exact (qgt g2).symm
   | cons e t =>
    have htl:t=[]:=by have:=hm.e; rw [hE] at this; simp at this; exact this
    subst htl
    have e1:r8 .i64 (m.Prev+1)=m.Prev+1:=k9 (by omega) (by omega)
    have eth:wn m=m.Prev+1:=by unfold wn; rw [hE]; rfl
    rw [eth] at a4 a5
    rw [hE] at a2 a3 a4
    simp only [ws] at a2 a3 a4
    refine Ev.jn (s:=(wn m,r.Peers.set m.To.toNat ⟨q.Term,q.Leads,ws q.Log m.Prev.toNat m.Entry,q.Commit,q.Match⟩)) ?_ (fin _ rfl)
    have one:∀ {F:Nat→Int × List Peer→Option (Oc (Int × List Peer) (Raft × Mail))} {s0 s1:Int × List Peer},Ev (fun _=>F 0 s0) (.nxt s1)→Ev (fun _=>wi F ((([e] : List Entry).length:Nat) : Int) s0) (.nxt s1):=fun {F s0 s1} ⟨K,h⟩=>⟨K,fun k hk=>by
     have:=h k hk
     simp only [qdx]
     unfold jt
     rw [if_pos (by simp)]
     simp only [a0p,a1y,List.replicate_succ,List.replicate_zero,xy,this]⟩
    refine one ?_
    unfold qbx
    rw [hE,eth]
    have j4:∀ L:List Entry,m.Prev<L.length→Ev (fun _=>qb5 m m.Prev (r.Peers.set m.To.toNat ⟨q.Term,q.Leads,L,q.Commit,q.Match⟩)) (.nxt (m.Prev+1,r.Peers.set m.To.toNat ⟨q.Term,q.Leads,L,q.Commit,q.Match⟩)):=fun L hL=>by
     unfold qb5
     rw [e1]
     exact a0c (hgs _) (a0l (by simpa using hL) a0h)
    refine a0c (a:=e) rfl (a0c g1 ?_)
    by_cases h1:m.Prev<q.Log.length
    ·obtain ⟨f,f1,f2⟩:=qnr hm h1
     by_cases h2:f.Term=e.Term
     ·have hn':ws q.Log m.Prev.toNat [e]=q.Log:=if_pos (by rw [f2]; simp [h2])
      rw [hn']
      refine a0e (a:=false) (a0l (by simpa using h1) (a0c f1 (a23 (by simp [h2])))) (a0e (a:=r.Peers) (a0b rfl a0h) ?_)
      unfold qaf
      refine a0c g1 (a0e (a:=r.Peers) (a0b (by simp; omega) a0h) ?_)
      have:=j4 q.Log h1
      rwa [qgt g2] at this ⊢
     ·have hn':ws q.Log m.Prev.toNat [e]=q.Log.take m.Prev.toNat++[e]:=if_neg (by rw [f2]; simpa using h2)
      rw [hn']
      refine a0e (a:=true) (a0l (by simpa using h1) (a0c f1 (a23 (by simpa using h2)))) (a0e (a:=r.Peers.set m.To.toNat ⟨q.Term,q.Leads,q.Log.take m.Prev.toNat,q.Commit,q.Match⟩) (a0l rfl (a0c (qf6 hp.1 (by omega)) a0h)) ?_)
      unfold qaf
      refine a0c (hgs _) (a0e (a:=r.Peers.set m.To.toNat ⟨q.Term,q.Leads,q.Log.take m.Prev.toNat++[e],q.Commit,q.Match⟩) (a0l (by simp; omega) (a0c (qis (by simp; omega)) (a23 (by rw [List.set_set])))) (j4 _ (by simp; omega)))
    ·have hpl:m.Prev=q.Log.length:=by omega
     have hn':ws q.Log m.Prev.toNat [e]=q.Log++[e]:=by
      refine (if_neg (by rw [a00 (by omega)]; simp)).trans ?_
      rw [a25 (by omega)]
     rw [hn']
     refine a0e (a:=false) (a0b (by simpa using h1) a0h) (a0e (a:=r.Peers) (a0b rfl a0h) ?_)
     unfold qaf
     exact a0c g1 (a0e (a:=r.Peers.set m.To.toNat ⟨q.Term,q.Leads,q.Log++[e],q.Commit,q.Match⟩) (a0l (by simp; omega) (a0c (qis (by omega)) a0h)) (j4 _ (by simp; omega)))
theorem zcv {n:Nat}{r:Raft}{m:Mail}(hn:r.Peers.length=n)(hn5:n≤5)(hm:MG n m)(ha:∀ q,(q=pr r m.To∧m.Term=(pr r m.To).Term)∨(q=xv n (pr r m.To) m.Term∧(pr r m.To).Term<m.Term)→Acc n q m)(hM:r.Mail.length<20) : Ev (fun _=>qcp r m) (come r m,m):=by
 have hto:je r.Peers.length m.To:=by rw [hn]; exact hm.t
 obtain ⟨g1,g2,g3⟩:=wv hto
 unfold qcp
 refine a0c g1 ?_
 by_cases h:(pr r m.To).Term<m.Term
 ·rw [show come r m=_ from if_pos h]
  have hb:=ha _ (.inr ⟨rfl,h⟩)
  have hs:=qfn (r:=r) (M:=r.Mail) (x:=xv n (pr r m.To) m.Term) hto
  have e1:pr ⟨r.Peers.set m.To.toNat (xv n (pr r m.To) m.Term),r.Mail⟩ m.To=xv n (pr r m.To) m.Term:=by rw [hs,j0]
  have s1:=qyw (r:=⟨r.Peers.set m.To.toNat (xv n (pr r m.To) m.Term),r.Mail⟩) (n:=n) (m:=m) (by simp [hn]) hn5 hm (by rw [e1]; exact hb) hM (by rw [e1]; rfl)
  rw [e1] at s1
  refine a0e (a:=r.Peers.set m.To.toNat (xv n (pr r m.To) m.Term)) (a0l (by simpa using h) (a0c (qme (b:=8) (n:=r.Peers.length) (z:=(0:Int)) (by omega)) (a23 (by rw [hn]; rfl)))) ?_
  rw [hn]
  exact s1
 ·have ec:come r m=if m.Term≠(pr r m.To).Term then r else uw r m (pr r m.To):=if_neg h
  refine a0e (a:=r.Peers) (a0b (by simpa using h) a0h) ?_
  by_cases h2:m.Term=(pr r m.To).Term
  ·rw [show come r m=_ from ec.trans (if_neg (fun q=>q h2))]
   exact qyw hn hn5 hm (ha _ (.inl ⟨rfl,h2⟩)) hM h2
  ·rw [show come r m=r from ec.trans (if_pos h2)]
   unfold qaa
   exact a0c g1 (a0l (by simpa using h2) a0h)
end Go.Proofs.Ytanblnjomhgphaa.X
