/- A raft: a step; both sides. -/
import Derived.Test.YtanblnjomhgphaaXAL10g
open Bool renaming and_eq_true→a0o,not_eq_true'→a1t,or_eq_true→a1z
open Classical renaming byContradiction→a1m
open Go.Proofs.Ytanblnjomhgphaa.X.Ev renaming bindp→t7,bind→a0a,iteF→t3,iteT→a0e,of→a2p,rfl→a0b
open Go.IntKind renaming wrap→l9
open List renaming length_take→a0f,length→o6,set→a0u
set_option linter.unusedVariables false
set_option linter.unusedSimpArgs false
namespace Go.Proofs.Ytanblnjomhgphaa.X
open Go

def qc3 (l:List Mail)(k:Nat) : List Mail:=l.take k++l.drop (k+1)
inductive RS (n:Nat) (r:Raft) (x:RaftStep) : Raft→Prop
 | elect (N:Nat) (t:Int) : je n x.K→isMx (fun v=>(pr r v).Term) t (fun w=>w∈vts N)→t≤100→canE n r x.K t (vts N)→RS n r x ⟨qga r n x.K (t+1) (vts N),r.Mail⟩
 | propose:je n x.K→(pr r x.K).Leads=true→qjn r x→RS n r x ⟨r.Peers.set x.K.toNat (qh3 (pr r x.K) x),r.Mail⟩
 | send:je n x.K→(pr r x.K).Leads=true→qhl n r x→RS n r x ⟨r.Peers,r.Mail++[yu (pr r x.K) x]⟩
 | commit:je n x.K→(pr r x.K).Leads=true→qjm n r x→RS n r x ⟨r.Peers.set x.K.toNat (qou (pr r x.K) x.N),r.Mail⟩
 | take (m:Mail) : r.Mail[x.K.toNat]? = some m→RS n r x (come ⟨r.Peers,qc3 r.Mail x.K.toNat⟩ m)
 | lose:RS n r x ⟨r.Peers,qc3 r.Mail x.K.toNat⟩
 | twice (m:Mail) : r.Mail[x.K.toNat]? = some m→r.Mail.length<20→RS n r x ⟨r.Peers,r.Mail++[m]⟩
def AccA (n:Nat)(r:Raft) : Prop:=∀ m∈r.Mail,∀ q,(q=pr r m.To∧m.Term=(pr r m.To).Term)∨(q=w9 n (pr r m.To) m.Term∧(pr r m.To).Term<m.Term)→Acc n q m
def Both (n:Nat)(r:Raft)(x:RaftStep) : Prop:=(∃ y,RS n r x y∧Ev (fun k=>kw k r x) (y,true)∧Ev (fun _=>kq r x) (y,true))∨(Ev (fun k=>kw k r x) (r,false)∧Ev (fun _=>kq r x) (⟨[],[]⟩,false))
theorem qo4 {l:List Mail}{k:Nat}(h:k<l.length) : (qc3 l k).length+1=l.length:=by
 unfold qc3
 simp
 omega
theorem qd9 {l:List Mail}{k:Nat}{m:Mail}(h:m∈qc3 l k) : m∈l:=by
 rcases List.mem_append.1 h with q | q
 ·exact List.mem_of_mem_take q
 ·exact List.mem_of_mem_drop q
theorem qqb {n:Nat}{r:Raft}{k:Int}(hn:r.Peers.length=n) : jy r k=true↔je n k:=by
 unfold jy je
 rw [hn]
 simp
theorem q1f {n:Nat}{r:Raft}{k:Int}(hn:r.Peers.length=n)(n5:1≤n∧n≤5) : jh k 0 (l9 .i64 ((o6 r.Peers:Int) - 1))=true↔je n k:=by
 rw [hn,wq (n:=(n:Int) - 1) (by omega) (by omega)]
 unfold jh je
 simp
 omega
theorem qut {n:Nat}{r:Raft}{x:RaftStep}(h:SG n r)(ha:AccA n r)(hk:4≤x.Kind∧x.Kind≤6) : Both n r x:=by
 have hn:=h.hn
 have n5:=h.n1
 have ml:=h.ml
 have e1:l9 .i64 ((o6 r.Mail:Int) - 1)=(r.Mail.length:Int) - 1:=wq (by omega) (by omega)
 have c1:((((decide (x.K<0))||(decide ((o6 r.Mail:Int)≤x.K)))||(decide (x.To≠0)))||(decide (x.N≠0)))=true↔¬ ((0≤x.K∧x.K<r.Mail.length)∧x.To=0∧x.N=0):=by
  simp only [a1z,decide_eq_true_eq]
  omega
 have c2:(((decide (x.To≠0))||(decide (x.N≠0)))||(!(jh x.K 0 (l9 .i64 ((o6 r.Mail:Int) - 1)))))=true↔¬ ((0≤x.K∧x.K<r.Mail.length)∧x.To=0∧x.N=0):=by
  rw [e1]
  unfold jh
  simp only [a1z,decide_eq_true_eq,a1t,Bool.and_eq_false_imp,decide_eq_false_iff_not]
  omega
 have isp:∀ {o:Raft × Bool},Ev (fun k=>(if ((((decide (x.K<0))||(decide
  ((o6 r.Mail:Int)≤x.K)))||(decide (x.To≠0)))||(decide (x.N≠0)))=true then (some (r,
  false)) else ((zn r.Mail x.K).bind fun x49=>(if (decide (x.Kind=6))=true then (if (decide ((o6 r.Mail:Int)=20))=true then (some (r,
  false)) else ((ju 88 r.Mail [x49]).bind fun l87=>(some ((Raft.mk r.Peers l87),
  true)))) else ((sl r.Mail 0 x.K).bind fun l106=>((ju 88 ([] : List Mail) l106).bind fun l112=>((sl r.Mail (l9 .i64 (x.K+1))
  (o6 r.Mail)).bind fun l123=>((ju 88 l112 l123).bind fun l129=>((if (decide (x.Kind=4))=true then ((qbw
  (Raft.mk r.Peers l129) x49).bind fun v157=>(some (v157.1,v157.1.Peers))) else (some ((Raft.mk r.Peers l129),
  r.Peers))).bind (fun s181=>qez s181.1 s181.2)))))))))) o→Ev (fun k=>kw k r x) o:=fun ho=>by
  unfold kw
  exact a0e (qkv.2 hk) ho
 have iim:∀ {o:Raft × Bool},Ev (fun _=>yp r x r true) o→Ev (fun _=>kq r x) o:=fun ho=>by
  unfold kq
  refine a0a (qn0 h) (t3 (by simp; omega) (a0a (a:=false) (t3 (by simp; omega) (t3 (by simp; omega) (a2p (by simp; omega)))) ?_))
  unfold ut
  refine t3 (by simp) (a0a (a:=true) ?_ ho)
  by_cases q4:x.Kind=4
  ·exact a0e (by simpa using q4) (a2p (by simp [q4]))
  ·refine t3 (by simpa using q4) ?_
   by_cases q5:x.Kind=5
   ·exact a0e (by simpa using q5) (a2p (by simp [q5]))
   ·exact t3 (by simpa using q5) (a2p (by simp; omega))
 by_cases c:(0≤x.K∧x.K<r.Mail.length)∧x.To=0∧x.N=0
 ·obtain ⟨⟨k0,k1⟩,_,_⟩:=id c
  obtain ⟨m,m1,m2⟩ : ∃ m,zn r.Mail x.K=some m∧r.Mail[x.K.toNat]? = some m:=by
   have hx:r.Mail[x.K.toNat]? = some (r.Mail[x.K.toNat]'(by omega)):=List.getElem?_eq_getElem _
   refine ⟨_,?_,hx⟩
   unfold zn
   rw [if_pos k0]
   exact hx
  have hm:=List.mem_of_getElem? m2
  have hmg:=h.mg m hm
  have eK:l9 .i64 (x.K+1)=((x.K.toNat+1:Nat) : Int):=by rw [wq (n:=x.K+1) (by omega) (by omega)]; omega
  have s1:sl r.Mail 0 x.K=some (r.Mail.take x.K.toNat):=qkm k0 (by omega)
  have s2:sl r.Mail ((x.K.toNat+1:Nat) : Int) (o6 r.Mail)=some (r.Mail.drop (x.K.toNat+1)):=zar (by omega)
  have s3:ju 88 ([] : List Mail) (r.Mail.take x.K.toNat)=some (r.Mail.take x.K.toNat):=qbg (by rw [a0f]; omega)
  have s4:ju 88 (r.Mail.take x.K.toNat) (r.Mail.drop (x.K.toNat+1))=some (qc3 r.Mail x.K.toNat):=by
   unfold ju
   rw [if_pos (by rw [a0f,List.length_drop]; omega)]
   rfl
  have dl:w6 r.Mail x.K ((x.K.toNat+1:Nat) : Int)=some (qc3 r.Mail x.K.toNat):=by
   unfold w6 qm6
   rw [if_pos (by omega)]
   rfl
  have hlt:=qo4 (l:=r.Mail) (k:=x.K.toNat) (by omega)
  by_cases k6:x.Kind=6
  ·by_cases l20:r.Mail.length=20
   ·refine .inr ⟨isp (t3 (bF c1 (fun q=>q c)) (t7 m1 (a0e (by simpa using k6) (a0e (by simp; omega) a0b)))),iim ?_⟩
    unfold yp
    exact a0e rfl (t3 (bF c2 (fun q=>q c)) (t7 m1 (a0e (by simpa using k6) (t7 (qbg (by have:=hmg.e; omega)) (t7 (qgq (by omega)) (a0e (by simp; omega) a0b))))))
   ·refine .inl ⟨⟨r.Peers,r.Mail++[m]⟩,.twice m m2 (by omega),isp (t3 (bF c1 (fun q=>q c)) (t7 m1 (a0e (by simpa using k6) (t3 (by simp; omega) (t7 (qgq (by omega)) a0b))))),iim ?_⟩
    unfold yp
    exact a0e rfl (t3 (bF c2 (fun q=>q c)) (t7 m1 (a0e (by simpa using k6) (t7 (qbg (by have:=hmg.e; omega)) (t7 (qgq (by omega)) (t3 (by simp; omega) a0b))))))
  ·by_cases k4:x.Kind=4
   ·have a1:=zdx (n:=n) (r:=⟨r.Peers,qc3 r.Mail x.K.toNat⟩) (m:=m) hn n5.2 hmg (ha m hm) (by dsimp only; omega)
    have a2:=zdj (n:=n) (r:=⟨r.Peers,qc3 r.Mail x.K.toNat⟩) (m:=m) hn n5.2 hmg (ha m hm) (by dsimp only; omega)
    refine .inl ⟨_,.take m m2,isp (t3 (bF c1 (fun q=>q c)) (t7 m1 (t3 (by simpa using k6) (t7 s1 (t7 s3 ?_))))),iim ?_⟩
    ·rw [eK]
     exact t7 s2 (t7 s4 (a0a (a0e (by simpa using k4) (a0a a1 a0b)) a0b))
    ·unfold yp
     rw [eK]
     exact a0e rfl (t3 (bF c2 (fun q=>q c)) (t7 m1 (t3 (by simpa using k6) (a0e (by simpa using k4) (t7 dl (a0a a2 (t3 rfl a0b)))))))
   ·refine .inl ⟨_,.lose,isp (t3 (bF c1 (fun q=>q c)) (t7 m1 (t3 (by simpa using k6) (t7 s1 (t7 s3 ?_))))),iim ?_⟩
    ·rw [eK]
     exact t7 s2 (t7 s4 (a0a (t3 (by simpa using k4) a0b) a0b))
    ·unfold yp
     rw [eK]
     exact a0e rfl (t3 (bF c2 (fun q=>q c)) (t7 m1 (t3 (by simpa using k6) (t3 (by simpa using k4) (t7 dl (t3 rfl a0b))))))
 ·refine .inr ⟨isp (a0e (c1.2 c) a0b),iim ?_⟩
  unfold yp
  exact a0e rfl (a0e (c2.2 c) a0b)
theorem qie {n:Nat}{r:Raft}{x:RaftStep}(h:SG n r)(hk:¬ (4≤x.Kind∧x.Kind≤6))(hK:je n x.K)(hT:x.Kind=3∨x.To=0){o:Raft × Bool} (ho:Ev (fun k=>(if ((decide (x.Kind=1))&&(yc x.N 1 31))=true then ((xm k r x.K x.N).bind fun v250 =>
  (some (v250.1,v250.2))) else (if (!(pr r x.K).Leads)=true then (some (r,
  false)) else (if (((decide (x.Kind=2))&&(yc x.N 0 99))&&(decide ((o6 (pr r x.K).Log:Int)<30)))=true then
  ((ju 16 (pr r x.K).Log [(Entry.mk (pr r x.K).Term x.N)]).bind fun l298=>((zn (pr r x.K).Match x.K).bind fun x313=>(some ((Raft.mk (a0u r.Peers x.K.toNat
  (Peer.mk (pr r x.K).Term (pr r x.K).Leads l298 (pr r x.K).Commit (a0u (pr r x.K).Match x.K.toNat (o6 l298:Int)))) r.Mail),
  true)))) else (if (decide (x.Kind=3))=true then ((xe r x).bind fun v335=>(some (v335.1,
  v335.2))) else (if (decide (x.Kind=7))=true then ((wz r x.K x.N).bind fun v353=>(some (v353.1,v353.2))) else (some (r,false)))))))) o) : Ev (fun k=>kw k r x) o:=by
 have hn:=h.hn
 have g1:=(x5 (r:=r) (k:=x.K) (by rw [hn]; exact hK)).1
 unfold kw
 refine t3 (bF qkv hk) (t3 ?_ (t7 g1 ho))
 rw [(qqb hn).2 hK]
 simp
 intro q
 exact hT.resolve_left q
theorem qjy {n:Nat}{r:Raft}{x:RaftStep}(h:SG n r)(hk:¬ (4≤x.Kind∧x.Kind≤6))(hc:¬ (je n x.K∧(x.Kind=3∨x.To=0))) : Ev (fun k=>kw k r x) (r,false):=by
 unfold kw
 refine t3 (bF qkv hk) (a0e ?_ a0b)
 simp only [a1z,a1t,a0o,decide_eq_true_eq]
 apply a1m
 intro q
 rw [not_or] at q
 refine hc ⟨(qqb h.hn).1 (by simpa using q.1),?_⟩
 by_cases k3:x.Kind=3
 ·exact .inl k3
 ·exact .inr (a1m fun w=>q.2 ⟨k3,w⟩)
theorem qrq {n:Nat}{r:Raft}{x:RaftStep}(h:SG n r)(hk:x.Kind=1) : Both n r x:=by
 have hn:=h.hn
 have n5:=h.n1
 have iim:∀ {o:Bool × List Peer × List Mail} {o':Raft × Bool},Ev (fun _=>(if ((decide
  (x.To=0))&&(jh x.K 0 (l9 .i64 ((o6 r.Peers:Int) - 1))))=true then ((yv r x.K x.N).bind fun v66=>(some (v66.1,
  v66.2.Peers,v66.2.Mail))) else (some (false,r.Peers,r.Mail)))) o→qdu o.1 o.2.1 o.2.2=some o'→Ev (fun _=>kq r x) o':=fun ho ho'=>by
  unfold kq
  exact a0a (qn0 h) (a0e (by simpa using hk) (a0a ho (a2p ho')))
 have hk':¬ (4≤x.Kind∧x.Kind≤6):=by omega
 have c1:((decide (x.To=0))&&(jh x.K 0 (l9 .i64 ((o6 r.Peers:Int) - 1))))=true↔(je n x.K∧(x.Kind=3∨x.To=0)):=by
  rw [a0o,q1f hn n5,decide_eq_true_iff]
  constructor
  ·rintro ⟨a,b⟩; exact ⟨b,.inr a⟩
  ·rintro ⟨a,b | b⟩
   ·omega
   ·exact ⟨b,a⟩
 by_cases c:je n x.K∧(x.Kind=3∨x.To=0)
 ·obtain ⟨hK,hT⟩:=id c
  have noS:¬ (1≤x.N∧x.N≤31)→Ev (fun k=>kw k r x) (r,false):=fun q=>by
   refine qie h hk' hK hT (t3 (by rw [bF qkv q,Bool.and_false]) ?_)
   cases hl:(pr r x.K).Leads with
   | false=>exact a0e rfl a0b
   | true=>exact t3 rfl (t3 (by simp [hk]) (t3 (by simp [hk]) (t3 (by simp [hk]) a0b)))
  by_cases q:0≤x.N∧x.N<32
  ·obtain ⟨N,hN⟩ : ∃ N:Nat,x.N=(N:Int):=⟨x.N.toNat,by omega⟩
   have hN32:N<32:=by omega
   obtain ⟨t,ht⟩:=zfh (f:=fun v=>(pr r v).Term) (vts N)
   have ht2:qaa (vts N) n→t≤100:=fun hm=>by
    rcases ht.ex with e | ⟨v,e1,e2⟩
    ·omega
    ·have:=(h.pg v ((y9.1 hm).2 v e1)).t1
     rw [←e2]
     exact this
   obtain ⟨a1,a2⟩:=za8 h hK hN32 ht ht2
   obtain ⟨b1,b2⟩:=zbj h hK hN32 ht ht2
   by_cases ce:canE n r x.K t (vts N)
   ·have h1:1≤x.N:=by
     apply a1m
     intro w
     have k0:=ce.k
     rw [show N=0 by omega] at k0
     rw [show vts 0=[] by decide] at k0
     cases k0
    refine .inl ⟨_,.elect N t hK ht (ht2 ce.m) ce,qie h hk' hK hT (a0e (by rw [qkv.2 ⟨h1,by omega⟩,hk]; rfl) ?_),iim (o:=(true,qga r n x.K (t+1) (vts N),r.Mail)) (a0e (c1.2 c) ?_) rfl⟩
    ·rw [hN]
     exact a0a (a1 ce) a0b
    ·rw [hN]
     exact a0a (b1 ce) a0b
   ·refine .inr ⟨?_,iim (o:=(false,r.Peers,r.Mail)) (a0e (c1.2 c) (by rw [hN]; exact a0a (b2 ce) a0b)) rfl⟩
    by_cases h1:1≤x.N
    ·refine qie h hk' hK hT (a0e (by rw [qkv.2 ⟨h1,by omega⟩,hk]; rfl) ?_)
     rw [hN]
     exact a0a (a2 ce) a0b
    ·exact noS (by omega)
  ·exact .inr ⟨noS (by omega),iim (o:=(false,r.Peers,r.Mail)) (a0e (c1.2 c) (a0a (qsj h (by omega)) a0b)) rfl⟩
 ·exact .inr ⟨qjy h hk' c,iim (o:=(false,r.Peers,r.Mail)) (t3 (bF c1 c) a0b) rfl⟩
theorem qr6 {n:Nat}{r:Raft}{x:RaftStep}(h:SG n r)(hk:x.Kind=2∨x.Kind=3∨x.Kind=7) : Both n r x:=by
 have hn:=h.hn
 have n5:=h.n1
 have k1:x.Kind≠1:=by omega
 have hk':¬ (4≤x.Kind∧x.Kind≤6):=by omega
 have iim:∀ {b:Bool} {o:Bool × Raft × List Peer} {o':Raft × Bool},Ev (fun _=>(if (jh x.K 0 (l9 .i64
  ((o6 r.Peers:Int) - 1)))=true then ((zn r.Peers x.K).bind fun x116=>(some x116.Leads)) else (some false))) b→Ev (fun _=>(if (b&&((decide
  (x.Kind=3))||(decide (x.To=0))))=true then ((yb r x).bind fun v170=>(some (v170.1,v170.2,v170.2.Peers))) else (some (false,r,
  r.Peers)))) o→qbn o.1 o.2.1 o.2.2=some o'→Ev (fun _=>kq r x) o':=fun hb ho ho'=>by
  unfold kq
  refine a0a (qn0 h) (t3 (by simpa using k1) (a0a (a:=true) ?_ ?_))
  ·by_cases q2:x.Kind=2
   ·exact a0e (by simpa using q2) (a2p (by simp [q2]))
   ·refine t3 (by simpa using q2) ?_
    by_cases q3:x.Kind=3
    ·exact a0e (by simpa using q3) (a2p (by simp [q3]))
    ·exact t3 (by simpa using q3) (a2p (by simp; omega))
  ·unfold ut
   exact a0e rfl (a0a hb (a0a ho (a2p ho')))
 by_cases hK:je n x.K
 ·have g1:=(x5 (r:=r) (k:=x.K) (by rw [hn]; exact hK)).1
  have hb:Ev (fun _=>(if (jh x.K 0 (l9 .i64
  ((o6 r.Peers:Int) - 1)))=true then ((zn r.Peers x.K).bind fun x116=>(some x116.Leads)) else (some false))) (pr r x.K).Leads:=a0e ((q1f hn n5).2 hK) (t7 g1 a0b)
  by_cases hT:x.Kind=3∨x.To=0
  ·have cT:((decide (x.Kind=3))||(decide (x.To=0)))=true:=by simpa using hT
   cases hl:(pr r x.K).Leads with
   | false =>
    rw [hl] at hb
    refine .inr ⟨qie h hk' hK hT (t3 (by simp [k1]) (a0e (by rw [hl]; rfl) a0b)),iim (o:=(false,r,r.Peers)) hb (t3 (by simp) a0b) rfl⟩
   | true =>
    rw [hl] at hb
    have ss:∀ {o:Raft × Bool},Ev (fun k=>(if (((decide (x.Kind=2))&&(yc x.N 0 99))&&(decide ((o6 (pr r x.K).Log:Int)<30)))=true then
  ((ju 16 (pr r x.K).Log [(Entry.mk (pr r x.K).Term x.N)]).bind fun l298=>((zn (pr r x.K).Match x.K).bind fun x313=>(some ((Raft.mk (a0u r.Peers x.K.toNat
  (Peer.mk (pr r x.K).Term (pr r x.K).Leads l298 (pr r x.K).Commit (a0u (pr r x.K).Match x.K.toNat (o6 l298:Int)))) r.Mail),
  true)))) else (if (decide (x.Kind=3))=true then ((xe r x).bind fun v335=>(some (v335.1,
  v335.2))) else (if (decide (x.Kind=7))=true then ((wz r x.K x.N).bind fun v353=>(some (v353.1,v353.2))) else (some (r,false)))))) o→Ev (fun k=>kw k r x) o:=fun ho=>qie h hk' hK hT (t3 (by simp [k1]) (t3 (by rw [hl]; rfl) ho))
    have ii:∀ {o:Bool × Raft} {o':Raft × Bool},Ev (fun _=>yb r x) o→qbn o.1 o.2 o.2.Peers=some o'→Ev (fun _=>kq r x) o':=fun ho ho'=>iim hb (a0e (by rw [cT]; rfl) (a0a ho a0b)) ho'
    rcases hk with k2 | k3 | k7
    ·obtain ⟨a1,a2⟩:=qwm h hK k2
     have hl:=(h.pg _ hK).lg
     have cond:(((decide (x.Kind=2))&&(yc x.N 0 99))&&(decide ((o6 (pr r x.K).Log:Int)<30)))=true↔qjn r x:=by
      rw [a0o,a0o,qkv,decide_eq_true_iff,decide_eq_true_iff]
      unfold qjn
      omega
     by_cases c:qjn r x
     ·refine .inl ⟨_,.propose hK (by assumption) c,ss (a0e (cond.2 c) (t7 (qij (by omega)) (t7 (qlo (h.pg _ hK).ml hK) (a2p ?_)))),ii (a1 c) rfl⟩
      rw [List.length_append]
      rfl
     ·exact .inr ⟨ss (t3 (bF cond c) (t3 (by simp [k2]) (t3 (by simp [k2]) a0b))),ii (a2 c) rfl⟩
    ·obtain ⟨a1,a2⟩:=zc9 h hK k3
     obtain ⟨b1,b2⟩:=zbz h hK
     by_cases c:qhl n r x
     ·exact .inl ⟨_,.send hK hl c,ss (t3 (by simp [k3]) (a0e (by simp [k3]) (a0a (b1 c) a0b))),ii (a1 c) rfl⟩
     ·exact .inr ⟨ss (t3 (by simp [k3]) (a0e (by simp [k3]) (a0a (b2 c) a0b))),ii (a2 c) rfl⟩
    ·obtain ⟨a1,a2⟩:=q0b h hK k7
     obtain ⟨b1,b2⟩:=q1b h hK
     by_cases c:qjm n r x
     ·exact .inl ⟨_,.commit hK hl c,ss (t3 (by simp [k7]) (t3 (by simp [k7]) (a0e (by simp [k7]) (a0a (b1 c) a0b)))),ii (a1 c) rfl⟩
     ·exact .inr ⟨ss (t3 (by simp [k7]) (t3 (by simp [k7]) (a0e (by simp [k7]) (a0a (b2 c) a0b)))),ii (a2 c) rfl⟩
  ·have cT:((decide (x.Kind=3))||(decide (x.To=0)))=false:=by simpa using hT
   exact .inr ⟨qjy h hk' (fun w=>hT w.2),iim (o:=(false,r,r.Peers)) hb (t3 (by rw [cT,Bool.and_false]) a0b) rfl⟩
 ·exact .inr ⟨qjy h hk' (fun w=>hK w.1),iim (o:=(false,r,r.Peers)) (t3 (bF (q1f hn n5) hK) a0b) (t3 rfl a0b) rfl⟩
theorem qub {n:Nat}{r:Raft}{x:RaftStep}(h:SG n r)(hk:x.Kind<1∨7<x.Kind) : Both n r x:=by
 have hn:=h.hn
 have hk':¬ (4≤x.Kind∧x.Kind≤6):=by omega
 have k1:x.Kind≠1:=by omega
 have k2:x.Kind≠2:=by omega
 have k3:x.Kind≠3:=by omega
 have k4:x.Kind≠4:=by omega
 have k5:x.Kind≠5:=by omega
 have k6:x.Kind≠6:=by omega
 have k7:x.Kind≠7:=by omega
 refine .inr ⟨?_,?_⟩
 ·by_cases c:je n x.K∧(x.Kind=3∨x.To=0)
  ·refine qie h hk' c.1 c.2 (t3 (by simp [k1]) ?_)
   cases hl:(pr r x.K).Leads with
   | false=>exact a0e rfl a0b
   | true=>exact t3 rfl (t3 (by simp [k2]) (t3 (by simp [k3]) (t3 (by simp [k7]) a0b)))
  ·exact qjy h hk' c
 ·unfold kq
  refine a0a (qn0 h) (t3 (by simpa using k1) (a0a (a:=false) (t3 (by simpa using k2) (t3 (by simpa using k3) (a2p (by simp [k7])))) ?_))
  unfold ut
  refine t3 (by simp) (a0a (a:=false) (t3 (by simpa using k4) (t3 (by simpa using k5) (a2p (by simp [k6])))) ?_)
  unfold yp
  exact t3 (by simp) (a0e rfl a0b)
theorem qr5 {n:Nat}{r:Raft}{x:RaftStep}(h:SG n r)(ha:AccA n r) : Both n r x:=by
 by_cases k1:x.Kind=1
 ·exact qrq h k1
 by_cases k2:4≤x.Kind∧x.Kind≤6
 ·exact qut h ha k2
 by_cases k3:x.Kind<1∨7<x.Kind
 ·exact qub h k3
 exact qr6 h (by omega)
end Go.Proofs.Ytanblnjomhgphaa.X
