/- A raft: a step; both sides. -/
import Derived.Test.YtanblnjomhgphaaXBL10g
open Bool renaming and_eq_true→a0s,not_eq_true'→a1x,or_eq_true→a03
open Classical renaming byContradiction→a0u
open Go.Proofs.Ytanblnjomhgphaa.X.Ev renaming bindp→a0c,bind→a0e,iteF→a0b,iteT→a0l,of→a23,rfl→a0h
open Go.IntKind renaming wrap→r8
open List renaming length_take→a0f,length→p9,set→a1b
set_option linter.unusedVariables false
set_option linter.unusedSimpArgs false
namespace Go.Proofs.Ytanblnjomhgphaa.X
open Go

def qdw (l:List Mail)(k:Nat) : List Mail:=l.take k++l.drop (k+1)
inductive RS (n:Nat) (r:Raft) (x:RaftStep) : Raft→Prop
 | elect (N:Nat) (t:Int) : je n x.K→isMx (fun v=>(pr r v).Term) t (fun w=>w∈vts N)→t≤100→canE n r x.K t (vts N)→RS n r x ⟨qgy r n x.K (t+1) (vts N),r.Mail⟩
 | propose:je n x.K→(pr r x.K).Leads=true→qj1 r x→RS n r x ⟨r.Peers.set x.K.toNat (qin (pr r x.K) x),r.Mail⟩
 | send:je n x.K→(pr r x.K).Leads=true→qh9 n r x→RS n r x ⟨r.Peers,r.Mail++[we (pr r x.K) x]⟩
 | commit:je n x.K→(pr r x.K).Leads=true→qjv n r x→RS n r x ⟨r.Peers.set x.K.toNat (qps (pr r x.K) x.N),r.Mail⟩
 | take (m:Mail) : r.Mail[x.K.toNat]? = some m→RS n r x (come ⟨r.Peers,qdw r.Mail x.K.toNat⟩ m)
 | lose:RS n r x ⟨r.Peers,qdw r.Mail x.K.toNat⟩
 | twice (m:Mail) : r.Mail[x.K.toNat]? = some m→r.Mail.length<20→RS n r x ⟨r.Peers,r.Mail++[m]⟩
def AccA (n:Nat)(r:Raft) : Prop:=∀ m∈r.Mail,∀ q,(q=pr r m.To∧m.Term=(pr r m.To).Term)∨(q=xv n (pr r m.To) m.Term∧(pr r m.To).Term<m.Term)→Acc n q m
def Both (n:Nat)(r:Raft)(x:RaftStep) : Prop:=(∃ y,RS n r x y∧Ev (fun k=>kr k r x) (y,true)∧Ev (fun _=>k8 r x) (y,true))∨(Ev (fun k=>kr k r x) (r,false)∧Ev (fun _=>k8 r x) (⟨[],[]⟩,false))
theorem qpr {l:List Mail}{k:Nat}(h:k<l.length) : (qdw l k).length+1=l.length:=by
 unfold qdw
 simp
 omega
theorem qev {l:List Mail}{k:Nat}{m:Mail}(h:m∈qdw l k) : m∈l:=by
 rcases List.mem_append.1 h with q | q
 ·exact List.mem_of_mem_take q
 ·exact List.mem_of_mem_drop q
theorem qqv {n:Nat}{r:Raft}{k:Int}(hn:r.Peers.length=n) : kf r k=true↔je n k:=by
 unfold kf je
 rw [hn]
 simp
theorem q1f {n:Nat}{r:Raft}{k:Int}(hn:r.Peers.length=n)(n5:1≤n∧n≤5) : zg k 0 (r8 .i64 ((p9 r.Peers:Int) - 1))=true↔je n k:=by
 rw [hn,k9 (n:=(n:Int) - 1) (by omega) (by omega)]
 unfold zg je
 simp
 omega
theorem qve {n:Nat}{r:Raft}{x:RaftStep}(h:SG n r)(ha:AccA n r)(hk:4≤x.Kind∧x.Kind≤6) : Both n r x:=by
 have hn:=h.hn
 have n5:=h.n1
 have ml:=h.ml
 have e1:r8 .i64 ((p9 r.Mail:Int) - 1)=(r.Mail.length:Int) - 1:=k9 (by omega) (by omega)
 have c1:((((decide (x.K<0))||(decide ((p9 r.Mail:Int)≤x.K)))||(decide (x.To≠0)))||(decide (x.N≠0)))=true↔¬ ((0≤x.K∧x.K<r.Mail.length)∧x.To=0∧x.N=0):=by
  simp only [a03,decide_eq_true_eq]
  omega
 have c2:(((decide (x.To≠0))||(decide (x.N≠0)))||(!(zg x.K 0 (r8 .i64 ((p9 r.Mail:Int) - 1)))))=true↔¬ ((0≤x.K∧x.K<r.Mail.length)∧x.To=0∧x.N=0):=by
  rw [e1]
  unfold zg
  simp only [a03,decide_eq_true_eq,a1x,Bool.and_eq_false_imp,decide_eq_false_iff_not]
  omega
 have isp:∀ {o:Raft × Bool},Ev (fun k=>(if ((((decide (x.K<0))||(decide
  ((p9 r.Mail:Int)≤x.K)))||(decide (x.To≠0)))||(decide (x.N≠0)))=true then (some (r,
  false)) else ((zy r.Mail x.K).bind fun x49=>(if (decide (x.Kind=6))=true then (if (decide ((p9 r.Mail:Int)=20))=true then (some (r,
  false)) else ((ju 88 r.Mail [x49]).bind fun l87=>(some ((Raft.mk r.Peers l87),
  true)))) else ((sl r.Mail 0 x.K).bind fun l106=>((ju 88 ([] : List Mail) l106).bind fun l112=>((sl r.Mail (r8 .i64 (x.K+1))
  (p9 r.Mail)).bind fun l123=>((ju 88 l112 l123).bind fun l129=>((if (decide (x.Kind=4))=true then ((qci
  (Raft.mk r.Peers l129) x49).bind fun v157=>(some (v157.1,v157.1.Peers))) else (some ((Raft.mk r.Peers l129),
  r.Peers))).bind (fun s181=>qfe s181.1 s181.2)))))))))) o→Ev (fun k=>kr k r x) o:=fun ho=>by
  unfold kr
  exact a0l (qk0.2 hk) ho
 have iim:∀ {o:Raft × Bool},Ev (fun _=>y6 r x r true) o→Ev (fun _=>k8 r x) o:=fun ho=>by
  unfold k8
  refine a0e (qoi h) (a0b (by simp; omega) (a0e (a:=false) (a0b (by simp; omega) (a0b (by simp; omega) (a23 (by simp; omega)))) ?_))
  unfold qag
  refine a0b (by simp) (a0e (a:=true) ?_ ho)
  by_cases q4:x.Kind=4
  ·exact a0l (by simpa using q4) (a23 (by simp [q4]))
  ·refine a0b (by simpa using q4) ?_
   by_cases q5:x.Kind=5
   ·exact a0l (by simpa using q5) (a23 (by simp [q5]))
   ·exact a0b (by simpa using q5) (a23 (by simp; omega))
 by_cases c:(0≤x.K∧x.K<r.Mail.length)∧x.To=0∧x.N=0
 ·obtain ⟨⟨k0,k1⟩,_,_⟩:=id c
  obtain ⟨m,m1,m2⟩ : ∃ m,zy r.Mail x.K=some m∧r.Mail[x.K.toNat]? = some m:=by
   have hx:r.Mail[x.K.toNat]? = some (r.Mail[x.K.toNat]'(by omega)):=List.getElem?_eq_getElem _
   refine ⟨_,?_,hx⟩
   unfold zy
   rw [if_pos k0]
   exact hx
  have hm:=List.mem_of_getElem? m2
  have hmg:=h.mg m hm
  have eK:r8 .i64 (x.K+1)=((x.K.toNat+1:Nat) : Int):=by rw [k9 (n:=x.K+1) (by omega) (by omega)]; omega
  have s1:sl r.Mail 0 x.K=some (r.Mail.take x.K.toNat):=qf6 k0 (by omega)
  have s2:sl r.Mail ((x.K.toNat+1:Nat) : Int) (p9 r.Mail)=some (r.Mail.drop (x.K.toNat+1)):=zaf (by omega)
  have s3:ju 88 ([] : List Mail) (r.Mail.take x.K.toNat)=some (r.Mail.take x.K.toNat):=qaq (by rw [a0f]; omega)
  have s4:ju 88 (r.Mail.take x.K.toNat) (r.Mail.drop (x.K.toNat+1))=some (qdw r.Mail x.K.toNat):=by
   unfold ju
   rw [if_pos (by rw [a0f,List.length_drop]; omega)]
   rfl
  have dl:xk r.Mail x.K ((x.K.toNat+1:Nat) : Int)=some (qdw r.Mail x.K.toNat):=by
   unfold xk qm9
   rw [if_pos (by omega)]
   rfl
  have hlt:=qpr (l:=r.Mail) (k:=x.K.toNat) (by omega)
  by_cases k6:x.Kind=6
  ·by_cases l20:r.Mail.length=20
   ·refine .inr ⟨isp (a0b (bF c1 (fun q=>q c)) (a0c m1 (a0l (by simpa using k6) (a0l (by simp; omega) a0h)))),iim ?_⟩
    unfold y6
    exact a0l rfl (a0b (bF c2 (fun q=>q c)) (a0c m1 (a0l (by simpa using k6) (a0c (qaq (by have:=hmg.e; omega)) (a0c (qg9 (by omega)) (a0l (by simp; omega) a0h))))))
   ·refine .inl ⟨⟨r.Peers,r.Mail++[m]⟩,.twice m m2 (by omega),isp (a0b (bF c1 (fun q=>q c)) (a0c m1 (a0l (by simpa using k6) (a0b (by simp; omega) (a0c (qg9 (by omega)) a0h))))),iim ?_⟩
    unfold y6
    exact a0l rfl (a0b (bF c2 (fun q=>q c)) (a0c m1 (a0l (by simpa using k6) (a0c (qaq (by have:=hmg.e; omega)) (a0c (qg9 (by omega)) (a0b (by simp; omega) a0h))))))
  ·by_cases k4:x.Kind=4
   ·have a1:=zc7 (n:=n) (r:=⟨r.Peers,qdw r.Mail x.K.toNat⟩) (m:=m) hn n5.2 hmg (ha m hm) (by dsimp only; omega)
    have a2:=zcv (n:=n) (r:=⟨r.Peers,qdw r.Mail x.K.toNat⟩) (m:=m) hn n5.2 hmg (ha m hm) (by dsimp only; omega)
    refine .inl ⟨_,.take m m2,isp (a0b (bF c1 (fun q=>q c)) (a0c m1 (a0b (by simpa using k6) (a0c s1 (a0c s3 ?_))))),iim ?_⟩
    ·rw [eK]
     exact a0c s2 (a0c s4 (a0e (a0l (by simpa using k4) (a0e a1 a0h)) a0h))
    ·unfold y6
     rw [eK]
     exact a0l rfl (a0b (bF c2 (fun q=>q c)) (a0c m1 (a0b (by simpa using k6) (a0l (by simpa using k4) (a0c dl (a0e a2 (a0b rfl a0h)))))))
   ·refine .inl ⟨_,.lose,isp (a0b (bF c1 (fun q=>q c)) (a0c m1 (a0b (by simpa using k6) (a0c s1 (a0c s3 ?_))))),iim ?_⟩
    ·rw [eK]
     exact a0c s2 (a0c s4 (a0e (a0b (by simpa using k4) a0h) a0h))
    ·unfold y6
     rw [eK]
     exact a0l rfl (a0b (bF c2 (fun q=>q c)) (a0c m1 (a0b (by simpa using k6) (a0b (by simpa using k4) (a0c dl (a0b rfl a0h))))))
 ·refine .inr ⟨isp (a0l (c1.2 c) a0h),iim ?_⟩
  unfold y6
  exact a0l rfl (a0l (c2.2 c) a0h)
theorem qiz {n:Nat}{r:Raft}{x:RaftStep}(h:SG n r)(hk:¬ (4≤x.Kind∧x.Kind≤6))(hK:je n x.K)(hT:x.Kind=3∨x.To=0){o:Raft × Bool} (ho:Ev (fun k=>(if ((decide (x.Kind=1))&&(yq x.N 1 31))=true then ((uj k r x.K x.N).bind fun v250 =>
  (some (v250.1,v250.2))) else (if (!(pr r x.K).Leads)=true then (some (r,
  false)) else (if (((decide (x.Kind=2))&&(yq x.N 0 99))&&(decide ((p9 (pr r x.K).Log:Int)<30)))=true then
  ((ju 16 (pr r x.K).Log [(Entry.mk (pr r x.K).Term x.N)]).bind fun l298=>((zy (pr r x.K).Match x.K).bind fun x313=>(some ((Raft.mk (a1b r.Peers x.K.toNat
  (Peer.mk (pr r x.K).Term (pr r x.K).Leads l298 (pr r x.K).Commit (a1b (pr r x.K).Match x.K.toNat (p9 l298:Int)))) r.Mail),
  true)))) else (if (decide (x.Kind=3))=true then ((ud r x).bind fun v335=>(some (v335.1,
  v335.2))) else (if (decide (x.Kind=7))=true then ((xn r x.K x.N).bind fun v353=>(some (v353.1,v353.2))) else (some (r,false)))))))) o) : Ev (fun k=>kr k r x) o:=by
 have hn:=h.hn
 have g1:=(wv (r:=r) (k:=x.K) (by rw [hn]; exact hK)).1
 unfold kr
 refine a0b (bF qk0 hk) (a0b ?_ (a0c g1 ho))
 rw [(qqv hn).2 hK]
 simp
 intro q
 exact hT.resolve_left q
theorem qj8 {n:Nat}{r:Raft}{x:RaftStep}(h:SG n r)(hk:¬ (4≤x.Kind∧x.Kind≤6))(hc:¬ (je n x.K∧(x.Kind=3∨x.To=0))) : Ev (fun k=>kr k r x) (r,false):=by
 unfold kr
 refine a0b (bF qk0 hk) (a0l ?_ a0h)
 simp only [a03,a1x,a0s,decide_eq_true_eq]
 apply a0u
 intro q
 rw [not_or] at q
 refine hc ⟨(qqv h.hn).1 (by simpa using q.1),?_⟩
 by_cases k3:x.Kind=3
 ·exact .inl k3
 ·exact .inr (a0u fun w=>q.2 ⟨k3,w⟩)
theorem qq7 {n:Nat}{r:Raft}{x:RaftStep}(h:SG n r)(hk:x.Kind=1) : Both n r x:=by
 have hn:=h.hn
 have n5:=h.n1
 have iim:∀ {o:Bool × List Peer × List Mail} {o':Raft × Bool},Ev (fun _=>(if ((decide
  (x.To=0))&&(zg x.K 0 (r8 .i64 ((p9 r.Peers:Int) - 1))))=true then ((wd r x.K x.N).bind fun v66=>(some (v66.1,
  v66.2.Peers,v66.2.Mail))) else (some (false,r.Peers,r.Mail)))) o→qeb o.1 o.2.1 o.2.2=some o'→Ev (fun _=>k8 r x) o':=fun ho ho'=>by
  unfold k8
  exact a0e (qoi h) (a0l (by simpa using hk) (a0e ho (a23 ho')))
 have hk':¬ (4≤x.Kind∧x.Kind≤6):=by omega
 have c1:((decide (x.To=0))&&(zg x.K 0 (r8 .i64 ((p9 r.Peers:Int) - 1))))=true↔(je n x.K∧(x.Kind=3∨x.To=0)):=by
  rw [a0s,q1f hn n5,decide_eq_true_iff]
  constructor
  ·rintro ⟨a,b⟩; exact ⟨b,.inr a⟩
  ·rintro ⟨a,b | b⟩
   ·omega
   ·exact ⟨b,a⟩
 by_cases c:je n x.K∧(x.Kind=3∨x.To=0)
 ·obtain ⟨hK,hT⟩:=id c
  have noS:¬ (1≤x.N∧x.N≤31)→Ev (fun k=>kr k r x) (r,false):=fun q=>by
   refine qiz h hk' hK hT (a0b (by rw [bF qk0 q,Bool.and_false]) ?_)
   cases hl:(pr r x.K).Leads with
   | false=>exact a0l rfl a0h
   | true=>exact a0b rfl (a0b (by simp [hk]) (a0b (by simp [hk]) (a0b (by simp [hk]) a0h)))
  by_cases q:0≤x.N∧x.N<32
  ·obtain ⟨N,hN⟩ : ∃ N:Nat,x.N=(N:Int):=⟨x.N.toNat,by omega⟩
   have hN32:N<32:=by omega
   obtain ⟨t,ht⟩:=zd4 (f:=fun v=>(pr r v).Term) (vts N)
   have ht2:qak (vts N) n→t≤100:=fun hm=>by
    rcases ht.ex with e | ⟨v,e1,e2⟩
    ·omega
    ·have:=(h.pg v ((wl.1 hm).2 v e1)).t1
     rw [←e2]
     exact this
   obtain ⟨a1,a2⟩:=zay h hK hN32 ht ht2
   obtain ⟨b1,b2⟩:=zak h hK hN32 ht ht2
   by_cases ce:canE n r x.K t (vts N)
   ·have h1:1≤x.N:=by
     apply a0u
     intro w
     have k0:=ce.k
     rw [show N=0 by omega] at k0
     rw [show vts 0=[] by decide] at k0
     cases k0
    refine .inl ⟨_,.elect N t hK ht (ht2 ce.m) ce,qiz h hk' hK hT (a0l (by rw [qk0.2 ⟨h1,by omega⟩,hk]; rfl) ?_),iim (o:=(true,qgy r n x.K (t+1) (vts N),r.Mail)) (a0l (c1.2 c) ?_) rfl⟩
    ·rw [hN]
     exact a0e (a1 ce) a0h
    ·rw [hN]
     exact a0e (b1 ce) a0h
   ·refine .inr ⟨?_,iim (o:=(false,r.Peers,r.Mail)) (a0l (c1.2 c) (by rw [hN]; exact a0e (b2 ce) a0h)) rfl⟩
    by_cases h1:1≤x.N
    ·refine qiz h hk' hK hT (a0l (by rw [qk0.2 ⟨h1,by omega⟩,hk]; rfl) ?_)
     rw [hN]
     exact a0e (a2 ce) a0h
    ·exact noS (by omega)
  ·exact .inr ⟨noS (by omega),iim (o:=(false,r.Peers,r.Mail)) (a0l (c1.2 c) (a0e (qtc h (by omega)) a0h)) rfl⟩
 ·exact .inr ⟨qj8 h hk' c,iim (o:=(false,r.Peers,r.Mail)) (a0b (bF c1 c) a0h) rfl⟩
theorem qzi {n:Nat}{r:Raft}{x:RaftStep}(h:SG n r)(hk:x.Kind=2∨x.Kind=3∨x.Kind=7) : Both n r x:=by
 have hn:=h.hn
 have n5:=h.n1
 have k1:x.Kind≠1:=by omega
 have hk':¬ (4≤x.Kind∧x.Kind≤6):=by omega
 have iim:∀ {b:Bool} {o:Bool × Raft × List Peer} {o':Raft × Bool},Ev (fun _=>(if (zg x.K 0 (r8 .i64
  ((p9 r.Peers:Int) - 1)))=true then ((zy r.Peers x.K).bind fun x116=>(some x116.Leads)) else (some false))) b→Ev (fun _=>(if (b&&((decide
  (x.Kind=3))||(decide (x.To=0))))=true then ((yf r x).bind fun v170=>(some (v170.1,v170.2,v170.2.Peers))) else (some (false,r,
  r.Peers)))) o→qb8 o.1 o.2.1 o.2.2=some o'→Ev (fun _=>k8 r x) o':=fun hb ho ho'=>by
  unfold k8
  refine a0e (qoi h) (a0b (by simpa using k1) (a0e (a:=true) ?_ ?_))
  ·by_cases q2:x.Kind=2
   ·exact a0l (by simpa using q2) (a23 (by simp [q2]))
   ·refine a0b (by simpa using q2) ?_
    by_cases q3:x.Kind=3
    ·exact a0l (by simpa using q3) (a23 (by simp [q3]))
    ·exact a0b (by simpa using q3) (a23 (by simp; omega))
  ·unfold qag
   exact a0l rfl (a0e hb (a0e ho (a23 ho')))
 by_cases hK:je n x.K
 ·have g1:=(wv (r:=r) (k:=x.K) (by rw [hn]; exact hK)).1
  have hb:Ev (fun _=>(if (zg x.K 0 (r8 .i64
  ((p9 r.Peers:Int) - 1)))=true then ((zy r.Peers x.K).bind fun x116=>(some x116.Leads)) else (some false))) (pr r x.K).Leads:=a0l ((q1f hn n5).2 hK) (a0c g1 a0h)
  by_cases hT:x.Kind=3∨x.To=0
  ·have cT:((decide (x.Kind=3))||(decide (x.To=0)))=true:=by simpa using hT
   cases hl:(pr r x.K).Leads with
   | false =>
    rw [hl] at hb
    refine .inr ⟨qiz h hk' hK hT (a0b (by simp [k1]) (a0l (by rw [hl]; rfl) a0h)),iim (o:=(false,r,r.Peers)) hb (a0b (by simp) a0h) rfl⟩
   | true =>
    rw [hl] at hb
    have ss:∀ {o:Raft × Bool},Ev (fun k=>(if (((decide (x.Kind=2))&&(yq x.N 0 99))&&(decide ((p9 (pr r x.K).Log:Int)<30)))=true then
  ((ju 16 (pr r x.K).Log [(Entry.mk (pr r x.K).Term x.N)]).bind fun l298=>((zy (pr r x.K).Match x.K).bind fun x313=>(some ((Raft.mk (a1b r.Peers x.K.toNat
  (Peer.mk (pr r x.K).Term (pr r x.K).Leads l298 (pr r x.K).Commit (a1b (pr r x.K).Match x.K.toNat (p9 l298:Int)))) r.Mail),
  true)))) else (if (decide (x.Kind=3))=true then ((ud r x).bind fun v335=>(some (v335.1,
  v335.2))) else (if (decide (x.Kind=7))=true then ((xn r x.K x.N).bind fun v353=>(some (v353.1,v353.2))) else (some (r,false)))))) o→Ev (fun k=>kr k r x) o:=fun ho=>qiz h hk' hK hT (a0b (by simp [k1]) (a0b (by rw [hl]; rfl) ho))
    have ii:∀ {o:Bool × Raft} {o':Raft × Bool},Ev (fun _=>yf r x) o→qb8 o.1 o.2 o.2.Peers=some o'→Ev (fun _=>k8 r x) o':=fun ho ho'=>iim hb (a0l (by rw [cT]; rfl) (a0e ho a0h)) ho'
    rcases hk with k2 | k3 | k7
    ·obtain ⟨a1,a2⟩:=qsu h hK k2
     have hl:=(h.pg _ hK).lg
     have cond:(((decide (x.Kind=2))&&(yq x.N 0 99))&&(decide ((p9 (pr r x.K).Log:Int)<30)))=true↔qj1 r x:=by
      rw [a0s,a0s,qk0,decide_eq_true_iff,decide_eq_true_iff]
      unfold qj1
      omega
     by_cases c:qj1 r x
     ·refine .inl ⟨_,.propose hK (by assumption) c,ss (a0l (cond.2 c) (a0c (qis (by omega)) (a0c (ql6 (h.pg _ hK).ml hK) (a23 ?_)))),ii (a1 c) rfl⟩
      rw [List.length_append]
      rfl
     ·exact .inr ⟨ss (a0b (bF cond c) (a0b (by simp [k2]) (a0b (by simp [k2]) a0h))),ii (a2 c) rfl⟩
    ·obtain ⟨a1,a2⟩:=zbj h hK k3
     obtain ⟨b1,b2⟩:=zc9 h hK
     by_cases c:qh9 n r x
     ·exact .inl ⟨_,.send hK hl c,ss (a0b (by simp [k3]) (a0l (by simp [k3]) (a0e (b1 c) a0h))),ii (a1 c) rfl⟩
     ·exact .inr ⟨ss (a0b (by simp [k3]) (a0l (by simp [k3]) (a0e (b2 c) a0h))),ii (a2 c) rfl⟩
    ·obtain ⟨a1,a2⟩:=q1t h hK k7
     obtain ⟨b1,b2⟩:=q1j h hK
     by_cases c:qjv n r x
     ·exact .inl ⟨_,.commit hK hl c,ss (a0b (by simp [k7]) (a0b (by simp [k7]) (a0l (by simp [k7]) (a0e (b1 c) a0h)))),ii (a1 c) rfl⟩
     ·exact .inr ⟨ss (a0b (by simp [k7]) (a0b (by simp [k7]) (a0l (by simp [k7]) (a0e (b2 c) a0h)))),ii (a2 c) rfl⟩
  ·have cT:((decide (x.Kind=3))||(decide (x.To=0)))=false:=by simpa using hT
   exact .inr ⟨qj8 h hk' (fun w=>hT w.2),iim (o:=(false,r,r.Peers)) hb (a0b (by rw [cT,Bool.and_false]) a0h) rfl⟩
 ·exact .inr ⟨qj8 h hk' (fun w=>hK w.1),iim (o:=(false,r,r.Peers)) (a0b (bF (q1f hn n5) hK) a0h) (a0b rfl a0h) rfl⟩
theorem qwp {n:Nat}{r:Raft}{x:RaftStep}(h:SG n r)(hk:x.Kind<1∨7<x.Kind) : Both n r x:=by
 have hn:=h.hn
 have hk':¬ (4≤x.Kind∧x.Kind≤6):=by omega
 have k1:x.Kind≠1:=by omega
 have k2:x.Kind≠2:=by omega
 have k3:x.Kind≠3:=by omega
 have k4:x.Kind≠4:=by omega
 have k5:x.Kind≠5:=by omega
 have k6:x.Kind≠6:=by omega
 have k7:x.Kind≠7:=by omega
 refine .inr ⟨?_,?_⟩
 ·by_cases c:je n x.K∧(x.Kind=3∨x.To=0)
  ·refine qiz h hk' c.1 c.2 (a0b (by simp [k1]) ?_)
   cases hl:(pr r x.K).Leads with
   | false=>exact a0l rfl a0h
   | true=>exact a0b rfl (a0b (by simp [k2]) (a0b (by simp [k3]) (a0b (by simp [k7]) a0h)))
  ·exact qj8 h hk' c
 ·unfold k8
  refine a0e (qoi h) (a0b (by simpa using k1) (a0e (a:=false) (a0b (by simpa using k2) (a0b (by simpa using k3) (a23 (by simp [k7])))) ?_))
  unfold qag
  refine a0b (by simp) (a0e (a:=false) (a0b (by simpa using k4) (a0b (by simpa using k5) (a23 (by simp [k6])))) ?_)
  unfold y6
  exact a0b (by simp) (a0l rfl a0h)
theorem qnt {n:Nat}{r:Raft}{x:RaftStep}(h:SG n r)(ha:AccA n r) : Both n r x:=by
 by_cases k1:x.Kind=1
 ·exact qq7 h k1
 by_cases k2:4≤x.Kind∧x.Kind≤6
 ·exact qve h ha k2
 by_cases k3:x.Kind<1∨7<x.Kind
 ·exact qwp h k3
 exact qzi h (by omega)
end Go.Proofs.Ytanblnjomhgphaa.X
