/- A raft: what is kept by a step. -/
import Derived.Test.YtanblnjomhgphaaXBL10h
open Int renaming le_refl→a1c,toNat_natCast→a05
open List renaming getElem?_eq_getElem→s8,getElem?_eq_none→a00,getElem?_map→a2i,getElem?_set_ne→a1o,getElem?_set_self→a1i,mem_append→a0w,mem_of_getElem?→a0o,mem_or_eq_of_mem_set→a3b,mem_singleton→a1m
set_option linter.unusedVariables false
set_option linter.unusedSimpArgs false
namespace Go.Proofs.Ytanblnjomhgphaa.X
open Go

structure RA (n:Nat) (r:Raft) (G:Gh) : Prop where
 sg:SG n r
 ri:RInv n (pr r) r.Mail G
theorem qht {n:Nat}{x:Int}(h:x∈zs n) : x=0:=(List.mem_replicate.1 h).2
theorem PG.bump {n:Nat}{p:Peer}{t:Int}(h:PG n p)(h0:0≤t)(h1:t≤100) : PG n (xv n p t) :=
 ⟨h0,h1,h.lg,h.c0,h.c1,by unfold xv zs; simp,fun x hx=>by rw [qht hx]; unfold xv; exact ⟨a1c _,by omega⟩,fun _ x hx=>qht hx,h.vs⟩
theorem qtl {q:Peer}{m:Mail}(h:qfx q m=false) : m.Prev≤q.Log.length∧(0<m.Prev→∃ f,q.Log[m.Prev.toNat - 1]? = some f∧f.Term=m.PTerm):=by
 unfold qfx at h
 rw [Bool.or_eq_false_iff,decide_eq_false_iff_not,Bool.and_eq_false_imp] at h
 refine ⟨by omega,fun q0=>?_⟩
 have:=h.2 (by simpa using q0)
 rw [Bool.not_eq_false',decide_eq_true_iff] at this
 cases hf:q.Log[m.Prev.toNat - 1]? with
 | none=>rw [hf] at this; cases this
 | some f=>rw [hf] at this; exact ⟨f,rfl,by simpa using this⟩
theorem qnv {n:Nat}{m:Mail}(h:MG n m) : wn m=((m.Prev.toNat+m.Entry.length:Nat) : Int):=by
 have:=h.p
 unfold wn
 omega
theorem qpt {n:Nat}{P:Int→Peer}{ML:List Mail}{G:Gh}{m:Mail}(R:RInv n P ML G)(hm:m∈ML)(hg:MG n m)(hp:PG n (P m.To))(ht:(P m.To).Term=m.Term) : Acc n (P m.To) m:=by
 have H:=R.ml m hm
 have hpv:=hg.p
 have hcm:=hg.c
 refine ⟨hp,fun q hl=>?_,fun q hb=>?_⟩
 ·have:=(R.answer (y:=P m.To) H q ht hl).1
  have:=hg.mm
  omega
 ·obtain ⟨b1,b2⟩:=qtl hb
  obtain ⟨a1,a2,a3,a4,a5,a6,_⟩:=R.append (y:=P m.To) H q ht (by omega) (by
   by_cases z:m.Prev=0
   ·exact .inl z
   ·exact .inr (b2 (by omega)))
  have:=hp.lg
  rw [qnv hg]
  have:=hp.c0
  exact ⟨a1,by omega,by omega,by omega,by omega⟩
theorem RA.acc {n:Nat}{r:Raft}{G:Gh}(h:RA n r G) : AccA n r:=fun m hm q hq=>by
 have hg:=h.sg.mg m hm
 have hp:=h.sg.pg _ hg.t
 rcases hq with ⟨rfl,e⟩ | ⟨rfl,e⟩
 ·exact qpt h.ri hm hg hp e.symm
 ·obtain ⟨G',R',_⟩:=h.ri.bump (y:=xv n (pr r m.To) m.Term) hg.t e rfl rfl rfl rfl
  have hb:=hp.bump (t:=m.Term) hg.t0.1 hg.t0.2
  have:=qpt R' hm hg (by rw [j0]; exact hb) (by rw [j0]; rfl)
  rwa [j0] at this
theorem SG.set {n:Nat}{r:Raft}{k:Int}{y:Peer}{M:List Mail}(h:SG n r)(hk:je n k)(hy:PG n y)(hM:M.length≤20)(hM2:∀ m∈M,MG n m) : SG n ⟨r.Peers.set k.toNat y,M⟩:=by
 refine ⟨h.n1,by simp [h.hn],hM,fun j hj=>?_,hM2⟩
 rw [qfn (by rw [h.hn]; exact hk)]
 unfold wg
 split
 ·exact hy
 ·exact h.pg j hj
theorem SG.mail {n:Nat}{r:Raft}{M:List Mail}(h:SG n r)(hM:M.length≤20)(hM2:∀ m∈M,MG n m) : SG n ⟨r.Peers,M⟩:=⟨h.n1,h.hn,hM,h.pg,hM2⟩
theorem q0w {l E:List Entry}{p:Nat}{e:Entry}(h:e∈ws l p E) : e∈l∨e∈E:=by
 unfold ws at h
 split at h
 ·exact .inl h
 ·split at h
  ·exact .inl h
  ·rcases a0w.1 h with q | q
   ·exact .inl (List.mem_of_mem_take q)
   ·rw [a1m] at q
    exact .inr (by rw [q]; simp)
theorem qm4 {n:Nat}{t:Int}{b:Bool}{l:List Entry}{c v:Int}{M:List Int}{K j:Int}(hM:M.length=n)(hK:je n K)(hj:je n j) : mtc ⟨t,b,l,c,M.set K.toNat v⟩ j=if j=K then v.toNat else ((M[j.toNat]?).getD 0).toNat:=by
 unfold mtc
 dsimp only
 by_cases e:j=K
 ·subst e
  rw [if_pos rfl,a1i (by have:=hj.1; have:=hj.2; omega)]
  rfl
 ·rw [if_neg e,a1o (by have:=hj.1; have:=hK.1; omega)]
theorem qn2 {n:Nat}{r:Raft}{ML:List Mail}{G:Gh}{m:Mail}(S:SG n r)(R:RInv n (pr r) ML G)(hm:m∈ML)(hM:∀ m'∈r.Mail,m'∈ML)(hg:MG n m)(h20:r.Mail.length<20)(ht:(pr r m.To).Term=m.Term) : ∃ G',RA n (uw r m (pr r m.To)) G':=by
 have H:=R.ml m hm
 have hp:=S.pg _ hg.t
 have A:=qpt R hm hg hp ht
 have hto:je r.Peers.length m.To:=by rw [S.hn]; exact hg.t
 have same:RA n r G:=⟨S,R.mail (fun m' hm' => .inl (hM m' hm'))⟩
 unfold uw
 by_cases hr:m.Reply=true
 ·rw [if_pos hr]
  by_cases c:(pr r m.To).Leads=true∧((pr r m.To).Match[m.From.toNat]?).getD 0<m.Match
  ·rw [if_pos c]
   have hle:=A.rep hr c.1
   have hmm:=hg.mm
   obtain ⟨_,a⟩:=R.answer (y:=⟨(pr r m.To).Term,(pr r m.To).Leads,(pr r m.To).Log,(pr r m.To).Commit,(pr r m.To).Match.set m.From.toNat m.Match⟩) H hr ht c.1
   have R':=a ht c.1 rfl rfl (fun j hj=>qm4 hp.ml hg.f hj)
   rw [←qfn (M:=r.Mail) hto] at R'
   refine ⟨G,S.set hg.t ⟨hp.t0,hp.t1,hp.lg,hp.c0,hp.c1,by simp [hp.ml],fun x hx=>?_,fun q=>?_,hp.vs⟩ (by omega) S.mg,R'.mail (fun m' hm' => .inl (hM m' hm'))⟩
   ·rcases a3b hx with q | q
    ·exact hp.m0 x q
    ·rw [q]; exact ⟨hmm.1,hle⟩
   ·rw [c.1] at q; cases q
  ·rw [if_neg c]
   exact ⟨G,same⟩
 ·rw [if_neg hr]
  have hr':m.Reply=false:=by simpa using hr
  cases hb:qfx (pr r m.To) m with
  | true=>rw [if_pos rfl]; exact ⟨G,same⟩
  | false =>
   rw [if_neg (by decide)]
   obtain ⟨b1,b2⟩:=qtl hb
   obtain ⟨q1,q2,q3,q4,q5⟩:=A.req hr' hb
   have hpv:=hg.p
   have hc:=hg.c
   have hc0:=hp.c0
   have th:=qnv hg
   obtain ⟨a1,a2,a3,a4,a5,a6,a7⟩:=R.append (y:=qfi (pr r m.To) m) H hr' ht (by omega) (by
    by_cases z:m.Prev=0
    ·exact .inl z
    ·exact .inr (b2 (by omega)))
   have R':=a7 ht q1 rfl (by
    unfold qfi mxI mnI
    dsimp only
    rw [th]
    split <;> split at * <;> omega)
   have ea:qhk (pr r m.To) m=⟨true,m.To,m.From,m.Term,0,0,[],0,((m.Prev.toNat+m.Entry.length:Nat) : Int)⟩:=by
    unfold qhk
    rw [th,ht]
   rw [←qfn (M:=r.Mail++[qhk (pr r m.To) m]) hto] at R'
   have hz:=hp.mz q1
   refine ⟨G,S.set hg.t ⟨hp.t0,hp.t1,q2,?_,?_,hp.ml,fun x hx=>?_,fun _=>hz,fun e he=>?_⟩ (by simp; omega) (fun m' hm'=>?_),R'.mail (fun m' hm' => .inl ?_)⟩
   ·unfold qfi mxI
    dsimp only
    split <;> omega
   ·exact q7h q3 (Int.le_trans q7w.2 q4)
   ·rw [hz x hx]
    exact ⟨a1c _,by omega⟩
   ·rcases q0w he with q | q
    ·exact hp.vs e q
    ·exact (hg.vs e q).1
   ·rcases a0w.1 hm' with q | q
    ·exact S.mg m' q
    ·rw [a1m] at q
     subst q
     refine ⟨hg.t,hg.f,fun w=>hg.ne w.symm,⟨hp.t0,hp.t1⟩,⟨a1c _,by show (0:Int)≤30; decide⟩,⟨a1c _,by show (0:Int)≤30; decide⟩,⟨by unfold qhk; dsimp only; omega,q5⟩,by simp [qhk],fun _=>⟨rfl,rfl,rfl,rfl⟩,fun w=>(by cases w),fun e he=>(by cases he)⟩
   ·rcases a0w.1 hm' with q | q
    ·exact List.mem_append_left _ (hM m' q)
    ·rw [a1m] at q
     rw [q,ea]
     simp
theorem quj {n:Nat}{r:Raft}{G:Gh}{k:Nat}{m:Mail}(h:RA n r G)(hm:r.Mail[k]? = some m) : ∃ G',RA n (come ⟨r.Peers,qdw r.Mail k⟩ m) G':=by
 have hmm:=a0o hm
 have hg:=h.sg.mg m hmm
 have hk:=(List.getElem?_eq_some_iff.1 hm).1
 have hdl:=qpr hk
 have ml:=h.sg.ml
 have S1:SG n ⟨r.Peers,qdw r.Mail k⟩:=h.sg.mail (by omega) (fun m' hm'=>h.sg.mg m' (qev hm'))
 have hto:je r.Peers.length m.To:=by rw [h.sg.hn]; exact hg.t
 unfold come
 show ∃ G',RA n (if (pr r m.To).Term<m.Term then _ else _) G'
 by_cases q:(pr r m.To).Term<m.Term
 ·rw [if_pos q]
  obtain ⟨G',R',_⟩:=h.ri.bump (y:=xv n (pr r m.To) m.Term) hg.t q rfl rfl rfl rfl
  rw [←qfn (M:=qdw r.Mail k) hto] at R'
  have hb:=(h.sg.pg _ hg.t).bump (t:=m.Term) hg.t0.1 hg.t0.2
  have e1:pr ⟨r.Peers.set m.To.toNat (xv n (pr r m.To) m.Term),qdw r.Mail k⟩ m.To=xv n (pr r m.To) m.Term:=by rw [qfn hto,j0]
  have:=qn2 (r:=⟨r.Peers.set m.To.toNat (xv n (pr r m.To) m.Term),qdw r.Mail k⟩) (h.sg.set hg.t hb (by omega) (fun m' hm'=>h.sg.mg m' (qev hm'))) R' hmm (fun m' hm'=>qev hm') hg (by dsimp only; omega) (by rw [e1]; rfl)
  rw [e1] at this
  show ∃ G',RA n (uw ⟨r.Peers.set m.To.toNat (xv r.Peers.length (pr r m.To) m.Term),qdw r.Mail k⟩ m (xv r.Peers.length (pr r m.To) m.Term)) G'
  rw [h.sg.hn]
  exact this
 ·rw [if_neg q]
  show ∃ G',RA n (if m.Term≠(pr r m.To).Term then _ else _) G'
  by_cases w:m.Term=(pr r m.To).Term
  ·rw [if_neg (fun z=>z w)]
   exact qn2 (r:=⟨r.Peers,qdw r.Mail k⟩) S1 h.ri hmm (fun m' hm'=>qev hm') hg (by dsimp only; omega) w.symm
  ·rw [if_pos w]
   exact ⟨G,S1,h.ri.mail (fun m' hm' => .inl (qev hm'))⟩
def qk7 (n:Nat)(r:Raft)(K t:Int)(v:Int) : Peer:=if v=K then ⟨t,true,(pr r K).Log,(pr r K).Commit,(zs n).set K.toNat ((pr r K).Log.length:Int)⟩ else qfd n K t v (pr r v)
theorem zco {n:Nat}{r:Raft}{K t:Int}{V:List Int}(hn:r.Peers.length=n)(hm:qak V n)(hK:K∈V) : pr ⟨qgy r n K t V,r.Mail⟩=fun k=>if k∈V then qk7 n r K t k else pr r k:=by
 have hr:=(wl.1 hm).2
 funext k
 by_cases h0:0≤k
 ·obtain ⟨i,rfl⟩ : ∃ i:Nat,k=(i:Int):=⟨k.toNat,by omega⟩
  have e1:pr ⟨qgy r n K t V,r.Mail⟩ (i:Int)=((qgy r n K t V)[i]?).getD ⟨0,false,[],0,[]⟩:=by
   unfold pr
   rw [if_pos h0,a05]
  have e2:pr r (i:Int)=(r.Peers[i]?).getD ⟨0,false,[],0,[]⟩:=by
   unfold pr
   rw [if_pos h0,a05]
  rw [e1]
  unfold qgy
  have hKr:=hr K hK
  by_cases e:(i:Int)=K
  ·rw [if_pos (by rw [e]; exact hK)]
   have:K.toNat=i:=by omega
   rw [this,a1i (by rw [qiw]; omega)]
   unfold qk7
   rw [if_pos e,this]
   rfl
  ·rw [a1o (by have:=hKr.1; omega)]
   by_cases q:(i:Int)∈V
   ·rw [if_pos q]
    have hi:=hr _ q
    obtain ⟨p,hp⟩ : ∃ p,r.Peers[i]? = some p:=⟨_,s8 (by omega)⟩
    rw [qm1 hp q]
    unfold qk7
    rw [if_neg e,e2,hp]
    rfl
   ·rw [if_neg q,e2]
    cases hp:r.Peers[i]? with
    | none=>rw [qhf,hp]; rfl
    | some p=>rw [qm7 hp q]
 ·have q:¬ k∈V:=fun q=>h0 (hr k q).1
  rw [if_neg q]
  unfold pr
  rw [if_neg h0,if_neg h0]
theorem qr4 {n N:Nat}{r:Raft}{K t:Int}{G:Gh}(h:RA n r G)(hK:je n K)(ht:isMx (fun v=>(pr r v).Term) t (fun w=>w∈vts N))(ht2:t≤100)(c:canE n r K t (vts N)) : ∃ G',RA n ⟨qgy r n K (t+1) (vts N),r.Mail⟩ G':=by
 generalize vts N=V at *
 have S:=h.sg
 have hr:=(wl.1 c.m).2
 have hlt:∀ v∈V,tm (pr r) v<t+1:=fun v hv=>by
  have:=ht.le v hv
  show (pr r v).Term<t+1
  have:(pr r v).Term≤t:=this
  omega
 have hz:=ht.z
 have h100:=c.t
 have hlg:=(S.pg K hK).lg
 have hw:=zco (t:=t+1) S.hn c.m c.k
 obtain ⟨G',R'⟩:=h.ri.elect (t':=t+1) (V:=V) (f:=qk7 n r K (t+1)) (by omega) c.m c.q c.k hlt c.u hlg (fun v hv=>by
  unfold qk7
  by_cases e:v=K
  ·subst e
   rw [if_pos rfl]
   exact ⟨rfl,(decide_eq_true rfl).symm,rfl,rfl⟩
  ·rw [if_neg e]
   exact ⟨rfl,rfl,rfl,rfl⟩) (fun j hj=>by
  unfold qk7
  rw [if_pos rfl,qm4 (n:=n) (by simp [zs]) hK hj]
  by_cases e:j=K
  ·rw [if_pos e,if_pos e]; simp
  ·rw [if_neg e,if_neg e]
   unfold zs
   rw [List.getElem?_replicate]
   split <;> rfl)
 refine ⟨G',⟨S.n1,by unfold qgy; rw [List.length_set,qiw,S.hn],S.ml,fun k hk=>?_,S.mg⟩,by rw [hw]; exact R'⟩
 rw [hw]
 by_cases q:k∈V
 ·have hp:=S.pg k hk
  show PG n (if k∈V then _ else _)
  rw [if_pos q]
  unfold qk7
  by_cases e:k=K
  ·subst e
   rw [if_pos rfl]
   refine ⟨by dsimp only; omega,by dsimp only; omega,hp.lg,hp.c0,hp.c1,by simp [zs],fun x hx=>?_,(fun w=>by cases w),hp.vs⟩
   rcases a3b hx with z | z
   ·rw [qht z]; exact ⟨a1c _,by dsimp only; omega⟩
   ·rw [z]; exact ⟨by omega,a1c _⟩
  ·rw [if_neg e]
   exact ⟨by unfold qfd; dsimp only; omega,by unfold qfd; dsimp only; omega,hp.lg,hp.c0,hp.c1,by simp [zs,qfd],fun x hx=>by rw [qht hx]; exact ⟨a1c _,by omega⟩,fun _ x hx=>qht hx,hp.vs⟩
 ·show PG n (if k∈V then _ else _)
  rw [if_neg q]
  exact S.pg k hk
theorem q1d {l:List Int} : l=(qcc l.length).map (fun j=>(l[j.toNat]?).getD 0):=by
 apply List.ext_getElem?
 intro i
 unfold qcc
 rw [a2i,a2i]
 by_cases h:i<l.length
 ·rw [List.getElem?_range h,s8 h]
  simp [s8 h]
 ·rw [show l[i]? = none from a00 (by omega),show (List.range l.length)[i]? = none from a00 (by rw [List.length_range]; omega)]
  rfl
theorem zas {n:Nat}{p:Peer}{N:Int}(hl:p.Match.length=n)(h0:0≤N)(h:n<2*qcr p.Match N) : maj n (fun j=>N.toNat≤mtc p j):=by
 refine ⟨(qcc n).filter (fun j=>decide (N≤(p.Match[j.toNat]?).getD 0)),wl.2 ⟨qnn.filter _,fun x hx=>qlg (List.mem_filter.1 hx).1⟩,?_,fun j hj=>?_⟩
 ·have:qcr p.Match N=((qcc n).filter (fun j=>decide (N≤(p.Match[j.toNat]?).getD 0))).length:=by
   unfold qcr
   have e:=q1d (l:=p.Match)
   rw [hl] at e
   conv=>lhs; rw [e]
   rw [List.countP_map,List.countP_eq_length_filter]
   rfl
  omega
 ·have:=(List.mem_filter.1 hj).2
  rw [decide_eq_true_iff] at this
  unfold mtc
  omega
theorem keep {n:Nat}{r y:Raft}{x:RaftStep}{G:Gh}(h:RA n r G)(hs:RS n r x y) : ∃ G',RA n y G':=by
 have S:=h.sg
 have R:=h.ri
 have ml:=S.ml
 cases hs with
 | elect N t hK ht ht2 c=>exact qr4 h hK ht ht2 c
 | propose hK hl c =>
  have hp:=S.pg _ hK
  have hlg:=hp.lg
  obtain ⟨c1,c2,c3⟩:=c
  have hkr:je r.Peers.length x.K:=by rw [S.hn]; exact hK
  obtain ⟨G',R'⟩:=R.propose (y:=qin (pr r x.K) x) (e:=⟨(pr r x.K).Term,x.N⟩) hK hl rfl c3 rfl hl rfl rfl (fun j hj=>by
   unfold qin
   rw [qm4 hp.ml hK hj]
   by_cases e:j=x.K
   ·rw [if_pos e,if_pos e]; omega
   ·rw [if_neg e,if_neg e]; rfl)
  rw [←qfn (M:=r.Mail) hkr] at R'
  refine ⟨G',S.set hK ⟨hp.t0,hp.t1,by simp [qin]; omega,hp.c0,by have:=hp.c1; simp [qin]; omega,by simp [qin,hp.ml],fun z hz=>?_,fun w=>(by rw [show (qin (pr r x.K) x).Leads=(pr r x.K).Leads from rfl,hl] at w; cases w),fun e he=>?_⟩ ml S.mg,R'⟩
  ·rcases a3b hz with q | q
   ·have:=hp.m0 z q
    simp [qin]
    omega
   ·rw [q]
    simp [qin]
    omega
  ·rcases a0w.1 he with q | q
   ·exact hp.vs e q
   ·rw [a1m] at q
    rw [q]
    exact ⟨c1,c2⟩
 | send hK hl c =>
  have hp:=S.pg _ hK
  have hlg:=hp.lg
  obtain ⟨c1,c2,c3,c4,c5⟩:=c
  have h1:x.N=0∨∃ e,(pr r x.K).Log[x.N.toNat - 1]? = some e∧e.Term=(we (pr r x.K) x).PTerm:=by
   by_cases q:x.N=0
   ·exact .inl q
   ·have hx:(pr r x.K).Log[x.N.toNat - 1]? = some ((pr r x.K).Log[x.N.toNat - 1]'(by omega)):=s8 _
    refine .inr ⟨_,hx,?_⟩
    unfold we
    dsimp only
    rw [if_pos (by omega),hx]
    rfl
  have h2:(we (pr r x.K) x).Entry=[]∨∃ e,(we (pr r x.K) x).Entry=[e]∧(pr r x.K).Log[x.N.toNat]? = some e:=by
   unfold we
   dsimp only
   cases (pr r x.K).Log[x.N.toNat]? with
   | none=>exact .inl rfl
   | some e=>exact .inr ⟨e,rfl,rfl⟩
  have R':=R.send (m:=we (pr r x.K) x) hK c1 c2 hl ⟨c3,c4⟩ rfl h1 h2
  have C:=R.core
  refine ⟨G,S.mail (by simp; omega) (fun m' hm'=>?_),R'⟩
  rcases a0w.1 hm' with q | q
  ·exact S.mg m' q
  ·rw [a1m] at q
   subst q
   have pt:0<x.N→0≤(we (pr r x.K) x).PTerm∧(we (pr r x.K) x).PTerm≤(pr r x.K).Term:=fun q=>by
    obtain ⟨e,e1,e2⟩:=h1.resolve_left (by omega)
    obtain ⟨a,b,_⟩:=C.lm x.K hK _ e e1
    have:=C.e0 _ a
    rw [←e2]
    exact ⟨this,b⟩
   have pz:¬ 0<x.N→(we (pr r x.K) x).PTerm = -1:=fun q=>if_neg q
   have hc0:=hp.c0
   have hc1:=hp.c1
   refine ⟨hK,c1,fun w=>c2 w.symm,⟨hp.t0,hp.t1⟩,⟨c3,by show x.N≤30; omega⟩,⟨hc0,by show (pr r x.K).Commit≤30; omega⟩,⟨a1c _,by show (0:Int)≤30; decide⟩,?_,fun w=>(by cases w),fun _=>⟨rfl,fun w=>pz (by have:x.N=0:=w; omega),fun w=>pt (by have:x.N≠0:=w; omega)⟩,fun e he=>?_⟩
   ·rcases h2 with w | ⟨e,w,_⟩ <;> rw [w] <;> simp
   ·rcases h2 with w | ⟨f,w,w2⟩
    ·rw [w] at he; cases he
    ·rw [w,a1m] at he
     subst he
     obtain ⟨a,b,_⟩:=C.lm x.K hK _ e w2
     have a0:=C.e0 _ a
     refine ⟨hp.vs e (a0o w2),a0,b,?_⟩
     by_cases q:0<x.N
     ·obtain ⟨g,g1,g2⟩:=h1.resolve_left (by omega)
      rw [←g2]
      exact qo3 (C.ris x.K hK) (by omega) g1 w2
     ·rw [pz q]; omega
 | commit hK hl c =>
  have hp:=S.pg _ hK
  obtain ⟨c1,c2,⟨e,c3,c4⟩,c5⟩:=c
  have hc0:=hp.c0
  have hkr:je r.Peers.length x.K:=by rw [S.hn]; exact hK
  have R':=R.commit (y:=qps (pr r x.K) x.N) (e:=e) hK hl ⟨by omega,c2⟩ c3 c4 (zas hp.ml (by omega) c5) (by unfold qps; rw [hl])
  rw [←qfn (M:=r.Mail) hkr] at R'
  exact ⟨G,S.set hK ⟨hp.t0,hp.t1,hp.lg,by show 0≤x.N; omega,c2,hp.ml,hp.m0,hp.mz,hp.vs⟩ ml S.mg,R'⟩
 | take m hm=>exact quj h hm
 | lose =>
  refine ⟨G,S.mail ?_ (fun m hm=>S.mg m (qev hm)),R.mail (fun m hm => .inl (qev hm))⟩
  unfold qdw
  rw [List.length_append,List.length_take,List.length_drop]
  omega
 | twice m hm h20 =>
  have hmm:=a0o hm
  refine ⟨G,S.mail (by simp; omega) (fun m' hm'=>?_),R.mail (fun m' hm' => .inl ?_)⟩
  ·rcases a0w.1 hm' with q | q
   ·exact S.mg m' q
   ·rw [a1m] at q; rw [q]; exact S.mg m hmm
  ·rcases a0w.1 hm' with q | q
   ·exact q
   ·rw [a1m] at q; rw [q]; exact hmm
end Go.Proofs.Ytanblnjomhgphaa.X
