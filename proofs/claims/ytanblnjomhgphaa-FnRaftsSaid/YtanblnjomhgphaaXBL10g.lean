/- A raft: copies, what a leader does; both sides. -/
import Derived.Test.YtanblnjomhgphaaXBL10f
open Bool renaming and_eq_false_imp→a2q,not_eq_true'→a1x,or_eq_true→a03
open Go.Proofs.Ytanblnjomhgphaa.X.Ev renaming bindp→a0c,bind→a0e,iteF→a0b,iteT→a0l,jn→a3f,of→a23,rfl→a0h
open Go.IntKind renaming wrap→r8
open List renaming getElem?_eq_getElem→s8,length_append→t9,length_cons→a0p,length_nil→a1y,length→p9
open Option renaming bind_some→a1n
set_option linter.unusedVariables false
set_option linter.unusedSimpArgs false
namespace Go.Proofs.Ytanblnjomhgphaa.X
open Go

theorem SG.mem {n:Nat}{r:Raft}(h:SG n r){p:Peer}(hp:p∈r.Peers) : PG n p:=by
 obtain ⟨i,hi⟩:=List.getElem?_of_mem hp
 have hlt:=(List.getElem?_eq_some_iff.1 hi).1
 have hr:je n (i:Int):=⟨by omega,by have:=h.hn; omega⟩
 have g:=(wv (r:=r) (k:=(i:Int)) (by rw [h.hn]; exact hr)).2.1
 rw [Int.toNat_natCast,hi] at g
 cases g
 exact h.pg _ hr
theorem q4h {l:List Peer}{p:Peer}(h:l.length≤1000) : ju 72 l [p]=some (l++[p]):=by
 unfold ju
 rw [if_pos (by simp only [a0p,a1y]; omega)]
theorem qnq {ρ:Type}{n:Nat}{r:Raft}(h:SG n r){B1:Nat→Peer→Raft→Option (Oc Raft ρ)}{B2:Nat→Mail→Raft→Option (Oc Raft ρ)}(h1:∀ i x s,x.Log.length≤30→x.Match.length≤5→s.Peers.length≤10→B1 i x s=some (.nxt ⟨s.Peers++[x],[]⟩))(h2:∀ i x s,x.Entry.length≤1→s.Mail.length≤50→B2 i x s=some (.nxt ⟨r.Peers,s.Mail++[x]⟩)) : Ev (fun _=>jt B1 r.Peers ⟨[],[]⟩) (.nxt ⟨r.Peers,[]⟩)∧Ev (fun _=>jt B2 r.Mail ⟨r.Peers,[]⟩) (.nxt r):=by
 have hn:=h.hn
 have n5:=h.n1
 have ml:=h.ml
 refine ⟨yo (by omega) (fun i q s=>∃ a,a++q=r.Peers∧s=⟨a,[]⟩) ⟨[],rfl,rfl⟩ (fun i x q s ⟨a,e1,e2⟩ => .inl ⟨_,a23 (h1 i x s ?_ ?_ ?_),a++[x],by simpa using e1,by rw [e2]⟩) (fun i s ⟨a,e1,e2⟩=>by rw [e2,← e1]; simp),yo (by omega) (fun i q s=>∃ a,a++q=r.Mail∧s=⟨r.Peers,a⟩) ⟨[],rfl,rfl⟩ (fun i x q s ⟨a,e1,e2⟩ => .inl ⟨_,a23 (h2 i x s ?_ ?_),a++[x],by simpa using e1,by rw [e2]⟩) (fun i s ⟨a,e1,e2⟩=>by rw [e2]; simp only [List.append_nil] at e1; rw [e1])⟩
 ·exact (h.mem (by rw [←e1]; simp)).lg
 ·have:=(h.mem (p:=x) (by rw [←e1]; simp)).ml; omega
 ·have:=congrArg p9 e1
  simp only [t9,a0p] at this
  rw [e2]
  dsimp only
  omega
 ·exact (h.mg x (by rw [←e1]; simp)).e
 ·have:=congrArg p9 e1
  simp only [t9,a0p] at this
  rw [e2]
  dsimp only
  omega
theorem qoe {n:Nat}{r:Raft}(h:SG n r) : Ev (fun _=>qbi r) r:=by
 obtain ⟨a,b⟩:=qnq h (B1:=fun i x s=>qcf i x s) (B2:=fun i x s=>qcj ⟨r.Peers,[]⟩ i x s) (fun i x s h1 h2 h3=>by
  unfold qcf
  rw [qaq (by omega),a1n,qaq (by omega),a1n,q4h (by omega)]
  rfl) (fun i x s h1 h2=>by
  unfold qcj
  rw [qaq (by omega),a1n,qg9 (by omega)]
  rfl)
 unfold qbi
 refine a3f a ?_
 unfold qfy
 exact a3f b a0h
theorem qoi {n:Nat}{r:Raft}(h:SG n r) : Ev (fun _=>qc8 r) r:=by
 obtain ⟨a,b⟩:=qnq h (B1:=fun i x s=>qap i x s) (B2:=fun i x s=>qan ⟨r.Peers,[]⟩ i x s) (fun i x s h1 h2 h3=>by
  unfold qap
  rw [qaq (by omega),a1n,qaq (by omega),a1n,q4h (by omega)]
  rfl) (fun i x s h1 h2=>by
  unfold qan
  rw [qaq (by omega),a1n,qg9 (by omega)]
  rfl)
 unfold qc8
 refine a3f a ?_
 unfold qey
 exact a3f b a0h
def we (p:Peer)(x:RaftStep) : Mail:=⟨false,x.K,x.To,p.Term,x.N,if 0<x.N then ((p.Log[x.N.toNat - 1]?).map Entry.Term).getD 0 else -1,(p.Log[x.N.toNat]?).toList,p.Commit,0⟩
def qh9 (n:Nat)(r:Raft)(x:RaftStep) : Prop:=je n x.To∧x.To≠x.K∧0≤x.N∧x.N≤(pr r x.K).Log.length∧r.Mail.length<20
theorem qmw {l:List Entry}{k:Int}{i:Nat}(h0:0≤k)(hi:k.toNat=i)(h:i<l.length) : ∃ e,zy l k=some e∧l[i]? = some e:=by
 subst hi
 refine ⟨_,?_,s8 h⟩
 unfold zy
 rw [if_pos h0]
 exact s8 h
theorem qqr {p:Peer}{x:RaftStep}(h0:0≤x.N)(h1:x.N≤p.Log.length)(hl:p.Log.length≤30){α:Type}{G:Nat→Int→Option α}{a:α}(hG:Ev (fun k=>G k (we p x).PTerm) a) : (0<x.N→Ev (fun k=>(zy p.Log (r8 .i64 (x.N - 1))).bind fun e=>G k e.Term) a)∧(¬ 0<x.N→Ev (fun k=>G k (-1)) a):=by
 refine ⟨fun q=>?_,fun q=>?_⟩
 ·obtain ⟨e,e1,e2⟩:=qmw (l:=p.Log) (k:=x.N - 1) (i:=x.N.toNat - 1) (by omega) (by omega) (by omega)
  rw [k9 (n:=x.N - 1) (by omega) (by omega)]
  refine a0c e1 ?_
  have:(we p x).PTerm=e.Term:=by
   unfold we
   dsimp only
   rw [if_pos q,e2]
   rfl
  rwa [this] at hG
 ·have:(we p x).PTerm = -1:=if_neg q
  rwa [this] at hG
theorem qql {p:Peer}{x:RaftStep}(h0:0≤x.N){α:Type}{G:Nat→List Entry→Option α}{a:α}(hG:Ev (fun k=>G k (we p x).Entry) a) : (x.N<p.Log.length→Ev (fun k=>(zy p.Log x.N).bind fun e=>G k [e]) a)∧(¬ x.N<p.Log.length→Ev (fun k=>G k []) a):=by
 refine ⟨fun q=>?_,fun q=>?_⟩
 ·obtain ⟨e,e1,e2⟩:=qmw (l:=p.Log) (k:=x.N) (i:=x.N.toNat) (by omega) rfl (by omega)
  refine a0c e1 ?_
  have:(we p x).Entry=[e]:=by
   unfold we
   dsimp only
   rw [e2]
   rfl
  rwa [this] at hG
 ·have:(we p x).Entry=[]:=by
   unfold we
   dsimp only
   rw [List.getElem?_eq_none (by omega)]
   rfl
  rwa [this] at hG
theorem zc9 {n:Nat}{r:Raft}{x:RaftStep}(h:SG n r)(hK:je n x.K) : (qh9 n r x→Ev (fun _=>ud r x) (⟨r.Peers,r.Mail++[we (pr r x.K) x]⟩,true))∧(¬ qh9 n r x→Ev (fun _=>ud r x) (r,false)):=by
 have hn:=h.hn
 have ml:=h.ml
 have g1:=(wv (r:=r) (k:=x.K) (by rw [hn]; exact hK)).1
 have hl:=(h.pg _ hK).lg
 have cond:(((((!(kf r x.To))||(decide (x.To=x.K)))||(decide (x.N<0)))||(decide ((p9 (pr r x.K).Log:Int)<x.N)))||(decide ((p9 r.Mail:Int)=20)))=true↔¬ qh9 n r x:=by
  unfold kf qh9 je
  rw [hn]
  simp only [a03,a1x,a2q,decide_eq_true_eq,decide_eq_false_iff_not]
  omega
 refine ⟨fun c=>?_,fun c=>?_⟩
 ·unfold ud
  refine a0c g1 (a0b (bF cond (fun q=>q c)) ?_)
  obtain ⟨c1,c2,c3,c4,c5⟩:=c
  have fin:Ev (fun _=>qdk r x (pr r x.K) ⟨false,x.K,x.To,(pr r x.K).Term,x.N,(we (pr r x.K) x).PTerm,[],(pr r x.K).Commit,0⟩) (⟨r.Peers,r.Mail++[we (pr r x.K) x]⟩,true):=by
   unfold qdk
   refine a0e (a:=(we (pr r x.K) x,r.Peers)) ?_ ?_
   ·obtain ⟨s1,s2⟩:=qql (p:=pr r x.K) (x:=x) c3 (G:=fun _ E=>some ((⟨false,x.K,x.To,(pr r x.K).Term,x.N,(we (pr r x.K) x).PTerm,E,(pr r x.K).Commit,0⟩ : Mail),r.Peers)) (a:=(we (pr r x.K) x,r.Peers)) (a23 rfl)
    by_cases q:x.N<(pr r x.K).Log.length
    ·exact a0l (by simpa using q) (s1 q)
    ·exact a0b (by simpa using q) (s2 q)
   ·unfold qe7
    exact a0c (qg9 (by omega)) a0h
  obtain ⟨s1,s2⟩:=qqr (p:=pr r x.K) (x:=x) c3 c4 hl (G:=fun _ T=>some (⟨false,x.K,x.To,(pr r x.K).Term,x.N,T,[],(pr r x.K).Commit,0⟩ : Mail)) (a23 rfl)
  refine a0e ?_ fin
  by_cases q:0<x.N
  ·exact a0l (by simpa using q) (s1 q)
  ·exact a0b (by simpa using q) (s2 q)
 ·unfold ud
  exact a0c g1 (a0l (cond.2 c) a0h)
theorem zbj {n:Nat}{r:Raft}{x:RaftStep}(h:SG n r)(hK:je n x.K)(hk:x.Kind=3) : (qh9 n r x→Ev (fun _=>yf r x) (true,⟨r.Peers,r.Mail++[we (pr r x.K) x]⟩))∧(¬ qh9 n r x→Ev (fun _=>yf r x) (false,r)):=by
 have hn:=h.hn
 have ml:=h.ml
 have n5:=h.n1
 have g1:=(wv (r:=r) (k:=x.K) (by rw [hn]; exact hK)).1
 have hl:=(h.pg _ hK).lg
 have e1:r8 .i64 ((p9 r.Peers:Int) - 1)=(n:Int) - 1:=by rw [hn]; exact k9 (by omega) (by omega)
 have c1':((!(zg x.To 0 (r8 .i64 ((p9 r.Peers:Int) - 1))))||(decide (x.To=x.K)))=true↔¬ (je n x.To∧x.To≠x.K):=by
  rw [e1]
  unfold zg je
  simp only [a03,a1x,a2q,decide_eq_true_eq,decide_eq_false_iff_not]
  omega
 have c2':((!(zg x.N 0 (p9 (pr r x.K).Log:Int)))||(decide ((p9 r.Mail:Int)=20)))=true↔¬ (0≤x.N∧x.N≤(pr r x.K).Log.length∧r.Mail.length<20):=by
  unfold zg
  simp only [a03,a1x,a2q,decide_eq_true_eq,decide_eq_false_iff_not]
  omega
 have pre:∀ {o:Bool × Raft},(Ev (fun _=>(if
  ((!(zg x.To 0 (r8 .i64 ((p9 r.Peers:Int) - 1))))||(decide (x.To=x.K)))=true then (some (false,
  r)) else (if ((!(zg x.N 0 (p9 (pr r x.K).Log:Int)))||(decide ((p9 r.Mail:Int)=20)))=true then (some (false,
  r)) else ((if (decide ((0:Int)<x.N))=true then ((zy (pr r x.K).Log (r8 .i64 (x.N - 1))).bind fun x167=>(some (r.Peers,
  (Mail.mk false x.K x.To (pr r x.K).Term x.N x167.Term [] (pr r x.K).Commit 0)))) else (some (r.Peers,
  (Mail.mk false x.K x.To (pr r x.K).Term x.N (-1) [] (pr r x.K).Commit 0)))).bind (fun s283=>qam r x s283.1 s283.2))))) o)→Ev (fun _=>yf r x) o:=fun ho=>by
  unfold yf
  exact a0c g1 (a0b (by rw [hk]; rfl) (a0l (by rw [hk]; rfl) ho))
 refine ⟨fun c=>pre ?_,fun c=>pre ?_⟩
 ·obtain ⟨c1,c2,c3,c4,c5⟩:=c
  refine a0b (bF c1' (fun q=>q ⟨c1,c2⟩)) (a0b (bF c2' (fun q=>q ⟨c3,c4,c5⟩)) ?_)
  have fin:Ev (fun _=>qam r x r.Peers ⟨false,x.K,x.To,(pr r x.K).Term,x.N,(we (pr r x.K) x).PTerm,[],(pr r x.K).Commit,0⟩) (true,⟨r.Peers,r.Mail++[we (pr r x.K) x]⟩):=by
   unfold qam
   refine a0c g1 (a0e (a:=(we (pr r x.K) x,r.Peers)) ?_ ?_)
   ·obtain ⟨s1,s2⟩:=qql (p:=pr r x.K) (x:=x) c3 (G:=fun _ E=>some ((⟨false,x.K,x.To,(pr r x.K).Term,x.N,(we (pr r x.K) x).PTerm,E,(pr r x.K).Commit,0⟩ : Mail),r.Peers)) (a:=(we (pr r x.K) x,r.Peers)) (a23 rfl)
    by_cases q:x.N<(pr r x.K).Log.length
    ·exact a0l (by simpa using q) (s1 q)
    ·exact a0b (by simpa using q) (s2 q)
   ·unfold qew
    exact a0c (qg9 (by omega)) a0h
  obtain ⟨s1,s2⟩:=qqr (p:=pr r x.K) (x:=x) c3 c4 hl (G:=fun _ T=>some (r.Peers,(⟨false,x.K,x.To,(pr r x.K).Term,x.N,T,[],(pr r x.K).Commit,0⟩ : Mail))) (a23 rfl)
  refine a0e (a:=(r.Peers,(⟨false,x.K,x.To,(pr r x.K).Term,x.N,(we (pr r x.K) x).PTerm,[],(pr r x.K).Commit,0⟩ : Mail))) ?_ fin
  by_cases q:0<x.N
  ·exact a0l (by simpa using q) (s1 q)
  ·exact a0b (by simpa using q) (s2 q)
 ·by_cases q:je n x.To∧x.To≠x.K
  ·exact a0b (bF c1' (fun w=>w q)) (a0l (c2'.2 (fun w=>c ⟨q.1,q.2,w.1,w.2.1,w.2.2⟩)) a0h)
  ·exact a0l (c1'.2 q) a0h
def qcr (l:List Int)(N:Int) : Nat:=l.countP (fun m=>decide (N≤m))
theorem qo5 {ρ:Type}{B:Nat→Int→Option (Oc Int ρ)}{l:List Int}{N:Int}(hl:l.length≤1000)(hB:∀ i s,B i s=(zy l (i:Int)).bind fun x=>(if (decide (N≤x))=true then (some (.nxt (r8 .i64 (s+1)))) else (some (.nxt s)))) : Ev (fun _=>wi B (l.length:Int) 0) (.nxt (qcr l N:Int)):=by
 simp only [qdx]
 refine yo (B:=fun _ i _ s=>B i s) (by simp; omega) (fun i q s=>i+q.length=l.length∧s=(qcr (l.take i) N:Int)) ⟨by simp,by simp [qcr]⟩ (fun i _ q s ⟨h1,h2⟩ => .inl ?_) (fun i s ⟨h1,h2⟩=>by
  simp only [a1y,Nat.add_zero] at h1
  rw [h2,h1,List.take_length])
 simp only [a0p] at h1
 obtain ⟨x,hx⟩ : ∃ x,l[i]? = some x:=⟨_,s8 (by omega)⟩
 have ht:qcr (l.take (i+1)) N=qcr (l.take i) N+if N≤x then 1 else 0:=by
  unfold qcr
  rw [List.take_add_one,hx,List.countP_append]
  simp only [Option.toList_some,List.countP_cons,List.countP_nil,decide_eq_true_eq,Nat.zero_add]
 have hle:qcr (l.take i) N≤l.length:=by
  have:=List.countP_le_length (p:=fun m=>decide (N≤m)) (l:=l.take i)
  rw [List.length_take] at this
  unfold qcr
  omega
 simp only [hB]
 by_cases q:N≤x
 ·refine ⟨_,a0c (y9 hx) (a0l (by simpa using q) a0h),by omega,?_⟩
  rw [ht,if_pos q,h2,k9 (by omega) (by omega)]
  rfl
 ·exact ⟨_,a0c (y9 hx) (a0b (by simpa using q) a0h),by omega,by rw [ht,if_neg q,h2]; rfl⟩
def qjv (n:Nat)(r:Raft)(x:RaftStep) : Prop:=(pr r x.K).Commit<x.N∧x.N≤(pr r x.K).Log.length∧(∃ e,(pr r x.K).Log[x.N.toNat - 1]? = some e∧e.Term=(pr r x.K).Term)∧n<2*qcr (pr r x.K).Match x.N
def qps (p:Peer)(N:Int) : Peer:=⟨p.Term,p.Leads,p.Log,N,p.Match⟩
theorem q6i {p:Peer}{N:Int}(h0:0<N)(h1:N≤p.Log.length)(hl:p.Log.length≤30) : Is (fun _=>(zy p.Log (r8 .i64 (N - 1))).bind fun e=>some (decide (e.Term≠p.Term))) (¬ ∃ e,p.Log[N.toNat - 1]? = some e∧e.Term=p.Term):=by
 obtain ⟨e,e1,e2⟩:=qmw (l:=p.Log) (k:=N - 1) (i:=N.toNat - 1) (by omega) (by omega) (by omega)
 rw [k9 (n:=N - 1) (by omega) (by omega)]
 refine ⟨_,a0c e1 a0h,?_⟩
 rw [decide_eq_true_iff]
 constructor
 ·rintro q ⟨f,f1,f2⟩
  rw [e2] at f1
  cases f1
  exact q f2
 ·intro q w
  exact q ⟨e,e2,w⟩
theorem q1j {n:Nat}{r:Raft}{x:RaftStep}(h:SG n r)(hK:je n x.K) : (qjv n r x→Ev (fun _=>xn r x.K x.N) (⟨r.Peers.set x.K.toNat (qps (pr r x.K) x.N),r.Mail⟩,true))∧(¬ qjv n r x→Ev (fun _=>xn r x.K x.N) (r,false)):=by
 have hn:=h.hn
 have n5:=h.n1
 have g1:=(wv (r:=r) (k:=x.K) (by rw [hn]; exact hK)).1
 have hp:=h.pg _ hK
 have hl:=hp.lg
 have hc:=hp.c0
 have hml:=hp.ml
 have hle:qcr (pr r x.K).Match x.N≤(pr r x.K).Match.length:=List.countP_le_length
 have loop:=qo5 (ρ:=Raft × Bool) (B:=fun i82 s116=>qbv x.N (pr r x.K) i82 s116) (l:=(pr r x.K).Match) (N:=x.N) (by omega) (fun i s=>rfl)
 have e2:r8 .i64 ((2:Int)*(qcr (pr r x.K).Match x.N:Int))=2*(qcr (pr r x.K).Match x.N:Int):=k9 (by omega) (by omega)
 obtain ⟨b,hb,hb2⟩ : ∃ b,Ev (fun _=>(if ((decide (x.N≤(pr r x.K).Commit))||(decide ((p9 (pr r x.K).Log:Int)<x.N)))=true then (some true) else ((zy (pr r x.K).Log (r8 .i64 (x.N - 1))).bind fun x54=>(some (decide (x54.Term≠(pr r x.K).Term)))))) b∧(b=true↔¬ ((pr r x.K).Commit<x.N∧x.N≤(pr r x.K).Log.length∧(∃ e,(pr r x.K).Log[x.N.toNat - 1]? = some e∧e.Term=(pr r x.K).Term))):=by
  by_cases q:(pr r x.K).Commit<x.N∧x.N≤(pr r x.K).Log.length
  ·obtain ⟨b,e1,e3⟩:=q6i (p:=pr r x.K) (N:=x.N) (by omega) q.2 hl
   refine ⟨b,a0b (by simp; omega) e1,e3.trans (not_congr ⟨fun w=>⟨q.1,q.2,w⟩,fun w=>w.2.2⟩)⟩
  ·exact ⟨true,a0l (by simp; omega) a0h,by simp only [true_iff]; exact fun w=>q ⟨w.1,w.2.1⟩⟩
 unfold xn
 refine ⟨fun c=>?_,fun c=>?_⟩
 ·obtain ⟨c1,c2,c3,c4⟩:=c
  refine a0c g1 (a0e hb (a0b (bF hb2 (fun q=>q ⟨c1,c2,c3⟩)) (a3f loop ?_)))
  unfold qb6
  rw [e2,hn]
  exact a0b (by simp; omega) a0h
 ·by_cases q:((pr r x.K).Commit<x.N∧x.N≤(pr r x.K).Log.length∧(∃ e,(pr r x.K).Log[x.N.toNat - 1]? = some e∧e.Term=(pr r x.K).Term))
  ·refine a0c g1 (a0e hb (a0b (bF hb2 (fun w=>w q)) (a3f loop ?_)))
   unfold qb6
   rw [e2,hn]
   refine a0l ?_ a0h
   have:¬ n<2*qcr (pr r x.K).Match x.N:=fun w=>c ⟨q.1,q.2.1,q.2.2,w⟩
   simp
   omega
  ·exact a0c g1 (a0e hb (a0l (hb2.2 q) a0h))
theorem q1t {n:Nat}{r:Raft}{x:RaftStep}(h:SG n r)(hK:je n x.K)(hk:x.Kind=7) : (qjv n r x→Ev (fun _=>yf r x) (true,⟨r.Peers.set x.K.toNat (qps (pr r x.K) x.N),r.Mail⟩))∧(¬ qjv n r x→Ev (fun _=>yf r x) (false,r)):=by
 have hn:=h.hn
 have n5:=h.n1
 have g1:=(wv (r:=r) (k:=x.K) (by rw [hn]; exact hK)).1
 have hp:=h.pg _ hK
 have hl:=hp.lg
 have hc:=hp.c0
 have hc1:=hp.c1
 have hml:=hp.ml
 have hle:qcr (pr r x.K).Match x.N≤(pr r x.K).Match.length:=List.countP_le_length
 have loop:=qo5 (ρ:=Bool × Raft) (B:=fun i301 s334=>qc2 x (pr r x.K) i301 s334) (l:=(pr r x.K).Match) (N:=x.N) (by omega) (fun i s=>rfl)
 have e2:r8 .i64 ((2:Int)*(qcr (pr r x.K).Match x.N:Int))=2*(qcr (pr r x.K).Match x.N:Int):=k9 (by omega) (by omega)
 have e1:r8 .i64 ((pr r x.K).Commit+1)=(pr r x.K).Commit+1:=k9 (by omega) (by omega)
 obtain ⟨b,hb,hb2⟩ : ∃ b,Ev (fun _=>(if (!(zg x.N (r8 .i64 ((pr r x.K).Commit+1))
  (p9 (pr r x.K).Log:Int)))=true then (some true) else ((zy (pr r x.K).Log (r8 .i64 (x.N - 1))).bind fun x347=>(some (decide
  (x347.Term≠(pr r x.K).Term)))))) b∧(b=true↔¬ ((pr r x.K).Commit<x.N∧x.N≤(pr r x.K).Log.length∧(∃ e,(pr r x.K).Log[x.N.toNat - 1]? = some e∧e.Term=(pr r x.K).Term))):=by
  rw [e1]
  by_cases q:(pr r x.K).Commit<x.N∧x.N≤(pr r x.K).Log.length
  ·obtain ⟨b,e1,e3⟩:=q6i (p:=pr r x.K) (N:=x.N) (by omega) q.2 hl
   refine ⟨b,a0b (by unfold zg; simp; omega) e1,e3.trans (not_congr ⟨fun w=>⟨q.1,q.2,w⟩,fun w=>w.2.2⟩)⟩
  ·exact ⟨true,a0l (by unfold zg; simp; omega) a0h,by simp only [true_iff]; exact fun w=>q ⟨w.1,w.2.1⟩⟩
 have cond:(b||(decide ((r8 .i64 ((2:Int)*(qcr (pr r x.K).Match x.N:Int)))≤(p9 r.Peers:Int))))=true↔¬ qjv n r x:=by
  rw [e2,hn]
  unfold qjv
  rw [a03,hb2,decide_eq_true_iff]
  constructor
  ·rintro (q | q) ⟨w1,w2,w3,w4⟩
   ·exact q ⟨w1,w2,w3⟩
   ·omega
  ·intro q
   apply Classical.byContradiction
   intro w
   rw [not_or,Classical.not_not] at w
   exact q ⟨w.1.1,w.1.2.1,w.1.2.2,by omega⟩
 unfold yf
 refine ⟨fun c=>?_,fun c=>?_⟩
 ·refine a0c g1 (a0b (by rw [hk]; rfl) (a0b (by rw [hk]; rfl) (a3f loop ?_)))
  unfold qcz
  exact a0e hb (a0b (bF cond (fun w=>w c)) a0h)
 ·refine a0c g1 (a0b (by rw [hk]; rfl) (a0b (by rw [hk]; rfl) (a3f loop ?_)))
  unfold qcz
  exact a0e hb (a0l (cond.2 c) a0h)
def qj1 (r:Raft)(x:RaftStep) : Prop:=0≤x.N∧x.N≤99∧(pr r x.K).Log.length<30
def qin (p:Peer)(x:RaftStep) : Peer:=⟨p.Term,p.Leads,p.Log++[⟨p.Term,x.N⟩],p.Commit,p.Match.set x.K.toNat ((p.Log.length+1:Nat) : Int)⟩
theorem qsu {n:Nat}{r:Raft}{x:RaftStep}(h:SG n r)(hK:je n x.K)(hk:x.Kind=2) : (qj1 r x→Ev (fun _=>yf r x) (true,⟨r.Peers.set x.K.toNat (qin (pr r x.K) x),r.Mail⟩))∧(¬ qj1 r x→Ev (fun _=>yf r x) (false,r)):=by
 have hn:=h.hn
 have g1:=(wv (r:=r) (k:=x.K) (by rw [hn]; exact hK)).1
 have hp:=h.pg _ hK
 have hl:=hp.lg
 have cond:((!(zg x.N 0 99))||(decide ((p9 (pr r x.K).Log:Int)=30)))=true↔¬ qj1 r x:=by
  unfold zg qj1
  simp only [a03,a1x,a2q,decide_eq_true_eq,decide_eq_false_iff_not]
  omega
 unfold yf
 refine ⟨fun c=>a0c g1 (a0l (by rw [hk]; rfl) (a0b (bF cond (fun w=>w c)) (a0c (qis (by omega)) (a0c (ql6 hp.ml hK) (a23 ?_))))),fun c=>a0c g1 (a0l (by rw [hk]; rfl) (a0l (cond.2 c) a0h))⟩
 rw [t9]
 rfl
end Go.Proofs.Ytanblnjomhgphaa.X
