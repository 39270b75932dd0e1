/- A raft: copies, what a leader does; both sides. -/
import Derived.Test.YtanblnjomhgphaaXAL10f
open Bool renaming and_eq_false_imp→a2m,not_eq_true'→a1t,or_eq_true→a1z
open Go.Proofs.Ytanblnjomhgphaa.X.Ev renaming bindp→t7,bind→a0a,iteF→t3,iteT→a0e,jn→a3h,of→a2p,rfl→a0b
open Go.IntKind renaming wrap→l9
open List renaming getElem?_eq_getElem→o9,length_append→t4,length_cons→a0k,length_nil→a1u,length→o6
open Option renaming bind_some→a19
set_option linter.unusedVariables false
set_option linter.unusedSimpArgs false
namespace Go.Proofs.Ytanblnjomhgphaa.X
open Go

theorem SG.mem {n:Nat}{r:Raft}(h:SG n r){p:Peer}(hp:p∈r.Peers) : PG n p:=by
 obtain ⟨i,hi⟩:=List.getElem?_of_mem hp
 have hlt:=(List.getElem?_eq_some_iff.1 hi).1
 have hr:je n (i:Int):=⟨by omega,by have:=h.hn; omega⟩
 have g:=(x5 (r:=r) (k:=(i:Int)) (by rw [h.hn]; exact hr)).2.1
 rw [Int.toNat_natCast,hi] at g
 cases g
 exact h.pg _ hr
theorem q2f {l:List Peer}{p:Peer}(h:l.length≤1000) : ju 72 l [p]=some (l++[p]):=by
 unfold ju
 rw [if_pos (by simp only [a0k,a1u]; omega)]
theorem qnf {ρ:Type}{n:Nat}{r:Raft}(h:SG n r){B1:Nat→Peer→Raft→Option (Oc Raft ρ)}{B2:Nat→Mail→Raft→Option (Oc Raft ρ)}(h1:∀ i x s,x.Log.length≤30→x.Match.length≤5→s.Peers.length≤10→B1 i x s=some (.nxt ⟨s.Peers++[x],[]⟩))(h2:∀ i x s,x.Entry.length≤1→s.Mail.length≤50→B2 i x s=some (.nxt ⟨r.Peers,s.Mail++[x]⟩)) : Ev (fun _=>yd B1 r.Peers ⟨[],[]⟩) (.nxt ⟨r.Peers,[]⟩)∧Ev (fun _=>yd B2 r.Mail ⟨r.Peers,[]⟩) (.nxt r):=by
 have hn:=h.hn
 have n5:=h.n1
 have ml:=h.ml
 refine ⟨wk (by omega) (fun i q s=>∃ a,a++q=r.Peers∧s=⟨a,[]⟩) ⟨[],rfl,rfl⟩ (fun i x q s ⟨a,e1,e2⟩ => .inl ⟨_,a2p (h1 i x s ?_ ?_ ?_),a++[x],by simpa using e1,by rw [e2]⟩) (fun i s ⟨a,e1,e2⟩=>by rw [e2,← e1]; simp),wk (by omega) (fun i q s=>∃ a,a++q=r.Mail∧s=⟨r.Peers,a⟩) ⟨[],rfl,rfl⟩ (fun i x q s ⟨a,e1,e2⟩ => .inl ⟨_,a2p (h2 i x s ?_ ?_),a++[x],by simpa using e1,by rw [e2]⟩) (fun i s ⟨a,e1,e2⟩=>by rw [e2]; simp only [List.append_nil] at e1; rw [e1])⟩
 ·exact (h.mem (by rw [←e1]; simp)).lg
 ·have:=(h.mem (p:=x) (by rw [←e1]; simp)).ml; omega
 ·have:=congrArg o6 e1
  simp only [t4,a0k] at this
  rw [e2]
  dsimp only
  omega
 ·exact (h.mg x (by rw [←e1]; simp)).e
 ·have:=congrArg o6 e1
  simp only [t4,a0k] at this
  rw [e2]
  dsimp only
  omega
theorem q5n {n:Nat}{r:Raft}(h:SG n r) : Ev (fun _=>qcr r) r:=by
 obtain ⟨a,b⟩:=qnf h (B1:=fun i x s=>qbv i x s) (B2:=fun i x s=>qbz ⟨r.Peers,[]⟩ i x s) (fun i x s h1 h2 h3=>by
  unfold qbv
  rw [qbg (by omega),a19,qbg (by omega),a19,q2f (by omega)]
  rfl) (fun i x s h1 h2=>by
  unfold qbz
  rw [qbg (by omega),a19,qgq (by omega)]
  rfl)
 unfold qcr
 refine a3h a ?_
 unfold qfp
 exact a3h b a0b
theorem qn0 {n:Nat}{r:Raft}(h:SG n r) : Ev (fun _=>qcl r) r:=by
 obtain ⟨a,b⟩:=qnf h (B1:=fun i x s=>qah i x s) (B2:=fun i x s=>qai ⟨r.Peers,[]⟩ i x s) (fun i x s h1 h2 h3=>by
  unfold qah
  rw [qbg (by omega),a19,qbg (by omega),a19,q2f (by omega)]
  rfl) (fun i x s h1 h2=>by
  unfold qai
  rw [qbg (by omega),a19,qgq (by omega)]
  rfl)
 unfold qcl
 refine a3h a ?_
 unfold qee
 exact a3h b a0b
def yu (p:Peer)(x:RaftStep) : Mail:=⟨false,x.K,x.To,p.Term,x.N,if 0<x.N then ((p.Log[x.N.toNat - 1]?).map Entry.Term).getD 0 else -1,(p.Log[x.N.toNat]?).toList,p.Commit,0⟩
def qhl (n:Nat)(r:Raft)(x:RaftStep) : Prop:=je n x.To∧x.To≠x.K∧0≤x.N∧x.N≤(pr r x.K).Log.length∧r.Mail.length<20
theorem qm4 {l:List Entry}{k:Int}{i:Nat}(h0:0≤k)(hi:k.toNat=i)(h:i<l.length) : ∃ e,zn l k=some e∧l[i]? = some e:=by
 subst hi
 refine ⟨_,?_,o9 h⟩
 unfold zn
 rw [if_pos h0]
 exact o9 h
theorem qp7 {p:Peer}{x:RaftStep}(h0:0≤x.N)(h1:x.N≤p.Log.length)(hl:p.Log.length≤30){α:Type}{G:Nat→Int→Option α}{a:α}(hG:Ev (fun k=>G k (yu p x).PTerm) a) : (0<x.N→Ev (fun k=>(zn p.Log (l9 .i64 (x.N - 1))).bind fun e=>G k e.Term) a)∧(¬ 0<x.N→Ev (fun k=>G k (-1)) a):=by
 refine ⟨fun q=>?_,fun q=>?_⟩
 ·obtain ⟨e,e1,e2⟩:=qm4 (l:=p.Log) (k:=x.N - 1) (i:=x.N.toNat - 1) (by omega) (by omega) (by omega)
  rw [wq (n:=x.N - 1) (by omega) (by omega)]
  refine t7 e1 ?_
  have:(yu p x).PTerm=e.Term:=by
   unfold yu
   dsimp only
   rw [if_pos q,e2]
   rfl
  rwa [this] at hG
 ·have:(yu p x).PTerm = -1:=if_neg q
  rwa [this] at hG
theorem qqe {p:Peer}{x:RaftStep}(h0:0≤x.N){α:Type}{G:Nat→List Entry→Option α}{a:α}(hG:Ev (fun k=>G k (yu p x).Entry) a) : (x.N<p.Log.length→Ev (fun k=>(zn p.Log x.N).bind fun e=>G k [e]) a)∧(¬ x.N<p.Log.length→Ev (fun k=>G k []) a):=by
 refine ⟨fun q=>?_,fun q=>?_⟩
 ·obtain ⟨e,e1,e2⟩:=qm4 (l:=p.Log) (k:=x.N) (i:=x.N.toNat) (by omega) rfl (by omega)
  refine t7 e1 ?_
  have:(yu p x).Entry=[e]:=by
   unfold yu
   dsimp only
   rw [e2]
   rfl
  rwa [this] at hG
 ·have:(yu p x).Entry=[]:=by
   unfold yu
   dsimp only
   rw [List.getElem?_eq_none (by omega)]
   rfl
  rwa [this] at hG
theorem zbz {n:Nat}{r:Raft}{x:RaftStep}(h:SG n r)(hK:je n x.K) : (qhl n r x→Ev (fun _=>xe r x) (⟨r.Peers,r.Mail++[yu (pr r x.K) x]⟩,true))∧(¬ qhl n r x→Ev (fun _=>xe r x) (r,false)):=by
 have hn:=h.hn
 have ml:=h.ml
 have g1:=(x5 (r:=r) (k:=x.K) (by rw [hn]; exact hK)).1
 have hl:=(h.pg _ hK).lg
 have cond:(((((!(jy r x.To))||(decide (x.To=x.K)))||(decide (x.N<0)))||(decide ((o6 (pr r x.K).Log:Int)<x.N)))||(decide ((o6 r.Mail:Int)=20)))=true↔¬ qhl n r x:=by
  unfold jy qhl je
  rw [hn]
  simp only [a1z,a1t,a2m,decide_eq_true_eq,decide_eq_false_iff_not]
  omega
 refine ⟨fun c=>?_,fun c=>?_⟩
 ·unfold xe
  refine t7 g1 (t3 (bF cond (fun q=>q c)) ?_)
  obtain ⟨c1,c2,c3,c4,c5⟩:=c
  have fin:Ev (fun _=>qcy r x (pr r x.K) ⟨false,x.K,x.To,(pr r x.K).Term,x.N,(yu (pr r x.K) x).PTerm,[],(pr r x.K).Commit,0⟩) (⟨r.Peers,r.Mail++[yu (pr r x.K) x]⟩,true):=by
   unfold qcy
   refine a0a (a:=(yu (pr r x.K) x,r.Peers)) ?_ ?_
   ·obtain ⟨s1,s2⟩:=qqe (p:=pr r x.K) (x:=x) c3 (G:=fun _ E=>some ((⟨false,x.K,x.To,(pr r x.K).Term,x.N,(yu (pr r x.K) x).PTerm,E,(pr r x.K).Commit,0⟩ : Mail),r.Peers)) (a:=(yu (pr r x.K) x,r.Peers)) (a2p rfl)
    by_cases q:x.N<(pr r x.K).Log.length
    ·exact a0e (by simpa using q) (s1 q)
    ·exact t3 (by simpa using q) (s2 q)
   ·unfold qep
    exact t7 (qgq (by omega)) a0b
  obtain ⟨s1,s2⟩:=qp7 (p:=pr r x.K) (x:=x) c3 c4 hl (G:=fun _ T=>some (⟨false,x.K,x.To,(pr r x.K).Term,x.N,T,[],(pr r x.K).Commit,0⟩ : Mail)) (a2p rfl)
  refine a0a ?_ fin
  by_cases q:0<x.N
  ·exact a0e (by simpa using q) (s1 q)
  ·exact t3 (by simpa using q) (s2 q)
 ·unfold xe
  exact t7 g1 (a0e (cond.2 c) a0b)
theorem zc9 {n:Nat}{r:Raft}{x:RaftStep}(h:SG n r)(hK:je n x.K)(hk:x.Kind=3) : (qhl n r x→Ev (fun _=>yb r x) (true,⟨r.Peers,r.Mail++[yu (pr r x.K) x]⟩))∧(¬ qhl n r x→Ev (fun _=>yb r x) (false,r)):=by
 have hn:=h.hn
 have ml:=h.ml
 have n5:=h.n1
 have g1:=(x5 (r:=r) (k:=x.K) (by rw [hn]; exact hK)).1
 have hl:=(h.pg _ hK).lg
 have e1:l9 .i64 ((o6 r.Peers:Int) - 1)=(n:Int) - 1:=by rw [hn]; exact wq (by omega) (by omega)
 have c1':((!(jh x.To 0 (l9 .i64 ((o6 r.Peers:Int) - 1))))||(decide (x.To=x.K)))=true↔¬ (je n x.To∧x.To≠x.K):=by
  rw [e1]
  unfold jh je
  simp only [a1z,a1t,a2m,decide_eq_true_eq,decide_eq_false_iff_not]
  omega
 have c2':((!(jh x.N 0 (o6 (pr r x.K).Log:Int)))||(decide ((o6 r.Mail:Int)=20)))=true↔¬ (0≤x.N∧x.N≤(pr r x.K).Log.length∧r.Mail.length<20):=by
  unfold jh
  simp only [a1z,a1t,a2m,decide_eq_true_eq,decide_eq_false_iff_not]
  omega
 have pre:∀ {o:Bool × Raft},(Ev (fun _=>(if
  ((!(jh x.To 0 (l9 .i64 ((o6 r.Peers:Int) - 1))))||(decide (x.To=x.K)))=true then (some (false,
  r)) else (if ((!(jh x.N 0 (o6 (pr r x.K).Log:Int)))||(decide ((o6 r.Mail:Int)=20)))=true then (some (false,
  r)) else ((if (decide ((0:Int)<x.N))=true then ((zn (pr r x.K).Log (l9 .i64 (x.N - 1))).bind fun x167=>(some (r.Peers,
  (Mail.mk false x.K x.To (pr r x.K).Term x.N x167.Term [] (pr r x.K).Commit 0)))) else (some (r.Peers,
  (Mail.mk false x.K x.To (pr r x.K).Term x.N (-1) [] (pr r x.K).Commit 0)))).bind (fun s283=>qap r x s283.1 s283.2))))) o)→Ev (fun _=>yb r x) o:=fun ho=>by
  unfold yb
  exact t7 g1 (t3 (by rw [hk]; rfl) (a0e (by rw [hk]; rfl) ho))
 refine ⟨fun c=>pre ?_,fun c=>pre ?_⟩
 ·obtain ⟨c1,c2,c3,c4,c5⟩:=c
  refine t3 (bF c1' (fun q=>q ⟨c1,c2⟩)) (t3 (bF c2' (fun q=>q ⟨c3,c4,c5⟩)) ?_)
  have fin:Ev (fun _=>qap r x r.Peers ⟨false,x.K,x.To,(pr r x.K).Term,x.N,(yu (pr r x.K) x).PTerm,[],(pr r x.K).Commit,0⟩) (true,⟨r.Peers,r.Mail++[yu (pr r x.K) x]⟩):=by
   unfold qap
   refine t7 g1 (a0a (a:=(yu (pr r x.K) x,r.Peers)) ?_ ?_)
   ·obtain ⟨s1,s2⟩:=qqe (p:=pr r x.K) (x:=x) c3 (G:=fun _ E=>some ((⟨false,x.K,x.To,(pr r x.K).Term,x.N,(yu (pr r x.K) x).PTerm,E,(pr r x.K).Commit,0⟩ : Mail),r.Peers)) (a:=(yu (pr r x.K) x,r.Peers)) (a2p rfl)
    by_cases q:x.N<(pr r x.K).Log.length
    ·exact a0e (by simpa using q) (s1 q)
    ·exact t3 (by simpa using q) (s2 q)
   ·unfold qec
    exact t7 (qgq (by omega)) a0b
  obtain ⟨s1,s2⟩:=qp7 (p:=pr r x.K) (x:=x) c3 c4 hl (G:=fun _ T=>some (r.Peers,(⟨false,x.K,x.To,(pr r x.K).Term,x.N,T,[],(pr r x.K).Commit,0⟩ : Mail))) (a2p rfl)
  refine a0a (a:=(r.Peers,(⟨false,x.K,x.To,(pr r x.K).Term,x.N,(yu (pr r x.K) x).PTerm,[],(pr r x.K).Commit,0⟩ : Mail))) ?_ fin
  by_cases q:0<x.N
  ·exact a0e (by simpa using q) (s1 q)
  ·exact t3 (by simpa using q) (s2 q)
 ·by_cases q:je n x.To∧x.To≠x.K
  ·exact t3 (bF c1' (fun w=>w q)) (a0e (c2'.2 (fun w=>c ⟨q.1,q.2,w.1,w.2.1,w.2.2⟩)) a0b)
  ·exact a0e (c1'.2 q) a0b
def qb2 (l:List Int)(N:Int) : Nat:=l.countP (fun m=>decide (N≤m))
theorem qoz {ρ:Type}{B:Nat→Int→Option (Oc Int ρ)}{l:List Int}{N:Int}(hl:l.length≤1000)(hB:∀ i s,B i s=(zn l (i:Int)).bind fun x=>(if (decide (N≤x))=true then (some (.nxt (l9 .i64 (s+1)))) else (some (.nxt s)))) : Ev (fun _=>wn B (l.length:Int) 0) (.nxt (qb2 l N:Int)):=by
 simp only [qd7]
 refine wk (B:=fun _ i _ s=>B i s) (by simp; omega) (fun i q s=>i+q.length=l.length∧s=(qb2 (l.take i) N:Int)) ⟨by simp,by simp [qb2]⟩ (fun i _ q s ⟨h1,h2⟩ => .inl ?_) (fun i s ⟨h1,h2⟩=>by
  simp only [a1u,Nat.add_zero] at h1
  rw [h2,h1,List.take_length])
 simp only [a0k] at h1
 obtain ⟨x,hx⟩ : ∃ x,l[i]? = some x:=⟨_,o9 (by omega)⟩
 have ht:qb2 (l.take (i+1)) N=qb2 (l.take i) N+if N≤x then 1 else 0:=by
  unfold qb2
  rw [List.take_add_one,hx,List.countP_append]
  simp only [Option.toList_some,List.countP_cons,List.countP_nil,decide_eq_true_eq,Nat.zero_add]
 have hle:qb2 (l.take i) N≤l.length:=by
  have:=List.countP_le_length (p:=fun m=>decide (N≤m)) (l:=l.take i)
  rw [List.length_take] at this
  unfold qb2
  omega
 simp only [hB]
 by_cases q:N≤x
 ·refine ⟨_,t7 (jd hx) (a0e (by simpa using q) a0b),by omega,?_⟩
  rw [ht,if_pos q,h2,wq (by omega) (by omega)]
  rfl
 ·exact ⟨_,t7 (jd hx) (t3 (by simpa using q) a0b),by omega,by rw [ht,if_neg q,h2]; rfl⟩
def qjm (n:Nat)(r:Raft)(x:RaftStep) : Prop:=(pr r x.K).Commit<x.N∧x.N≤(pr r x.K).Log.length∧(∃ e,(pr r x.K).Log[x.N.toNat - 1]? = some e∧e.Term=(pr r x.K).Term)∧n<2*qb2 (pr r x.K).Match x.N
def qou (p:Peer)(N:Int) : Peer:=⟨p.Term,p.Leads,p.Log,N,p.Match⟩
theorem q83 {p:Peer}{N:Int}(h0:0<N)(h1:N≤p.Log.length)(hl:p.Log.length≤30) : Is (fun _=>(zn p.Log (l9 .i64 (N - 1))).bind fun e=>some (decide (e.Term≠p.Term))) (¬ ∃ e,p.Log[N.toNat - 1]? = some e∧e.Term=p.Term):=by
 obtain ⟨e,e1,e2⟩:=qm4 (l:=p.Log) (k:=N - 1) (i:=N.toNat - 1) (by omega) (by omega) (by omega)
 rw [wq (n:=N - 1) (by omega) (by omega)]
 refine ⟨_,t7 e1 a0b,?_⟩
 rw [decide_eq_true_iff]
 constructor
 ·rintro q ⟨f,f1,f2⟩
  rw [e2] at f1
  cases f1
  exact q f2
 ·intro q w
  exact q ⟨e,e2,w⟩
theorem q1b {n:Nat}{r:Raft}{x:RaftStep}(h:SG n r)(hK:je n x.K) : (qjm n r x→Ev (fun _=>wz r x.K x.N) (⟨r.Peers.set x.K.toNat (qou (pr r x.K) x.N),r.Mail⟩,true))∧(¬ qjm n r x→Ev (fun _=>wz r x.K x.N) (r,false)):=by
 have hn:=h.hn
 have n5:=h.n1
 have g1:=(x5 (r:=r) (k:=x.K) (by rw [hn]; exact hK)).1
 have hp:=h.pg _ hK
 have hl:=hp.lg
 have hc:=hp.c0
 have hml:=hp.ml
 have hle:qb2 (pr r x.K).Match x.N≤(pr r x.K).Match.length:=List.countP_le_length
 have loop:=qoz (ρ:=Raft × Bool) (B:=fun i82 s116=>qbl x.N (pr r x.K) i82 s116) (l:=(pr r x.K).Match) (N:=x.N) (by omega) (fun i s=>rfl)
 have e2:l9 .i64 ((2:Int)*(qb2 (pr r x.K).Match x.N:Int))=2*(qb2 (pr r x.K).Match x.N:Int):=wq (by omega) (by omega)
 obtain ⟨b,hb,hb2⟩ : ∃ b,Ev (fun _=>(if ((decide (x.N≤(pr r x.K).Commit))||(decide ((o6 (pr r x.K).Log:Int)<x.N)))=true then (some true) else ((zn (pr r x.K).Log (l9 .i64 (x.N - 1))).bind fun x54=>(some (decide (x54.Term≠(pr r x.K).Term)))))) b∧(b=true↔¬ ((pr r x.K).Commit<x.N∧x.N≤(pr r x.K).Log.length∧(∃ e,(pr r x.K).Log[x.N.toNat - 1]? = some e∧e.Term=(pr r x.K).Term))):=by
  by_cases q:(pr r x.K).Commit<x.N∧x.N≤(pr r x.K).Log.length
  ·obtain ⟨b,e1,e3⟩:=q83 (p:=pr r x.K) (N:=x.N) (by omega) q.2 hl
   refine ⟨b,t3 (by simp; omega) e1,e3.trans (not_congr ⟨fun w=>⟨q.1,q.2,w⟩,fun w=>w.2.2⟩)⟩
  ·exact ⟨true,a0e (by simp; omega) a0b,by simp only [true_iff]; exact fun w=>q ⟨w.1,w.2.1⟩⟩
 unfold wz
 refine ⟨fun c=>?_,fun c=>?_⟩
 ·obtain ⟨c1,c2,c3,c4⟩:=c
  refine t7 g1 (a0a hb (t3 (bF hb2 (fun q=>q ⟨c1,c2,c3⟩)) (a3h loop ?_)))
  unfold qbm
  rw [e2,hn]
  exact t3 (by simp; omega) a0b
 ·by_cases q:((pr r x.K).Commit<x.N∧x.N≤(pr r x.K).Log.length∧(∃ e,(pr r x.K).Log[x.N.toNat - 1]? = some e∧e.Term=(pr r x.K).Term))
  ·refine t7 g1 (a0a hb (t3 (bF hb2 (fun w=>w q)) (a3h loop ?_)))
   unfold qbm
   rw [e2,hn]
   refine a0e ?_ a0b
   have:¬ n<2*qb2 (pr r x.K).Match x.N:=fun w=>c ⟨q.1,q.2.1,q.2.2,w⟩
   simp
   omega
  ·exact t7 g1 (a0a hb (a0e (hb2.2 q) a0b))
theorem q0b {n:Nat}{r:Raft}{x:RaftStep}(h:SG n r)(hK:je n x.K)(hk:x.Kind=7) : (qjm n r x→Ev (fun _=>yb r x) (true,⟨r.Peers.set x.K.toNat (qou (pr r x.K) x.N),r.Mail⟩))∧(¬ qjm n r x→Ev (fun _=>yb r x) (false,r)):=by
 have hn:=h.hn
 have n5:=h.n1
 have g1:=(x5 (r:=r) (k:=x.K) (by rw [hn]; exact hK)).1
 have hp:=h.pg _ hK
 have hl:=hp.lg
 have hc:=hp.c0
 have hc1:=hp.c1
 have hml:=hp.ml
 have hle:qb2 (pr r x.K).Match x.N≤(pr r x.K).Match.length:=List.countP_le_length
 have loop:=qoz (ρ:=Bool × Raft) (B:=fun i301 s334=>qce x (pr r x.K) i301 s334) (l:=(pr r x.K).Match) (N:=x.N) (by omega) (fun i s=>rfl)
 have e2:l9 .i64 ((2:Int)*(qb2 (pr r x.K).Match x.N:Int))=2*(qb2 (pr r x.K).Match x.N:Int):=wq (by omega) (by omega)
 have e1:l9 .i64 ((pr r x.K).Commit+1)=(pr r x.K).Commit+1:=wq (by omega) (by omega)
 obtain ⟨b,hb,hb2⟩ : ∃ b,Ev (fun _=>(if (!(jh x.N (l9 .i64 ((pr r x.K).Commit+1))
  (o6 (pr r x.K).Log:Int)))=true then (some true) else ((zn (pr r x.K).Log (l9 .i64 (x.N - 1))).bind fun x347=>(some (decide
  (x347.Term≠(pr r x.K).Term)))))) b∧(b=true↔¬ ((pr r x.K).Commit<x.N∧x.N≤(pr r x.K).Log.length∧(∃ e,(pr r x.K).Log[x.N.toNat - 1]? = some e∧e.Term=(pr r x.K).Term))):=by
  rw [e1]
  by_cases q:(pr r x.K).Commit<x.N∧x.N≤(pr r x.K).Log.length
  ·obtain ⟨b,e1,e3⟩:=q83 (p:=pr r x.K) (N:=x.N) (by omega) q.2 hl
   refine ⟨b,t3 (by unfold jh; simp; omega) e1,e3.trans (not_congr ⟨fun w=>⟨q.1,q.2,w⟩,fun w=>w.2.2⟩)⟩
  ·exact ⟨true,a0e (by unfold jh; simp; omega) a0b,by simp only [true_iff]; exact fun w=>q ⟨w.1,w.2.1⟩⟩
 have cond:(b||(decide ((l9 .i64 ((2:Int)*(qb2 (pr r x.K).Match x.N:Int)))≤(o6 r.Peers:Int))))=true↔¬ qjm n r x:=by
  rw [e2,hn]
  unfold qjm
  rw [a1z,hb2,decide_eq_true_iff]
  constructor
  ·rintro (q | q) ⟨w1,w2,w3,w4⟩
   ·exact q ⟨w1,w2,w3⟩
   ·omega
  ·intro q
   apply Classical.byContradiction
   intro w
   rw [not_or,Classical.not_not] at w
   exact q ⟨w.1.1,w.1.2.1,w.1.2.2,by omega⟩
 unfold yb
 refine ⟨fun c=>?_,fun c=>?_⟩
 ·refine t7 g1 (t3 (by rw [hk]; rfl) (t3 (by rw [hk]; rfl) (a3h loop ?_)))
  unfold qci
  exact a0a hb (t3 (bF cond (fun w=>w c)) a0b)
 ·refine t7 g1 (t3 (by rw [hk]; rfl) (t3 (by rw [hk]; rfl) (a3h loop ?_)))
  unfold qci
  exact a0a hb (a0e (cond.2 c) a0b)
def qjn (r:Raft)(x:RaftStep) : Prop:=0≤x.N∧x.N≤99∧(pr r x.K).Log.length<30
def qh3 (p:Peer)(x:RaftStep) : Peer:=⟨p.Term,p.Leads,p.Log++[⟨p.Term,x.N⟩],p.Commit,p.Match.set x.K.toNat ((p.Log.length+1:Nat) : Int)⟩
theorem qwm {n:Nat}{r:Raft}{x:RaftStep}(h:SG n r)(hK:je n x.K)(hk:x.Kind=2) : (qjn r x→Ev (fun _=>yb r x) (true,⟨r.Peers.set x.K.toNat (qh3 (pr r x.K) x),r.Mail⟩))∧(¬ qjn r x→Ev (fun _=>yb r x) (false,r)):=by
 have hn:=h.hn
 have g1:=(x5 (r:=r) (k:=x.K) (by rw [hn]; exact hK)).1
 have hp:=h.pg _ hK
 have hl:=hp.lg
 have cond:((!(jh x.N 0 99))||(decide ((o6 (pr r x.K).Log:Int)=30)))=true↔¬ qjn r x:=by
  unfold jh qjn
  simp only [a1z,a1t,a2m,decide_eq_true_eq,decide_eq_false_iff_not]
  omega
 unfold yb
 refine ⟨fun c=>t7 g1 (a0e (by rw [hk]; rfl) (t3 (bF cond (fun w=>w c)) (t7 (qij (by omega)) (t7 (qlo hp.ml hK) (a2p ?_))))),fun c=>t7 g1 (a0e (by rw [hk]; rfl) (a0e (cond.2 c) a0b))⟩
 rw [t4]
 rfl
end Go.Proofs.Ytanblnjomhgphaa.X
