/- Rafts: which are good; the program's side. -/
import Derived.Test.YtanblnjomhgphaaXBL10q
open Bool renaming and_eq_true→a0s,false_eq_true→a06,false_ne_true→a3n,or_eq_false_iff→a2k,or_eq_true→a03
open Classical renaming byContradiction→a0u,not_not→a2w
open Go.Proofs.Ytanblnjomhgphaa.X.Ev renaming bind→a0e,iteF→a0b,rfl→a0h
open Int renaming le_refl→a1c,le_trans→a28
open List renaming append_nil→a2y,getElem?_of_mem→a1v,length→p9,mem_append→a0w,mem_of_getElem?→a0o,mem_singleton→a1m,pairwise_append→a21
open Nat renaming le_trans→a1q
set_option linter.unusedVariables false
set_option linter.unusedSimpArgs false
namespace Go.Proofs.Ytanblnjomhgphaa.X
open Go

def qll (t:Int)(e:Entry) : Prop:=0≤e.Term∧e.Term≤t∧0≤e.Value∧e.Value≤99
def qh0 (l:List Entry)(t:Int) : Prop:=(∀ e∈l,qll t e)∧qhl l∧l.length≤30
def qr0 (n:Nat)(p:Peer) : Prop:=(0≤p.Term∧p.Term≤100)∧qh0 p.Log p.Term∧(0≤p.Commit∧p.Commit≤p.Log.length)∧p.Match.length=n∧∀ m∈p.Match,(0≤m∧m≤p.Log.length)∧(p.Leads=false→m=0)
def qrm (n:Nat)(m:Mail) : Prop:=je n m.From∧je n m.To∧m.From≠m.To∧(0≤m.Term∧m.Term≤100) ∧
 (m.Reply=true→m.Prev=0∧m.PTerm=0∧m.Entry.length=0∧m.Commit=0∧0≤m.Match∧m.Match≤30) ∧
 (m.Reply=false→m.Match=0∧(0≤m.Prev∧m.Prev≤30)∧(0≤m.Commit∧m.Commit≤30)∧(-1≤m.PTerm∧m.PTerm≤m.Term)∧(m.PTerm = -1↔m.Prev=0)∧m.Entry.length≤1∧∀ e∈m.Entry,m.PTerm≤e.Term∧qll m.Term e)
def qol (r:Raft) : Prop:=(1≤r.Peers.length∧r.Peers.length≤5)∧r.Mail.length≤20∧(∀ p∈r.Peers,qr0 r.Peers.length p)∧∀ m∈r.Mail,qrm r.Peers.length m
theorem q2a {a:List Entry}{x:Entry} : qhl (a++[x])↔qhl a∧∀ e∈a,e.Term≤x.Term:=by
 unfold qhl
 rw [a21]
 constructor
 ·rintro ⟨h1,_,h3⟩; exact ⟨h1,fun e he=>h3 e he x (by simp)⟩
 ·rintro ⟨h1,h2⟩; exact ⟨h1,by simp,fun e he y hy=>by rw [a1m] at hy; rw [hy]; exact h2 e he⟩
structure befL (t:Int) (a:List Entry) (s:Int) : Prop where
 g:∀ e∈a,qll t e
 r:qhl a
 z:0≤s
 le:∀ e∈a,e.Term≤s
 ex:s=0∨∃ e∈a,e.Term=s
theorem befL.nil {t:Int} : befL t [] 0:=⟨by simp,List.Pairwise.nil,a1c _,by simp,.inl rfl⟩
theorem befL.next {t s:Int}{a q:List Entry}{x:Entry}(h:befL t a s) : (s≤x.Term∧x.Term≤t∧0≤x.Value∧x.Value≤99→befL t (a++[x]) x.Term)∧(¬ (s≤x.Term∧x.Term≤t∧0≤x.Value∧x.Value≤99)→∀ l:List Entry,a++x::q=l→¬ ((∀ e∈l,qll t e)∧qhl l)):=by
 refine ⟨fun c=>⟨fun e he=>?_,q2a.2 ⟨h.r,fun e he=>a28 (h.le e he) c.1⟩,a28 h.z c.1,fun e he=>?_,.inr ⟨x,by simp,rfl⟩⟩,?_⟩
 ·rcases a0w.1 he with w | w
  ·exact h.g e w
  ·rw [a1m] at w; rw [w]; exact ⟨a28 h.z c.1,c.2⟩
 ·rcases a0w.1 he with w | w
  ·exact a28 (h.le e w) c.1
  ·rw [a1m] at w; rw [w]; exact a1c _
 ·rintro c l rfl ⟨g,r⟩
  obtain ⟨x0,x1,x2⟩:=g x (by simp)
  refine c ⟨?_,x1,x2⟩
  rcases h.ex with e | ⟨e,e1,e2⟩
  ·rw [e]; exact x0
  ·rw [←e2]
   unfold qhl at r
   exact (a21.1 r).2.2 e e1 x (by simp)
theorem qhh {l:List Entry}{t:Int}(hl:l.length≤1048576) : Is (fun _=>xp l t) (qh0 l t):=by
 unfold xp
 have cond:∀ (x:Entry) (s:Int),((!(zg x.Term s t))||(!(zg x.Value 0 99)))=true↔¬ (s≤x.Term∧x.Term≤t∧0≤x.Value∧x.Value≤99):=fun x s=>by
  rw [a03,qdg,qdg]
  omega
 by_cases g:(∀ e∈l,qll t e)∧qhl l
 ·have:∃ s,Ev (fun _=>jt (fun i3 x4 s53=>y8 t i3 x4 s53) l 0) (.nxt s):=by
   suffices h:∃ s,Ev (fun _=>jt (fun i3 x4 s53=>y8 t i3 x4 s53) l 0) (.nxt s)∧befL t l s from ⟨h.choose,h.choose_spec.1⟩
   have key:∀ (q a:List Entry) (i:Nat) (s:Int),a++q=l→befL t a s→∃ s',Ev (fun _=>xy (fun i3 x4 s53=>y8 t i3 x4 s53) q i s) (.nxt s')∧befL t l s':=by
    intro q
    induction q with
    | nil=>intro a i s h1 h2; rw [a2y] at h1; subst h1; exact ⟨s,a0h,h2⟩
    | cons x q ih =>
     intro a i s h1 h2
     obtain ⟨b1,b2⟩:=h2.next (x:=x) (q:=q)
     have c:s≤x.Term∧x.Term≤t∧0≤x.Value∧x.Value≤99:=a0u fun w=>b2 w l h1 g
     obtain ⟨s',⟨K,e⟩,h3⟩:=ih (a++[x]) (i+1) x.Term (by simpa using h1) (b1 c)
     refine ⟨s',⟨K,fun k hk=>?_⟩,h3⟩
     have:=e k hk
     have hb:y8 t i x s=some (.nxt x.Term):=by
      unfold y8
      exact if_neg (by rw [cond]; exact fun w=>w c)
     simp only [xy,hb]
     exact this
   obtain ⟨s,e,h⟩:=key l [] 0 0 rfl befL.nil
   refine ⟨s,?_,h⟩
   unfold jt
   rw [if_pos (by omega)]
   exact e
  obtain ⟨s,hs⟩:=this
  refine ⟨decide (l.length≤30),Ev.jn hs (Ev.of ?_),?_⟩
  ·unfold qei
   exact congrArg some (decide_eq_decide.2 (by omega))
  ·rw [decide_eq_true_iff]
   exact ⟨fun q=>⟨g.1,g.2,q⟩,fun q=>q.2.2⟩
 ·refine ⟨false,Ev.jn_ret (yo (by omega) (fun i q s=>∃ a,a++q=l∧befL t a s) ⟨[],rfl,befL.nil⟩ (fun i x q s ⟨a,h1,h2⟩=>?_) (fun i s ⟨a,h1,h2⟩=>?_)),by simp only [a06,false_iff]; exact fun w=>g ⟨w.1,w.2.1⟩⟩
  ·obtain ⟨b1,_⟩:=h2.next (x:=x) (q:=q)
   unfold y8
   by_cases c:s≤x.Term∧x.Term≤t∧0≤x.Value∧x.Value≤99
   ·exact .inl ⟨x.Term,a0b (bF (cond x s) (fun w=>w c)) a0h,a++[x],by simpa using h1,b1 c⟩
   ·exact .inr (.inr ⟨false,Ev.iteT ((cond x s).2 c) a0h,rfl⟩)
  ·rw [a2y] at h1
   subst h1
   exact absurd ⟨h2.g,h2.r⟩ g
theorem qz7 {α:Type}{l:List α}{F:α→Option Bool}{Q:α→Prop}{B:Nat→α→Unit→Option (Oc Unit Int)}(hl:l.length≤1048576)(hB:∀ i x u,B i x u=(F x).bind fun v23=>(if v23=true then (some (.ret (i:Int))) else (some (.nxt ()))))(h:∀ x∈l,Is (fun _=>F x) (Q x)) : Is (fun _=>(jn (jt B l ()) (fun _=>(some (-1) : Option Int))).bind fun v1=>(some (decide ((0:Int)≤v1)))) (∃ x∈l,Q x):=by
 rcases qil (B:=fun _ i x u=>B i x u) (Q:=fun _ x=>Q x) (f:=fun i=>(i:Int)) (l:=l) (by omega) (fun i x hx=>by
  obtain ⟨b,e,hb⟩:=h x (a0o hx)
  refine ⟨b,?_,hb⟩
  simp only [hB]
  refine a0e e ?_
  cases b
  ·exact a0b rfl a0h
  ·exact Ev.iteT rfl a0h) with ⟨j,m,g1,g2,g3,g4⟩ | ⟨g1,g2⟩
 ·refine Is.bindv (Ev.jn_ret g4) (Is.of ?_)
  have hj:(0:Int)≤(j:Int):=by omega
  simp only [hj,decide_true,true_iff]
  exact ⟨m,a0o g1,g2⟩
 ·refine Is.bindv (Ev.jn g2 a0h) (Is.of ?_)
  simp only [show decide ((0:Int) ≤ -1)=false from rfl,a06,false_iff]
  rintro ⟨x,hx,hq⟩
  obtain ⟨i,hi⟩:=a1v hx
  exact g1 i x hi hq
theorem qzc {n:Nat}{m:Mail}(h5:n≤5)(hl:m.Entry.length≤1048576) : Is (fun _=>qej m (n:Int)) (qrm n m):=by
 have e1:IntKind.wrap .i64 ((n:Int) - 1)=(n:Int) - 1:=k9 (by omega) (by omega)
 unfold qej
 rw [e1]
 refine Is.ite (fun hc=>Is.F ?_) (fun hc=>?_)
 ·simp only [a03,qdg,decide_eq_true_eq] at hc
  rintro ⟨⟨_,_⟩,⟨_,_⟩,q3,⟨_,_⟩,_⟩
  rcases hc with ((hc | hc) | hc) | hc
  ·omega
  ·omega
  ·exact q3 hc
  ·omega
 ·have hc':¬ ((¬ (0≤m.From∧m.From≤(n:Int) - 1)∨¬ (0≤m.To∧m.To≤(n:Int) - 1))∨m.From=m.To)∧¬ ¬ (0≤m.Term∧m.Term≤100):=by
   rw [a2k,a2k,a2k] at hc
   obtain ⟨⟨⟨a,b⟩,c⟩,d⟩:=hc
   have a':=dn qdg a
   have b':=dn qdg b
   have d':=dn qdg d
   have c':=of_decide_eq_false c
   exact ⟨fun w=>by rcases w with (w | w) | w <;> first | exact w a' | exact w b' | exact c' w,fun w=>w d'⟩
  have base:je n m.From∧je n m.To∧m.From≠m.To∧(0≤m.Term∧m.Term≤100):=by
   unfold je
   omega
  refine Is.ite (fun hr=>Is.of ?_) (fun hr=>?_)
  ·simp only [a0s,decide_eq_true_eq,zgt]
   constructor
   ·rintro ⟨⟨⟨⟨a,b⟩,c⟩,d⟩,e⟩
    exact ⟨base.1,base.2.1,base.2.2.1,base.2.2.2,fun _=>⟨a,b,by omega,d,e⟩,fun w=>by rw [hr] at w; cases w⟩
   ·rintro ⟨_,_,_,_,a,_⟩
    obtain ⟨a,b,c,d,e⟩:=a hr
    exact ⟨⟨⟨⟨a,b⟩,by omega⟩,d⟩,e⟩
  ·have hcc:((((((decide (m.Match≠0)) ||
  (!(zg m.Prev 0 30)))||(!(zg m.Commit 0 30)))||(!(zg m.PTerm (-1) m.Term)))||(!((decide (m.PTerm=(-1))) == (decide (m.Prev=0))))) ||
  (decide ((1:Int)<(p9 m.Entry:Int))))=true↔¬ (m.Match=0∧(0≤m.Prev∧m.Prev≤30)∧(0≤m.Commit∧m.Commit≤30)∧(-1≤m.PTerm∧m.PTerm≤m.Term)∧(m.PTerm = -1↔m.Prev=0)∧m.Entry.length≤1):=by
    have hb:(!((decide (m.PTerm=(-1))) == (decide (m.Prev=0))))=true↔¬ (m.PTerm = -1↔m.Prev=0):=by
     by_cases a:m.PTerm = -1 <;> by_cases b:m.Prev=0 <;> simp [a,b]
    rw [a03,a03,a03,a03,a03,qdg,qdg,qdg,hb,decide_eq_true_iff,decide_eq_true_iff]
    constructor
    ·rintro (((((q | q) | q) | q) | q) | q) ⟨a,b,c,d,e,f⟩
     ·exact q a
     ·exact q b
     ·exact q c
     ·exact q d
     ·exact q e
     ·omega
    ·intro q
     apply a0u
     intro w
     simp only [not_or,a2w] at w
     obtain ⟨⟨⟨⟨⟨a,b⟩,c⟩,d⟩,e⟩,f⟩:=w
     exact q ⟨a,b,c,d,e,by omega⟩
   refine Is.ite (fun hc2=>Is.F ?_) (fun hc2=>?_)
   ·rintro ⟨_,_,_,_,_,w⟩
    obtain ⟨a,b,c,d,e,f,_⟩:=w hr
    exact hcc.1 hc2 ⟨a,b,c,d,e,f⟩
   ·obtain ⟨a,b,c,d,e,f⟩:=dn hcc hc2
    have:=qz7 (l:=m.Entry) (F:=fun a0=>some (u7 a0 m)) (Q:=fun x=>¬ (m.PTerm≤x.Term∧qll m.Term x)) (B:=fun i1 x2 _=>xq (fun a0=>some (u7 a0 m)) i1 x2) hl (fun i x u=>rfl) (fun x hx=>Is.of (by
     unfold u7 mxI qll
     rw [a03,qdg,qdg]
     split <;> omega))
    refine Is.bind this (fun v hv=>Is.of ?_)
    constructor
    ·intro w
     refine ⟨base.1,base.2.1,base.2.2.1,base.2.2.2,fun w=>(by rw [hr] at w; cases w),fun _=>⟨a,b,c,d,e,f,fun y hy=>a0u fun z=>?_⟩⟩
     rw [hv.2 ⟨y,hy,z⟩] at w
     cases w
    ·rintro ⟨_,_,_,_,_,w⟩
     obtain ⟨_,_,_,_,_,_,g⟩:=w hr
     cases v with
     | false=>rfl
     | true =>
      obtain ⟨y,hy,z⟩:=hv.1 rfl
      exact absurd (g y hy) z
theorem qj9 {r:Raft}(h:r.nn≤1048576) : r.Peers.length≤1048576∧r.Mail.length≤1048576∧(∀ p∈r.Peers,p.Log.length≤1048576∧p.Match.length≤1048576)∧∀ m∈r.Mail,m.Entry.length≤1048576:=by
 have a1:nnL Peer.nn r.Peers≤1048576:=by unfold Raft.nn at h; omega
 have a2:nnL Mail.nn r.Mail≤1048576:=by unfold Raft.nn at h; omega
 refine ⟨a1q qqp a1,a1q qqp a2,fun p hp=>?_,fun m hm=>?_⟩
 ·obtain ⟨i,hi⟩:=a1v hp
  have:p.nn≤1048576:=a1q (qq0 (f:=Peer.nn) hi) a1
  unfold Peer.nn at this
  omega
 ·obtain ⟨i,hi⟩:=a1v hm
  have:m.nn≤1048576:=a1q (qq0 (f:=Mail.nn) hi) a2
  unfold Mail.nn at this
  omega
theorem qj3 {r:Raft}(h:r.nn≤1048576) : Is (fun _=>qbj r) (qol r):=by
 obtain ⟨z1,z2,z3,z4⟩:=qj9 h
 unfold qbj
 refine Is.ite (fun hc=>Is.F ?_) (fun hc=>?_)
 ·rw [a03,qdg,decide_eq_true_iff] at hc
  rintro ⟨⟨_,_⟩,_,_⟩
  omega
 ·rw [a2k,decide_eq_false_iff_not] at hc
  have c1:=dn qdg hc.1
  have c2:=hc.2
  refine Is.all (Q:=fun _ p=>qr0 r.Peers.length p) (by omega) (fun i x hx=>?_) (fun hq=>?_) (fun hq hp=>hq (fun i x hx=>hp.2.2.1 x (a0o hx)))
  ·obtain ⟨y1,y2⟩:=z3 x (a0o hx)
   unfold qd8
   obtain ⟨b,hb,hb2⟩ : Is (fun _=>(if (!(zg x.Term 0 100))=true then (some true) else
  ((xp x.Log x.Term).bind fun v59=>(some (!v59))))) (¬ ((0≤x.Term∧x.Term≤100)∧qh0 x.Log x.Term)) :=
    Is.ite (fun w=>Is.T (fun q=>qdg.1 w q.1)) (fun w=>Is.bind (qhh y1) (fun v hv=>Is.of (by
     have:=dn qdg w
     cases v with
     | true=>simp only [Bool.not_true,a06,false_iff,a2w]; exact ⟨this,hv.1 rfl⟩
     | false=>simp only [Bool.not_false,true_iff]; exact fun q=>a3n (hv.2 q.2))))
   have cc:((b||(!(zg x.Commit 0 (p9 x.Log:Int))))||(decide ((p9 x.Match:Int)≠(p9 r.Peers:Int))))=true↔¬ (((0≤x.Term∧x.Term≤100)∧qh0 x.Log x.Term)∧(0≤x.Commit∧x.Commit≤(x.Log.length:Int))∧x.Match.length=r.Peers.length):=by
    rw [a03,a03,qdg,hb2,decide_eq_true_iff]
    constructor
    ·rintro ((q | q) | q) ⟨a,b,c⟩
     ·exact q a
     ·exact q b
     ·omega
    ·intro q
     apply a0u
     intro w
     simp only [not_or,a2w] at w
     exact q ⟨w.1.1,w.1.2,by omega⟩
   by_cases c:((0≤x.Term∧x.Term≤100)∧qh0 x.Log x.Term)∧(0≤x.Commit∧x.Commit≤(x.Log.length:Int))∧x.Match.length=r.Peers.length
   ·have cb:∀ m:Int,((!(zg m 0 (p9 x.Log:Int)))||((!x.Leads)&&(decide (m≠0))))=true↔¬ ((0≤m∧m≤(x.Log.length:Int))∧(x.Leads=false→m=0)):=fun m=>by
     rw [a03,qdg,a0s,Bool.not_eq_true',decide_eq_true_iff]
     constructor
     ·rintro (q | ⟨q,w⟩) ⟨a,b⟩
      ·exact q a
      ·exact w (b q)
     ·intro q
      apply a0u
      intro w
      rw [not_or,a2w] at w
      exact q ⟨w.1,fun z=>a0u fun u=>w.2 ⟨z,u⟩⟩
    rcases qil (ρ:=Oc Unit Bool) (B:=fun _ i107 x108 _=>qck x i107 x108) (Q:=fun _ m=>¬ ((0≤m∧m≤(x.Log.length:Int))∧(x.Leads=false→m=0))) (f:=fun _ => .ret false) (l:=x.Match) (by omega) (fun j m hm=>by
     unfold qck
     exact qkx (cb m)) with ⟨j,m,g1,g2,g3,g4⟩ | ⟨g1,g2⟩
    ·refine ⟨true,a0e hb (a0b (bF cc (fun w=>w c)) (Ev.jn_ret g4)),?_⟩
     simp only [true_iff]
     rintro ⟨_,_,_,_,w⟩
     exact g2 (w m (a0o g1))
    ·refine ⟨false,a0e hb (a0b (bF cc (fun w=>w c)) (Ev.jn g2 a0h)),?_⟩
     simp only [a06,false_iff,a2w]
     refine ⟨c.1.1,c.1.2,c.2.1,c.2.2,fun m hm=>?_⟩
     obtain ⟨j,hj⟩:=a1v hm
     exact a2w.1 (g1 j m hj)
   ·refine ⟨true,a0e hb (Ev.iteT (cc.2 c) a0h),?_⟩
    simp only [true_iff]
    rintro ⟨a,b,d,e,_⟩
    exact c ⟨⟨a,b⟩,d,e⟩
  ·unfold qf8
   have:=qz7 (l:=r.Mail) (F:=fun a0=>u6 a0 (r.Peers.length:Int)) (Q:=fun x=>¬ qrm r.Peers.length x) (B:=fun i1 x2 _=>xz (fun a0=>u6 a0 (r.Peers.length:Int)) i1 x2) z2 (fun i x u=>rfl) (fun x hx=>by
    unfold u6
    refine Is.bind (qzc (by omega) (z4 x hx)) (fun v hv=>Is.of ?_)
    cases v with
    | true=>simp only [Bool.not_true,a06,false_iff,a2w]; exact hv.1 rfl
    | false=>simp only [Bool.not_false,true_iff]; exact fun q=>a3n (hv.2 q))
   refine Is.bind this (fun v hv=>Is.of ?_)
   have hpp:∀ p∈r.Peers,qr0 r.Peers.length p:=fun p hp=>by
    obtain ⟨i,hi⟩:=a1v hp
    exact hq i p hi
   constructor
   ·intro w
    refine ⟨by omega,by omega,hpp,fun m hm=>a0u fun z=>?_⟩
    rw [hv.2 ⟨m,hm,z⟩] at w
    cases w
   ·rintro ⟨_,_,_,w⟩
    cases v with
    | false=>rfl
    | true =>
     obtain ⟨y,hy,z⟩:=hv.1 rfl
     exact absurd (w y hy) z
theorem RA.log {n:Nat}{r:Raft}{G:Gh}(h:RA n r G){k:Int}(hk:je n k) : qh0 (pr r k).Log (pr r k).Term:=by
 have C:=h.ri.core
 refine ⟨fun e he=>?_,C.ris k hk,(h.sg.pg k hk).lg⟩
 obtain ⟨i,hi⟩:=a1v he
 obtain ⟨a,b,_⟩:=C.lm k hk i e hi
 exact ⟨C.e0 _ a,b,(h.sg.pg k hk).vs e he⟩
theorem qwo {n:Nat}{r:Raft}(hn:r.Peers.length=n){p:Peer}(hp:p∈r.Peers) : ∃ k,je n k∧p=pr r k:=by
 obtain ⟨i,hi⟩:=a1v hp
 have hlt:=(List.getElem?_eq_some_iff.1 hi).1
 have hr:je n (i:Int):=⟨by omega,by omega⟩
 refine ⟨(i:Int),hr,?_⟩
 have g:=(wv (r:=r) (k:=(i:Int)) (by rw [hn]; exact hr)).2.1
 rw [Int.toNat_natCast,hi] at g
 exact Option.some.inj g
theorem RA.good {n:Nat}{r:Raft}{G:Gh}(h:RA n r G) : qol r:=by
 have S:=h.sg
 refine ⟨by rw [S.hn]; exact S.n1,S.ml,fun p hp=>?_,fun m hm=>?_⟩
 ·rw [S.hn]
  obtain ⟨k,hk,rfl⟩:=qwo S.hn hp
  have q:=S.pg k hk
  exact ⟨⟨q.t0,q.t1⟩,h.log hk,⟨q.c0,q.c1⟩,q.ml,fun m hm=>⟨q.m0 m hm,fun w=>q.mz w m hm⟩⟩
 ·rw [S.hn]
  have q:=S.mg m hm
  refine ⟨q.f,q.t,q.ne,q.t0,fun w=>?_,fun w=>?_⟩
  ·obtain ⟨a,b,c,d⟩:=q.re w
   exact ⟨a,b,by rw [c]; rfl,d,q.mm⟩
  ·obtain ⟨a,b,c⟩:=q.rq w
   refine ⟨a,q.p,q.c,?_,?_,q.e,fun e he=>?_⟩
   ·by_cases z:m.Prev=0
    ·have:=b z; have:=q.t0; omega
    ·have:=c z; omega
   ·constructor
    ·intro z
     apply a0u
     intro u
     have:=c u
     omega
    ·exact b
   ·obtain ⟨v1,v2,v3,v4⟩:=q.vs e he
    exact ⟨v4,v2,v3,v1⟩
end Go.Proofs.Ytanblnjomhgphaa.X
