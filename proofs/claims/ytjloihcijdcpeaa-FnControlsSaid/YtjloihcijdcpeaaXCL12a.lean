/- Controls: whether one is good, whether a command is as said, on both sides. -/
import Derived.Test.YtjloihcijdcpeaaXCL12i
set_option linter.unusedVariables false
set_option linter.unusedSimpArgs false
namespace Go.Proofs.Ytjloihcijdcpeaa.X
open Go

theorem qjb {B:List Broker}{l:List Int}{n:Nat}(h:uc l n) : kt B l = -1∨0≤kt B l:=by
 rcases qfv (B:=B) (l:=l) with ⟨h1,_⟩ | ⟨h1,_⟩
 ·exact .inl h1
 ·exact .inr ((y6.1 h).2 _ h1).1
theorem qlr {B:List Broker}{l:List Int}{n:Nat}(h:uc l n)(h1:kt B l = -1) : ∀ k∈l,(brk B k).Fenced=true:=by
 intro k hk
 have hr:=((y6.1 h).2 k hk)
 rcases qfv (B:=B) (l:=l) with ⟨_,h2⟩ | ⟨h2,_⟩
 ·rcases h2 k hk with h3 | h3
  ·exact h3
  ·omega
 ·have:=((y6.1 h).2 _ h2).1
  omega
theorem qbf {B:List Broker}{k:Int}(h0:0≤k)(h1:k<B.length) : z9 B k=some (brk B k):=by
 unfold z9
 rw [if_pos h0]
 exact qiy h0 h1
theorem qir {c:Control}{l:List Int}(hl:l.length≤1048576)(hr:∀ k∈l,0≤k∧k<c.Brokers.length) : Ev (fun _=>qas c l) (kt c.Brokers l):=by
 have key:∀ (q:List Int) (i:Nat),(∀ k∈q,0≤k∧k<c.Brokers.length)→ws (fun i7 x8 (_:Unit)=>yn c i7 x8) q i ()=some (.ret (kt c.Brokers q))∨(ws (fun i7 x8 (_:Unit)=>yn c i7 x8) q i ()=some (.nxt ())∧kt c.Brokers q = -1):=by
  intro q
  induction q with
  | nil=>intro i _; exact .inr ⟨rfl,rfl⟩
  | cons k q ih =>
   intro i h
   have hk:=h k (by simp)
   simp only [ws,yn,qbf hk.1 hk.2,Option.bind_some,kt]
   cases hf:(brk c.Brokers k).Fenced with
   | true=>simp only [Bool.not_true,Bool.false_eq_true,if_false,if_true]; exact ih (i+1) (fun z hz=>h z (by simp [hz]))
   | false=>simp only [Bool.not_false,if_true,Bool.false_eq_true,if_false]; first | exact .inl rfl | exact .inl trivial
 unfold qas
 have hrl:∀ {o},ws (fun i7 x8 (_:Unit)=>yn c i7 x8) l 0 ()=some o→Ev (fun _=>jh (fun i7 x8 (_:Unit)=>yn c i7 x8) l ()) o:=fun h=>Ev.of (by
  unfold jh
  rw [if_pos (by omega)]
  exact h)
 rcases key l 0 hr with h | ⟨h,h2⟩
 ·exact Ev.jn_ret (hrl h)
 ·rw [h2]; exact Ev.jn (hrl h) Ev.rfl
theorem qni {c:Control}{l:List Int}(hl:l.length≤1048576)(hr:∀ k∈l,0≤k∧k<c.Brokers.length) : Ev (fun _=>y9 c l) (kt c.Brokers l):=qir hl hr
theorem qmp {a b:List Int}(ha:a.length≤1048576)(hb:b.length≤1048576) : Is (fun _=>qc3 a b) (∀ k∈b,k∈a):=by
 unfold qc3
 refine Is.all (Q:=fun _ x=>x∈a) (by omega) (fun i x hx=>?_) (fun h=>Is.T (fun k hk=>?_)) (fun h h2=>h (fun i x hx=>h2 x (List.mem_of_getElem? hx)))
 ·unfold qdm
  exact quj (qer (by omega))
 ·obtain ⟨i,hi⟩:=List.getElem?_of_mem hk
  exact h i k hi
theorem qlp {a b:List Int}(ha:a.length≤1048576)(hb:b.length≤1048576) : Is (fun _=>qa9 b a) (∀ k∈b,k∈a):=by
 unfold qa9
 rcases qdg (B:=fun _ i x _=>qb7 a i x) (Q:=fun _ x=>¬ x∈a) (f:=fun i=>(i:Int)) (l:=b) (by omega) (fun i x hx=>by
   unfold qb7 qd6
   obtain ⟨c,e,hc⟩:=Contains_int_is (l:=a) (v:=x) (by omega)
   refine ⟨!c,Ev.bind (Ev.bind e Ev.rfl) ?_,by rw [←hc]; cases c <;> simp⟩
   cases c with
   | true=>exact Ev.iteF rfl Ev.rfl
   | false=>exact Ev.iteT rfl Ev.rfl) with ⟨i,x,h1,h2,h3,h4⟩ | ⟨h1,h2⟩
 ·refine Is.bindv (Ev.jn_ret h4) (Is.of ?_)
  simp only [Bool.not_eq_true',decide_eq_false_iff_not]
  constructor
  ·intro h; omega
  ·intro h; exact absurd (h x (List.mem_of_getElem? h1)) h2
 ·refine Is.bindv (Ev.jn h2 Ev.rfl) (Is.T (fun k hk=>?_))
  obtain ⟨i,hi⟩:=List.getElem?_of_mem hk
  exact Classical.byContradiction (h1 i k hi)
theorem qgn {c:Control}(h:c.nn≤1048576) : c.Brokers.length≤1048576∧c.Parts.length≤1048576∧∀ (i:Nat) p,c.Parts[i]? = some p→p.Homes.length≤1048576∧p.InStep.length≤1048576:=by
 have hh:c.Brokers.length+(nnL Partition.nn c.Parts+0)≤1048576:=h
 have hl:=q5w (f:=Partition.nn) (l:=c.Parts)
 refine ⟨by omega,by omega,fun i p hp=>?_⟩
 have:=qnu (f:=Partition.nn) hp
 have h2:p.nn=p.Homes.length+(p.InStep.length+0):=rfl
 omega
theorem yq.nn {c:Control}(h:yq c) : c.nn≤1048576:=by
 have h1:c.nn=c.Brokers.length+(nnL Partition.nn c.Parts+0):=rfl
 have h2:nnL Partition.nn c.Parts=c.Parts.length+qd1 Partition.nn c.Parts:=rfl
 have h5:qd1 Partition.nn c.Parts≤c.Parts.length*12:=qjm (fun x hx=>by
  have hp:=(h.2.2 x hx).1
  have a:=yo hp.h1
  have b:=yo hp.i1
  have:=h.1.1.2
  have h6:x.nn=x.Homes.length+(x.InStep.length+0):=rfl
  omega)
 have h6:c.Parts.length*12≤5*12:=Nat.mul_le_mul_right _ h.1.2.1
 have:=h.1.1.2
 have:=h.1.2.1
 omega

theorem qme {c:Control}{p:Partition}{G:Nat→Option Bool}(hp:PartM c.Brokers.length p)(hG:Is G (p.Leader∈p.InStep)) :
  ∃ b:Bool,Ev (fun k=>if (decide (p.Leader≠(-1)))=true then ((G k).bind fun v97=>((if (!v97)=true then (some true) else ((z9 c.Brokers p.Leader).bind fun x103=>(some x103.Fenced))).bind fun v103=>(some v103))) else (some false)) b∧(p.Leader ≠ -1→(b=true↔¬ qhu c.Brokers p))∧(p.Leader = -1→b=false):=by
 by_cases h1:p.Leader = -1
 ·exact ⟨false,Ev.iteF (by simp [h1]) Ev.rfl,fun h=>absurd h1 h,fun _=>rfl⟩
 ·obtain ⟨g,e,hg⟩:=hG
  cases g with
  | false =>
   refine ⟨true,Ev.iteT (by simpa using h1) (Ev.bind e (Ev.bind (Ev.iteT rfl Ev.rfl) Ev.rfl)),fun _=>?_,fun h=>absurd h h1⟩
   simp only [true_iff]
   rintro (⟨a,_⟩ | ⟨_,a,_⟩)
   ·exact h1 a
   ·have:=hg.2 a; cases this
  | true =>
   have hm:=hg.1 rfl
   have hr:=(y6.1 hp.i1).2 _ hm
   refine ⟨(brk c.Brokers p.Leader).Fenced,Ev.iteT (by simpa using h1) (Ev.bind e (Ev.bind (Ev.iteF rfl (Ev.bindp (qbf hr.1 hr.2) Ev.rfl)) Ev.rfl)),fun _=>?_,fun h=>absurd h h1⟩
   constructor
   ·rintro hb (⟨a,_⟩ | ⟨_,_,a⟩)
    ·exact h1 a
    ·rw [hb] at a; cases a
   ·intro hn
    cases hb:(brk c.Brokers p.Leader).Fenced
    ·exact absurd (.inr ⟨h1,hm,hb⟩) hn
    ·rfl
theorem q7t {c:Control}{p:Partition}(hn:c.Brokers.length≤1048576)(h1:p.Homes.length≤1048576)(h2:p.InStep.length≤1048576)(hne:0≤p.Epoch∧0≤p.Stamp∨True) : Is (fun _=>qcn c p) (qe1 c.Brokers p):=by
 unfold qcn
 refine Is.bind (P:=¬ (p.Homes≠[]∧uc p.Homes c.Brokers.length)) (Is.ite (fun hb=>Is.T ?_) (fun hb=>Is.bind (qfy (by omega)) (fun b hb2=>Is.of ?_))) (fun b hb=>?_)
 ·rintro ⟨a,_⟩; exact a (List.length_eq_zero_iff.1 (by simp at hb; simp [hb]))
 ·have:p.Homes≠[]:=by rintro e; rw [e] at hb; simp at hb
  simp only [this,ne_eq,not_false_eq_true,true_and,← hb2]
  cases b <;> simp
 refine Is.bind (P:=¬ ((p.Homes≠[]∧uc p.Homes c.Brokers.length)∧p.InStep≠[]∧uc p.InStep c.Brokers.length)) (Is.ite (fun hc=>Is.T ?_) (fun hc=>Is.bind (qfy (by omega)) (fun b2 hb2=>Is.of ?_))) (fun b2 hb2=>?_)
 ·rintro ⟨a,d,_⟩
  rcases Bool.or_eq_true_iff.1 hc with hc | hc
  ·exact hb.1 hc a
  ·exact d (List.length_eq_zero_iff.1 (by simp at hc; simp [hc]))
 ·obtain ⟨c1,c2⟩:=Bool.or_eq_false_iff.1 hc
  have a1:=dn hb c1
  have a2:p.InStep≠[]:=by rintro e; rw [e] at c2; simp at c2
  simp only [a1,a2,ne_eq,not_false_eq_true,true_and,and_self,← hb2]
  cases b2 <;> simp
 refine Is.bind (P:=¬ (((p.Homes≠[]∧uc p.Homes c.Brokers.length)∧p.InStep≠[]∧uc p.InStep c.Brokers.length)∧∀ k∈p.InStep,k∈p.Homes)) (Is.ite (fun hc=>Is.T (fun hh=>hb2.1 hc hh.1)) (fun hc=>Is.bind (qmp h1 h2) (fun b3 hb3=>Is.of ?_))) (fun b3 hb3=>?_)
 ·have a1:=dn hb2 hc
  simp only [a1,ne_eq,not_false_eq_true,true_and,and_self,← hb3]
  cases b3 <;> simp
 refine Is.ite (fun hc=>Is.F (fun hh=>hb3.1 hc ⟨⟨⟨hh.1.h0,hh.1.h1⟩,hh.1.i0,hh.1.i1⟩,hh.1.sub⟩)) (fun hc=>?_)
 obtain ⟨⟨⟨a1,a2⟩,a3,a4⟩,a5⟩:=dn hb3 hc
 by_cases hE:0≤p.Epoch∧0≤p.Stamp
 case neg =>
  -- whatever its leader,a number below nothing is refused
  have hM:∀ q:Prop,True:=fun _=>trivial
  have hfin:∀ b94:Bool,Is (fun _=>(if b94=true then (some false) else (some ((zn p.Epoch 0 1000)&&(zn p.Stamp 0 1000))))) (qe1 c.Brokers p):=fun b94=>Is.ite (fun _=>Is.F (fun hh=>hE ⟨hh.1.e0,hh.1.s0⟩)) (fun _=>Is.of (by
   simp only [Bool.and_eq_true,qmq]
   exact ⟨fun hh=>absurd ⟨hh.1.1,hh.2.1⟩ hE,fun hh=>absurd ⟨hh.1.e0,hh.1.s0⟩ hE⟩))
  have hfr:=qir (c:=c) (l:=p.InStep) h2 (fun k hk=>(y6.1 a4).2 k hk)
  have hM2:PartM c.Brokers.length ⟨p.Homes,p.InStep,p.Leader,0,0⟩:=⟨a1,a2,a3,a4,a5,Int.le_refl _,Int.le_refl _⟩
  obtain ⟨b,e,_,_⟩:=qme (c:=c) (p:=⟨p.Homes,p.InStep,p.Leader,0,0⟩) hM2 (qer (l:=p.InStep) (v:=p.Leader) (by omega))
  dsimp only at e
  refine Is.bindv (a:=decide (p.Leader = -1)&&decide (0≤kt c.Brokers p.InStep)) ?_ ?_
  ·by_cases hl:p.Leader = -1
   ·exact Ev.iteT (by simpa using hl) (Ev.bind hfr (Ev.of (by simp [hl])))
   ·exact Ev.iteF (by simpa using hl) (Ev.of (by simp [hl]))
  ·cases decide (p.Leader = -1)&&decide (0≤kt c.Brokers p.InStep) with
   | true=>exact Is.bindv (a:=true) (Ev.iteT rfl Ev.rfl) (hfin true)
   | false=>exact Is.bindv (a:=b) (Ev.iteF rfl (Ev.bind e Ev.rfl)) (hfin b)
 have hM:PartM c.Brokers.length p:=⟨a1,a2,a3,a4,a5,hE.1,hE.2⟩
 have hfr:=qir (c:=c) (l:=p.InStep) h2 (fun k hk=>(y6.1 a4).2 k hk)
 have hrng:=qjb (B:=c.Brokers) a4
 obtain ⟨b,e,q1,q2⟩:=qme (c:=c) hM (qer (l:=p.InStep) (v:=p.Leader) (by omega))
 have hfin:∀ b94:Bool,(b94=true↔¬ qhu c.Brokers p)→Is (fun _=>(if b94=true then (some false) else (some ((zn p.Epoch 0 1000)&&(zn p.Stamp 0 1000))))) (qe1 c.Brokers p):=fun b94 hb94=>Is.ite (fun hc=>Is.F (fun hh=>hb94.1 hc hh.2.1)) (fun hc=>Is.of (by
  have hg:=dn hb94 hc
  simp only [Bool.and_eq_true,qmq]
  exact ⟨fun hh=>⟨hM,hg,hh.1.2,hh.2.2⟩,fun hh=>⟨⟨hM.e0,hh.2.2.1⟩,hM.s0,hh.2.2.2⟩⟩))
 refine Is.bindv (a:=decide (p.Leader = -1)&&decide (0≤kt c.Brokers p.InStep)) ?_ ?_
 ·by_cases hl:p.Leader = -1
  ·exact Ev.iteT (by simpa using hl) (Ev.bind hfr (Ev.of (by simp [hl])))
  ·exact Ev.iteF (by simpa using hl) (Ev.of (by simp [hl]))
 ·by_cases hl:p.Leader = -1
  ·by_cases h0:0≤kt c.Brokers p.InStep
   ·have:(decide (p.Leader = -1)&&decide (0≤kt c.Brokers p.InStep))=true:=by simp [hl,h0]
    rw [this]
    refine Is.bindv (a:=true) (Ev.iteT rfl Ev.rfl) (hfin true ?_)
    simp only [true_iff]
    rintro (⟨_,a⟩ | ⟨a,_⟩)
    ·omega
    ·exact a hl
   ·have:(decide (p.Leader = -1)&&decide (0≤kt c.Brokers p.InStep))=false:=by simp [h0]
    rw [this]
    have hbf:=q2 hl
    subst hbf
    refine Is.bindv (a:=false) (Ev.iteF rfl (Ev.bind e Ev.rfl)) (hfin false ?_)
    simp only [Bool.false_eq_true,false_iff]
    exact fun hn=>hn (.inl ⟨hl,by omega⟩)
  ·have:(decide (p.Leader = -1)&&decide (0≤kt c.Brokers p.InStep))=false:=by simp [hl]
   rw [this]
   exact Is.bindv (a:=b) (Ev.iteF rfl (Ev.bind e Ev.rfl)) (hfin b (q1 hl))
theorem q7k {c:Control}{p:Partition}{i:Nat}(hn:c.Brokers.length≤1048576)(h1:p.Homes.length≤1048576)(h2:p.InStep.length≤1048576) : ∃ b:Bool,Ev (fun _=>ux c i p) (if b=true then .ret false else .nxt ())∧(b=true↔¬ qe1 c.Brokers p):=by
 unfold ux
 refine qlm (P:=¬ (p.Homes≠[]∧uc p.Homes c.Brokers.length)) (Is.ite (fun hb=>Is.T ?_) (fun hb=>Is.bind (qfq (by omega) (by omega) (by omega)) (fun b hb2=>Is.of ?_))) (fun b hb=>?_)
 ·rintro ⟨a,_⟩; exact a (List.length_eq_zero_iff.1 (by simp at hb; simp [hb]))
 ·have:p.Homes≠[]:=by rintro e; rw [e] at hb; simp at hb
  simp only [this,ne_eq,not_false_eq_true,true_and,← hb2]
  cases b <;> simp
 refine qlm (P:=¬ ((p.Homes≠[]∧uc p.Homes c.Brokers.length)∧p.InStep≠[]∧uc p.InStep c.Brokers.length)) (Is.ite (fun hc=>Is.T ?_) (fun hc=>Is.bind (qfq (by omega) (by omega) (by omega)) (fun b2 hb2=>Is.of ?_))) (fun b2 hb2=>?_)
 ·rintro ⟨a,d,_⟩
  rcases Bool.or_eq_true_iff.1 hc with hc | hc
  ·exact hb.1 hc a
  ·exact d (List.length_eq_zero_iff.1 (by simp at hc; simp [hc]))
 ·obtain ⟨c1,c2⟩:=Bool.or_eq_false_iff.1 hc
  have a1:=dn hb c1
  have a2:p.InStep≠[]:=by rintro e; rw [e] at c2; simp at c2
  simp only [a1,a2,ne_eq,not_false_eq_true,true_and,and_self,← hb2]
  cases b2 <;> simp
 refine qlm (P:=¬ (((p.Homes≠[]∧uc p.Homes c.Brokers.length)∧p.InStep≠[]∧uc p.InStep c.Brokers.length)∧∀ k∈p.InStep,k∈p.Homes)) (Is.ite (fun hc=>Is.T (fun hh=>hb2.1 hc hh.1)) (fun hc=>Is.bind (qlp h1 h2) (fun b3 hb3=>Is.of ?_))) (fun b3 hb3=>?_)
 ·have a1:=dn hb2 hc
  simp only [a1,ne_eq,not_false_eq_true,true_and,and_self,← hb3]
  cases b3 <;> simp
 refine zam (fun hc=>⟨true,Ev.rfl,?_⟩) (fun hc=>?_)
 ·simp only [true_iff]
  intro hh
  rcases Bool.or_eq_true_iff.1 hc with hc | hc
  ·rcases Bool.or_eq_true_iff.1 hc with hc | hc
   ·exact hb3.1 hc ⟨⟨⟨hh.1.h0,hh.1.h1⟩,hh.1.i0,hh.1.i1⟩,hh.1.sub⟩
   ·exact qee.1 hc ⟨hh.1.e0,hh.2.2.1⟩
  ·exact qee.1 hc ⟨hh.1.s0,hh.2.2.2⟩
 obtain ⟨hc,c3⟩:=Bool.or_eq_false_iff.1 hc
 obtain ⟨hc,c2⟩:=Bool.or_eq_false_iff.1 hc
 obtain ⟨⟨⟨a1,a2⟩,a3,a4⟩,a5⟩:=dn hb3 hc
 have d1:=dn qee c2
 have d2:=dn qee c3
 have hM:PartM c.Brokers.length p:=⟨a1,a2,a3,a4,a5,d1.1,d2.1⟩
 have hfr:=qni (c:=c) (l:=p.InStep) h2 (fun k hk=>(y6.1 a4).2 k hk)
 have hrng:=qjb (B:=c.Brokers) a4
 obtain ⟨b,e,q1,q2⟩:=qme (c:=c) hM (Contains_int_is (l:=p.InStep) (v:=p.Leader) (by omega))
 have hpg:∀ b94:Bool,(b94=true↔¬ qhu c.Brokers p)→(b94=true↔¬ qe1 c.Brokers p):=fun b94 hb94=>hb94.trans (not_congr ⟨fun hg=>⟨hM,hg,d1.2,d2.2⟩,fun hh=>hh.2.1⟩)
 refine qld hfr (zae (P:=qe1 c.Brokers p) ?_ Iff.rfl)
 have hfin:∀ b94:Bool,(b94=true↔¬ qhu c.Brokers p)→∃ d:Bool,Ev (fun _:Nat=>if b94=true then (some (.ret false) : Option (Oc Unit Bool)) else (some (.nxt ()))) (if d=true then .ret false else .nxt ())∧(d=true↔¬ qe1 c.Brokers p):=fun b94 h=>⟨b94,by cases b94 <;> exact Ev.rfl,hpg b94 h⟩
 by_cases hl:p.Leader = -1
 ·by_cases h0:kt c.Brokers p.InStep = -1
  ·have hbf:=q2 hl
   subst hbf
   refine qld (a:=false) (Ev.iteF (by simp [h0]) (Ev.bind e Ev.rfl)) (hfin false ?_)
   simp only [Bool.false_eq_true,false_iff]
   exact fun hn=>hn (.inl ⟨hl,h0⟩)
  ·refine qld (a:=true) (Ev.iteT (by simp [hl,h0]) Ev.rfl) (hfin true ?_)
   simp only [true_iff]
   rintro (⟨_,a⟩ | ⟨a,_⟩)
   ·exact h0 a
   ·exact a hl
 ·exact qld (a:=b) (Ev.iteF (by simp [hl]) (Ev.bind e Ev.rfl)) (hfin b (q1 hl))
theorem q8k {c:Control}{i:Nat}{b:Broker} : ∃ d:Bool,Ev (fun _=>xv c i b) (if d=true then .ret false else .nxt ())∧(d=true↔¬ qhh c.Next b):=by
 unfold xv
 refine qdr ?_
 unfold qhh
 by_cases hf:b.Fenced=decide (b.Left=0)
 ·rw [←hf]
  simp [zn]
  omega
 ·have:(!(b.Fenced == decide (b.Left=0)))=true:=by simpa using hf
  simp only [this,Bool.or_true,Bool.true_or,true_iff]
  exact fun hh=>hf hh.2.2.2.2.1
theorem q79 {c:Control}{i:Nat}{b:Broker}(h1:1≤c.Next∧c.Next≤1000) : ∃ d:Bool,Ev (fun _=>uw c i b) (if d=true then .ret false else .nxt ())∧(d=true↔¬ qhh c.Next b):=by
 unfold uw
 refine qdr ?_
 rw [kh (n:=c.Next - 1) (by omega) (by omega)]
 unfold qhh
 by_cases hf:b.Fenced=decide (b.Left=0)
 ·rw [←hf]
  simp [zp]
  omega
 ·have:(!(b.Fenced == decide (b.Left=0)))=true:=by simpa using hf
  simp only [this,Bool.or_true,Bool.true_or,true_iff]
  exact fun hh=>hf hh.2.2.2.2.1
theorem qdu {α:Type}{l:List α}{Q:α→Prop} : (∀ (i:Nat) x,l[i]? = some x→Q x)↔∀ x∈l,Q x:=⟨fun h x hx=>by obtain ⟨i,hi⟩:=List.getElem?_of_mem hx; exact h i x hi,fun h i x hx=>h x (List.mem_of_getElem? hx)⟩
theorem qly {c:Control}(h:c.nn≤1048576) : Is (fun _=>xw c) (yq c):=by
 obtain ⟨n1,n2,n3⟩:=qgn h
 unfold xw
 refine Is.all (Q:=fun _ b=>qhh c.Next b) (by omega) (fun i x hx=>q8k) (fun hq=>?_) (fun hq hh=>hq (qdu.2 hh.2.1))
 unfold qca
 refine Is.ite (fun hc=>Is.F ?_) (fun hc=>?_)
 ·rintro ⟨⟨a,b,d⟩,_⟩
  simp only [Bool.or_eq_true,qlt,decide_eq_true_eq] at hc
  omega
 ·obtain ⟨hc,c3⟩:=Bool.or_eq_false_iff.1 hc
  obtain ⟨hc,c2⟩:=Bool.or_eq_false_iff.1 hc
  have d1:=dn qlt hc
  have d3:=dn qlt c3
  have d2:c.Parts.length≤5:=by simp at c2; omega
  refine Is.all (Q:=fun _ p=>qe1 c.Brokers p) (by omega) (fun i x hx=>?_) (fun hq2=>Is.T ⟨⟨⟨by omega,by omega⟩,d2,d3⟩,qdu.1 hq,qdu.1 hq2⟩) (fun hq2 hh=>hq2 (qdu.2 hh.2.2))
  obtain ⟨m1,m2⟩:=n3 i x hx
  unfold qao
  exact quj (q7t (by omega) m1 m2 (.inr trivial))
theorem q6q {c:Control}(h:c.nn≤1048576) : Is (fun _=>yz c) (yq c):=by
 obtain ⟨n1,n2,n3⟩:=qgn h
 unfold yz
 refine Is.ite (fun hc=>Is.F ?_) (fun hc=>?_)
 ·rintro ⟨⟨a,b,d⟩,_⟩
  simp only [Bool.or_eq_true,qee,decide_eq_true_eq] at hc
  omega
 ·obtain ⟨hc,c3⟩:=Bool.or_eq_false_iff.1 hc
  obtain ⟨hc,c2⟩:=Bool.or_eq_false_iff.1 hc
  have d1:=dn qee hc
  have d3:=dn qee c3
  have d2:c.Parts.length≤5:=by simp at c2; omega
  refine Is.all (Q:=fun _ b=>qhh c.Next b) (by omega) (fun i x hx=>q79 d3) (fun hq=>?_) (fun hq hh=>hq (qdu.2 hh.2.1))
  unfold qda
  refine Is.all (Q:=fun _ p=>qe1 c.Brokers p) (by omega) (fun i x hx=>?_) (fun hq2=>Is.T ⟨⟨⟨by omega,by omega⟩,d2,d3⟩,qdu.1 hq,qdu.1 hq2⟩) (fun hq2 hh=>hq2 (qdu.2 hh.2.2))
  obtain ⟨m1,m2⟩:=n3 i x hx
  exact q7k (by omega) m1 m2
theorem qis {c:Control}(h:yq c) : Ev (fun _=>yz c) true:=by
 obtain ⟨b,e1,hb⟩:=q6q h.nn
 rw [hb.2 h] at e1
 exact e1

theorem q8d {x:Command}{n:Nat}(hn:1≤n∧n≤6)(hl:x.InStep.length≤1048576) : Is (fun _=>qbr x (n:Int)) (uv n x):=by
 unfold qbr
 rw [kh (n:=(n:Int) - 1) (by omega) (by omega)]
 refine Is.bind (P:=¬ (((0≤x.Broker∧x.Broker<n)∧(0≤x.Epoch∧x.Epoch≤1000)∧(0≤x.Part∧x.Part≤1000)∧(0≤x.Stamp∧x.Stamp≤1000))∧uc x.InStep n)) (Is.ite (fun hb=>Is.T ?_) (fun hb=>Is.bind (qfq (by omega) (by omega) (by omega)) (fun b hb2=>Is.of ?_))) (fun b hb=>?_)
 ·simp only [Bool.or_eq_true,qee] at hb
  rintro ⟨_,_⟩
  omega
 ·obtain ⟨hb,c4⟩:=Bool.or_eq_false_iff.1 hb
  obtain ⟨hb,c3⟩:=Bool.or_eq_false_iff.1 hb
  obtain ⟨hb,c2⟩:=Bool.or_eq_false_iff.1 hb
  have a1:=dn qee hb
  have a2:=dn qee c2
  have a3:=dn qee c3
  have a4:=dn qee c4
  have a5:0≤x.Broker∧x.Broker<n:=by omega
  simp only [a5,a2,a3,a4,and_self,true_and,← hb2]
  cases b <;> simp
 refine Is.ite (fun hc=>Is.F (fun hh=>hb.1 hc ⟨⟨hh.1,hh.2.1,hh.2.2.1,hh.2.2.2.1⟩,hh.2.2.2.2.1⟩)) (fun hc=>?_)
 obtain ⟨⟨a1,a2,a3,a4⟩,a5⟩:=dn hb hc
 have hz:x.InStep.length=0↔x.InStep=[]:=List.length_eq_zero_iff
 have hall:uv n x↔((x.Kind=1∧x.Epoch=0∧x.Stamp=0∧x.InStep.length=0∧x.Part=0)∨(x.Kind=2∧x.Stamp=0∧x.InStep.length=0∧x.Part=0)∨(x.Kind=3∧x.Epoch=0∧x.Stamp=0∧x.InStep.length=0∧x.Part=0∧x.Broker=0)∨(x.Kind=4∧x.Epoch=0∧x.Stamp=0∧x.Part=0∧x.Broker=0)∨x.Kind=5∨(x.Kind=6∧x.Epoch=0∧x.Stamp=0∧x.InStep.length=0)):=by
  unfold uv
  simp only [a1,a2,a3,a4,a5,and_self,true_and,hz]
 by_cases k1:x.Kind=1
 ·refine Is.ite (fun _=>Is.of ?_) (fun h=>by simp [k1] at h)
  rw [hall]; simp only [k1,Bool.and_eq_true,decide_eq_true_eq]
  refine ⟨fun ⟨⟨⟨a,b⟩,d⟩,e⟩ => .inl ⟨trivial,a,b,by omega,e⟩,fun h=>?_⟩
  rcases h with b | b | b | b | b | b
  ·exact ⟨⟨⟨b.2.1,b.2.2.1⟩,by omega⟩,b.2.2.2.2⟩
  ·omega
  ·omega
  ·omega
  ·omega
  ·omega
 refine Is.ite (fun h=>by simp [k1] at h) (fun _=>?_)
 by_cases k2:x.Kind=2
 ·refine Is.ite (fun _=>Is.of ?_) (fun h=>by simp [k2] at h)
  rw [hall]; simp only [k2,Bool.and_eq_true,decide_eq_true_eq]
  refine ⟨fun ⟨⟨a,b⟩,d⟩ => .inr (.inl ⟨trivial,a,by omega,d⟩),fun h=>?_⟩
  rcases h with b | b | b | b | b | b
  ·omega
  ·exact ⟨⟨b.2.1,by omega⟩,b.2.2.2⟩
  ·omega
  ·omega
  ·omega
  ·omega
 refine Is.ite (fun h=>by simp [k2] at h) (fun _=>?_)
 by_cases k3:x.Kind=3
 ·refine Is.ite (fun _=>Is.of ?_) (fun h=>by simp [k3] at h)
  rw [hall]; simp only [k3,Bool.and_eq_true,decide_eq_true_eq]
  refine ⟨fun ⟨⟨⟨⟨a,b⟩,d⟩,e⟩,f⟩ => .inr (.inr (.inl ⟨trivial,a,b,by omega,e,f⟩)),fun h=>?_⟩
  rcases h with b | b | b | b | b | b
  ·omega
  ·omega
  ·exact ⟨⟨⟨⟨b.2.1,b.2.2.1⟩,by omega⟩,b.2.2.2.2.1⟩,b.2.2.2.2.2⟩
  ·omega
  ·omega
  ·omega
 refine Is.ite (fun h=>by simp [k3] at h) (fun _=>?_)
 by_cases k4:x.Kind=4
 ·refine Is.ite (fun _=>Is.of ?_) (fun h=>by simp [k4] at h)
  rw [hall]; simp only [k4,Bool.and_eq_true,decide_eq_true_eq]
  refine ⟨fun ⟨⟨⟨a,b⟩,d⟩,e⟩ => .inr (.inr (.inr (.inl ⟨trivial,a,b,d,e⟩))),fun h=>?_⟩
  rcases h with b | b | b | b | b | b
  ·omega
  ·omega
  ·omega
  ·exact ⟨⟨⟨b.2.1,b.2.2.1⟩,b.2.2.2.1⟩,b.2.2.2.2⟩
  ·omega
  ·omega
 refine Is.ite (fun h=>by simp [k4] at h) (fun _=>?_)
 by_cases k5:x.Kind=5
 ·refine Is.ite (fun _=>Is.T ?_) (fun h=>by simp [k5] at h)
  rw [hall]; simp [k5]
 refine Is.ite (fun h=>by simp [k5] at h) (fun _=>?_)
 by_cases k6:x.Kind=6
 ·refine Is.ite (fun _=>Is.of ?_) (fun h=>by simp [k6] at h)
  rw [hall]; simp only [k6,Bool.and_eq_true,decide_eq_true_eq]
  refine ⟨fun ⟨⟨a,b⟩,d⟩ => .inr (.inr (.inr (.inr (.inr ⟨trivial,a,b,by omega⟩)))),fun h=>?_⟩
  rcases h with b | b | b | b | b | b
  ·omega
  ·omega
  ·omega
  ·omega
  ·omega
  ·exact ⟨⟨b.2.1,b.2.2.1⟩,by omega⟩
 refine Is.ite (fun h=>by simp [k6] at h) (fun _=>Is.F ?_)
 rw [hall]; simp [k1,k2,k3,k4,k5,k6]
theorem q3h {c:Control}{x:Command}(hn:1≤c.Brokers.length∧c.Brokers.length≤6)(hl:x.InStep.length≤1048576) : Is (fun _=>qbc c x) (uv c.Brokers.length x):=by
 unfold qbc
 have hz:x.InStep.length=0↔x.InStep=[]:=List.length_eq_zero_iff
 have hnil:x.InStep=[]→uc x.InStep c.Brokers.length:=fun h=>by rw [h]; exact y6.2 ⟨by simp,by simp⟩
 by_cases k1:x.Kind=1
 ·refine Is.ite (fun _=>Is.of ?_) (fun h=>by simp [k1] at h)
  unfold uv
  simp only [k1,Bool.and_eq_true,decide_eq_true_eq]
  constructor
  ·rintro ⟨⟨⟨⟨⟨a,b⟩,d⟩,e⟩,f⟩,g⟩
   have:=hz.1 (by omega)
   exact ⟨⟨a,b⟩,by omega,by omega,by omega,hnil this,.inl ⟨trivial,d,f,this,e⟩⟩
  ·rintro ⟨a,_,_,_,_,b | b | b | b | b | b⟩
   ·have:=hz.2 b.2.2.2.1
    exact ⟨⟨⟨⟨⟨a.1,a.2⟩,b.2.1⟩,b.2.2.2.2⟩,b.2.2.1⟩,by omega⟩
   all_goals omega
 refine Is.ite (fun h=>by simp [k1] at h) (fun _=>?_)
 by_cases k2:x.Kind=2
 ·refine Is.ite (fun _=>Is.of ?_) (fun h=>by simp [k2] at h)
  unfold uv
  simp only [k2,Bool.and_eq_true,decide_eq_true_eq,qmq]
  constructor
  ·rintro ⟨⟨⟨⟨⟨a,b⟩,d⟩,e⟩,f⟩,g⟩
   have:=hz.1 (by omega)
   exact ⟨⟨a,b⟩,d,by omega,by omega,hnil this,.inr (.inl ⟨trivial,f,this,e⟩)⟩
  ·rintro ⟨a,d,_,_,_,b | b | b | b | b | b⟩
   ·omega
   ·have:=hz.2 b.2.2.1
    exact ⟨⟨⟨⟨⟨a.1,a.2⟩,d⟩,b.2.2.2⟩,b.2.1⟩,by omega⟩
   all_goals omega
 refine Is.ite (fun h=>by simp [k2] at h) (fun _=>?_)
 by_cases k3:x.Kind=3
 ·refine Is.ite (fun _=>Is.of ?_) (fun h=>by simp [k3] at h)
  unfold uv
  simp only [k3,Bool.and_eq_true,decide_eq_true_eq]
  constructor
  ·rintro ⟨⟨⟨⟨a,b⟩,d⟩,e⟩,g⟩
   have:=hz.1 (by omega)
   exact ⟨by omega,by omega,by omega,by omega,hnil this,.inr (.inr (.inl ⟨trivial,b,e,this,d,a⟩))⟩
  ·rintro ⟨a,d,_,_,_,b | b | b | b | b | b⟩
   ·omega
   ·omega
   ·have:=hz.2 b.2.2.2.1
    exact ⟨⟨⟨⟨b.2.2.2.2.2,b.2.1⟩,b.2.2.2.2.1⟩,b.2.2.1⟩,by omega⟩
   all_goals omega
 refine Is.ite (fun h=>by simp [k3] at h) (fun _=>?_)
 by_cases k4:x.Kind=4
 ·refine Is.ite (fun _=>?_) (fun h=>by simp [k4] at h)
  refine (Is.and (P:=x.Broker=0∧x.Epoch=0∧x.Part=0∧x.Stamp=0) (Q:=uc x.InStep c.Brokers.length) (by simp [and_assoc]) (fun _=>qfy (by omega))).iff ?_
  unfold uv
  simp only [k4]
  constructor
  ·rintro ⟨⟨a,b,d,e⟩,f⟩
   exact ⟨by omega,by omega,by omega,by omega,f,.inr (.inr (.inr (.inl ⟨trivial,b,e,d,a⟩)))⟩
  ·rintro ⟨a,d,_,_,f,b | b | b | b | b | b⟩
   ·omega
   ·omega
   ·omega
   ·exact ⟨⟨b.2.2.2.2,b.2.1,b.2.2.2.1,b.2.2.1⟩,f⟩
   all_goals omega
 refine Is.ite (fun h=>by simp [k4] at h) (fun _=>?_)
 by_cases k5:x.Kind=5
 ·refine Is.ite (fun _=>?_) (fun h=>by simp [k5] at h)
  refine (Is.and (P:=(0≤x.Broker∧x.Broker<c.Brokers.length)∧(0≤x.Epoch∧x.Epoch≤1000)∧(0≤x.Part∧x.Part≤1000)∧(0≤x.Stamp∧x.Stamp≤1000)) (Q:=uc x.InStep c.Brokers.length) (by simp only [Bool.and_eq_true,decide_eq_true_eq,qmq,and_assoc]) (fun _=>qfy (by omega))).iff ?_
  unfold uv
  exact ⟨fun ⟨⟨a,b,d,e⟩,f⟩=>⟨a,b,d,e,f,.inr (.inr (.inr (.inr (.inl k5))))⟩,fun ⟨a,b,d,e,f,_⟩=>⟨⟨a,b,d,e⟩,f⟩⟩
 refine Is.ite (fun h=>by simp [k5] at h) (fun _=>?_)
 by_cases k6:x.Kind=6
 ·refine Is.ite (fun _=>Is.of ?_) (fun h=>by simp [k6] at h)
  unfold uv
  simp only [k6,Bool.and_eq_true,decide_eq_true_eq,qmq]
  constructor
  ·rintro ⟨⟨⟨⟨⟨a,b⟩,d⟩,e⟩,f⟩,g⟩
   have:=hz.1 (by omega)
   exact ⟨⟨a,b⟩,by omega,e,by omega,hnil this,.inr (.inr (.inr (.inr (.inr ⟨trivial,d,f,this⟩))))⟩
  ·rintro ⟨a,d,e,_,_,b | b | b | b | b | b⟩
   ·omega
   ·omega
   ·omega
   ·omega
   ·omega
   ·have:=hz.2 b.2.2.2
    exact ⟨⟨⟨⟨⟨a.1,a.2⟩,b.2.1⟩,e⟩,b.2.2.1⟩,by omega⟩
 refine Is.ite (fun h=>by simp [k6] at h) (fun _=>Is.F ?_)
 rintro ⟨_,_,_,_,_,b | b | b | b | b | b⟩ <;> omega
end Go.Proofs.Ytjloihcijdcpeaa.X
