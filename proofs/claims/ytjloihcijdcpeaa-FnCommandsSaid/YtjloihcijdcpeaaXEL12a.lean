/- Controls: whether one is good, whether a command is as said, on both sides. -/
import Derived.Test.YtjloihcijdcpeaaXEL12i
open Bool renaming and_eq_true→o7,false_eq_true→t2,or_eq_false_iff→t6,or_eq_true_iff→a2r,or_eq_true→a0q
open Classical renaming byContradiction→r7
open Go.Proofs.Ytjloihcijdcpeaa.X.Ev renaming bind→g9,iteF→g8,iteT→m9,rfl→l8
open Int renaming le_refl→a2e
open Go.Proofs.Ytjloihcijdcpeaa.X.Is renaming bindv→a2x,ite→a1e
open List renaming getElem?_of_mem→a0i,length_eq_zero_iff→a0o,mem_of_getElem?→i8
set_option linter.unusedVariables false
set_option linter.unusedSimpArgs false
namespace Go.Proofs.Ytjloihcijdcpeaa.X
open Go

theorem qju {B:List Broker}{l:List Int}{n:Nat}(h:qak l n) : yj B l = -1∨0≤yj B l:=by
 rcases qh8 (B:=B) (l:=l) with ⟨h1,_⟩ | ⟨h1,_⟩
 ·exact .inl h1
 ·exact .inr ((uu.1 h).2 _ h1).1
theorem qb4 {B:List Broker}{k:Int}(h0:0≤k)(h1:k<B.length) : jb B k=some (brk B k):=by
 unfold jb
 rw [if_pos h0]
 exact qla h0 h1
theorem qjg {c:Control}{l:List Int}(hl:l.length≤1048576)(hr:∀ k∈l,0≤k∧k<c.Brokers.length) : Ev (fun _=>qbi c l) (yj c.Brokers l):=by
 have key:∀ (q:List Int) (i:Nat),(∀ k∈q,0≤k∧k<c.Brokers.length)→xq (fun i7 x8 (_:Unit)=>wa c i7 x8) q i ()=some (.ret (yj c.Brokers q))∨(xq (fun i7 x8 (_:Unit)=>wa c i7 x8) q i ()=some (.nxt ())∧yj c.Brokers q = -1):=by
  intro q
  induction q with
  | nil=>intro i _; exact .inr ⟨rfl,rfl⟩
  | cons k q ih =>
   intro i h
   have hk:=h k (by simp)
   simp only [xq,wa,qb4 hk.1 hk.2,Option.bind_some,yj]
   cases hf:(brk c.Brokers k).Fenced with
   | true=>simp only [Bool.not_true,t2,if_false,if_true]; exact ih (i+1) (fun z hz=>h z (by simp [hz]))
   | false=>simp only [Bool.not_false,if_true,t2,if_false]; first | exact .inl rfl | exact .inl trivial
 unfold qbi
 have hrl:∀ {o},xq (fun i7 x8 (_:Unit)=>wa c i7 x8) l 0 ()=some o→Ev (fun _=>jj (fun i7 x8 (_:Unit)=>wa c i7 x8) l ()) o:=fun h=>Ev.of (by
  unfold jj
  rw [if_pos (by omega)]
  exact h)
 rcases key l 0 hr with h | ⟨h,h2⟩
 ·exact Ev.jn_ret (hrl h)
 ·rw [h2]; exact Ev.jn (hrl h) l8
theorem qor {c:Control}{l:List Int}(hl:l.length≤1048576)(hr:∀ k∈l,0≤k∧k<c.Brokers.length) : Ev (fun _=>w7 c l) (yj c.Brokers l):=qjg hl hr
theorem qnn {a b:List Int}(ha:a.length≤1048576)(hb:b.length≤1048576) : Is (fun _=>qdo a b) (∀ k∈b,k∈a):=by
 unfold qdo
 refine Is.all (Q:=fun _ x=>x∈a) (by omega) (fun i x hx=>?_) (fun h=>Is.T (fun k hk=>?_)) (fun h h2=>h (fun i x hx=>h2 x (i8 hx)))
 ·unfold qd2
  exact qs2 (qfg (by omega))
 ·obtain ⟨i,hi⟩:=a0i hk
  exact h i k hi
theorem qnl {a b:List Int}(ha:a.length≤1048576)(hb:b.length≤1048576) : Is (fun _=>qbq b a) (∀ k∈b,k∈a):=by
 unfold qbq
 rcases qd1 (B:=fun _ i x _=>qcs a i x) (Q:=fun _ x=>¬ x∈a) (f:=fun i=>(i:Int)) (l:=b) (by omega) (fun i x hx=>by
   unfold qcs qe4
   obtain ⟨c,e,hc⟩:=Contains_int_is (l:=a) (v:=x) (by omega)
   refine ⟨!c,g9 (g9 e l8) ?_,by rw [←hc]; cases c <;> simp⟩
   cases c with
   | true=>exact g8 rfl l8
   | false=>exact m9 rfl l8) with ⟨i,x,h1,h2,h3,h4⟩ | ⟨h1,h2⟩
 ·refine a2x (Ev.jn_ret h4) (Is.of ?_)
  simp only [Bool.not_eq_true',decide_eq_false_iff_not]
  constructor
  ·intro h; omega
  ·intro h; exact absurd (h x (i8 h1)) h2
 ·refine a2x (Ev.jn h2 l8) (Is.T (fun k hk=>?_))
  obtain ⟨i,hi⟩:=a0i hk
  exact r7 (h1 i k hi)
theorem qdy {c:Control}(h:c.nn≤1048576) : c.Brokers.length≤1048576∧c.Parts.length≤1048576∧∀ (i:Nat) p,c.Parts[i]? = some p→p.Homes.length≤1048576∧p.InStep.length≤1048576:=by
 have hh:c.Brokers.length+(nnL Partition.nn c.Parts+0)≤1048576:=h
 have hl:=q8s (f:=Partition.nn) (l:=c.Parts)
 refine ⟨by omega,by omega,fun i p hp=>?_⟩
 have:=qox (f:=Partition.nn) hp
 have h2:p.nn=p.Homes.length+(p.InStep.length+0):=rfl
 omega
theorem ya.nn {c:Control}(h:ya c) : c.nn≤1048576:=by
 have h1:c.nn=c.Brokers.length+(nnL Partition.nn c.Parts+0):=rfl
 have h2:nnL Partition.nn c.Parts=c.Parts.length+qdw Partition.nn c.Parts:=rfl
 have h5:qdw Partition.nn c.Parts≤c.Parts.length*12:=qio (fun x hx=>by
  have hp:=(h.2.2 x hx).1
  have a:=wg hp.h1
  have b:=wg hp.i1
  have:=h.1.1.2
  have h6:x.nn=x.Homes.length+(x.InStep.length+0):=rfl
  omega)
 have h6:c.Parts.length*12≤5*12:=Nat.mul_le_mul_right _ h.1.2.1
 have:=h.1.1.2
 have:=h.1.2.1
 omega

theorem qnp {c:Control}{p:Partition}{G:Nat→Option Bool}(hp:PartM c.Brokers.length p)(hG:Is G (p.Leader∈p.InStep)) :
  ∃ b:Bool,Ev (fun k=>if (decide (p.Leader≠(-1)))=true then ((G k).bind fun v97=>((if (!v97)=true then (some true) else ((jb c.Brokers p.Leader).bind fun x103=>(some x103.Fenced))).bind fun v103=>(some v103))) else (some false)) b∧(p.Leader ≠ -1→(b=true↔¬ qii c.Brokers p))∧(p.Leader = -1→b=false):=by
 by_cases h1:p.Leader = -1
 ·exact ⟨false,g8 (by simp [h1]) l8,fun h=>absurd h1 h,fun _=>rfl⟩
 ·obtain ⟨g,e,hg⟩:=hG
  cases g with
  | false =>
   refine ⟨true,m9 (by simpa using h1) (g9 e (g9 (m9 rfl l8) l8)),fun _=>?_,fun h=>absurd h h1⟩
   simp only [true_iff]
   rintro (⟨a,_⟩ | ⟨_,a,_⟩)
   ·exact h1 a
   ·have:=hg.2 a; cases this
  | true =>
   have hm:=hg.1 rfl
   have hr:=(uu.1 hp.i1).2 _ hm
   refine ⟨(brk c.Brokers p.Leader).Fenced,m9 (by simpa using h1) (g9 e (g9 (g8 rfl (Ev.bindp (qb4 hr.1 hr.2) l8)) l8)),fun _=>?_,fun h=>absurd h h1⟩
   constructor
   ·rintro hb (⟨a,_⟩ | ⟨_,_,a⟩)
    ·exact h1 a
    ·rw [hb] at a; cases a
   ·intro hn
    cases hb:(brk c.Brokers p.Leader).Fenced
    ·exact absurd (.inr ⟨h1,hm,hb⟩) hn
    ·rfl
theorem q9n {c:Control}{p:Partition}(hn:c.Brokers.length≤1048576)(h1:p.Homes.length≤1048576)(h2:p.InStep.length≤1048576)(hne:0≤p.Epoch∧0≤p.Stamp∨True) : Is (fun _=>qdf c p) (qfr c.Brokers p):=by
 unfold qdf
 refine Is.bind (P:=¬ (p.Homes≠[]∧qak p.Homes c.Brokers.length)) (a1e (fun hb=>Is.T ?_) (fun hb=>Is.bind (qgo (by omega)) (fun b hb2=>Is.of ?_))) (fun b hb=>?_)
 ·rintro ⟨a,_⟩; exact a (a0o.1 (by simp at hb; simp [hb]))
 ·have:p.Homes≠[]:=by rintro e; rw [e] at hb; simp at hb
  simp only [this,ne_eq,not_false_eq_true,true_and,← hb2]
  cases b <;> simp
 refine Is.bind (P:=¬ ((p.Homes≠[]∧qak p.Homes c.Brokers.length)∧p.InStep≠[]∧qak p.InStep c.Brokers.length)) (a1e (fun hc=>Is.T ?_) (fun hc=>Is.bind (qgo (by omega)) (fun b2 hb2=>Is.of ?_))) (fun b2 hb2=>?_)
 ·rintro ⟨a,d,_⟩
  rcases a2r.1 hc with hc | hc
  ·exact hb.1 hc a
  ·exact d (a0o.1 (by simp at hc; simp [hc]))
 ·obtain ⟨c1,c2⟩:=t6.1 hc
  have a1:=dn hb c1
  have a2:p.InStep≠[]:=by rintro e; rw [e] at c2; simp at c2
  simp only [a1,a2,ne_eq,not_false_eq_true,true_and,and_self,← hb2]
  cases b2 <;> simp
 refine Is.bind (P:=¬ (((p.Homes≠[]∧qak p.Homes c.Brokers.length)∧p.InStep≠[]∧qak p.InStep c.Brokers.length)∧∀ k∈p.InStep,k∈p.Homes)) (a1e (fun hc=>Is.T (fun hh=>hb2.1 hc hh.1)) (fun hc=>Is.bind (qnn h1 h2) (fun b3 hb3=>Is.of ?_))) (fun b3 hb3=>?_)
 ·have a1:=dn hb2 hc
  simp only [a1,ne_eq,not_false_eq_true,true_and,and_self,← hb3]
  cases b3 <;> simp
 refine a1e (fun hc=>Is.F (fun hh=>hb3.1 hc ⟨⟨⟨hh.1.h0,hh.1.h1⟩,hh.1.i0,hh.1.i1⟩,hh.1.sub⟩)) (fun hc=>?_)
 obtain ⟨⟨⟨a1,a2⟩,a3,a4⟩,a5⟩:=dn hb3 hc
 by_cases hE:0≤p.Epoch∧0≤p.Stamp
 case neg =>
  -- whatever its leader,a number below nothing is refused
  have hM:∀ q:Prop,True:=fun _=>trivial
  have hfin:∀ b94:Bool,Is (fun _=>(if b94=true then (some false) else (some ((zu p.Epoch 0 1000)&&(zu p.Stamp 0 1000))))) (qfr c.Brokers p):=fun b94=>a1e (fun _=>Is.F (fun hh=>hE ⟨hh.1.e0,hh.1.s0⟩)) (fun _=>Is.of (by
   simp only [o7,qnr]
   exact ⟨fun hh=>absurd ⟨hh.1.1,hh.2.1⟩ hE,fun hh=>absurd ⟨hh.1.e0,hh.1.s0⟩ hE⟩))
  have hfr:=qjg (c:=c) (l:=p.InStep) h2 (fun k hk=>(uu.1 a4).2 k hk)
  have hM2:PartM c.Brokers.length ⟨p.Homes,p.InStep,p.Leader,0,0⟩:=⟨a1,a2,a3,a4,a5,a2e _,a2e _⟩
  obtain ⟨b,e,_,_⟩:=qnp (c:=c) (p:=⟨p.Homes,p.InStep,p.Leader,0,0⟩) hM2 (qfg (l:=p.InStep) (v:=p.Leader) (by omega))
  dsimp only at e
  refine a2x (a:=decide (p.Leader = -1)&&decide (0≤yj c.Brokers p.InStep)) ?_ ?_
  ·by_cases hl:p.Leader = -1
   ·exact m9 (by simpa using hl) (g9 hfr (Ev.of (by simp [hl])))
   ·exact g8 (by simpa using hl) (Ev.of (by simp [hl]))
  ·cases decide (p.Leader = -1)&&decide (0≤yj c.Brokers p.InStep) with
   | true=>exact a2x (a:=true) (m9 rfl l8) (hfin true)
   | false=>exact a2x (a:=b) (g8 rfl (g9 e l8)) (hfin b)
 have hM:PartM c.Brokers.length p:=⟨a1,a2,a3,a4,a5,hE.1,hE.2⟩
 have hfr:=qjg (c:=c) (l:=p.InStep) h2 (fun k hk=>(uu.1 a4).2 k hk)
 have hrng:=qju (B:=c.Brokers) a4
 obtain ⟨b,e,q1,q2⟩:=qnp (c:=c) hM (qfg (l:=p.InStep) (v:=p.Leader) (by omega))
 have hfin:∀ b94:Bool,(b94=true↔¬ qii c.Brokers p)→Is (fun _=>(if b94=true then (some false) else (some ((zu p.Epoch 0 1000)&&(zu p.Stamp 0 1000))))) (qfr c.Brokers p):=fun b94 hb94=>a1e (fun hc=>Is.F (fun hh=>hb94.1 hc hh.2.1)) (fun hc=>Is.of (by
  have hg:=dn hb94 hc
  simp only [o7,qnr]
  exact ⟨fun hh=>⟨hM,hg,hh.1.2,hh.2.2⟩,fun hh=>⟨⟨hM.e0,hh.2.2.1⟩,hM.s0,hh.2.2.2⟩⟩))
 refine a2x (a:=decide (p.Leader = -1)&&decide (0≤yj c.Brokers p.InStep)) ?_ ?_
 ·by_cases hl:p.Leader = -1
  ·exact m9 (by simpa using hl) (g9 hfr (Ev.of (by simp [hl])))
  ·exact g8 (by simpa using hl) (Ev.of (by simp [hl]))
 ·by_cases hl:p.Leader = -1
  ·by_cases h0:0≤yj c.Brokers p.InStep
   ·have:(decide (p.Leader = -1)&&decide (0≤yj c.Brokers p.InStep))=true:=by simp [hl,h0]
    rw [this]
    refine a2x (a:=true) (m9 rfl l8) (hfin true ?_)
    simp only [true_iff]
    rintro (⟨_,a⟩ | ⟨a,_⟩)
    ·omega
    ·exact a hl
   ·have:(decide (p.Leader = -1)&&decide (0≤yj c.Brokers p.InStep))=false:=by simp [h0]
    rw [this]
    have hbf:=q2 hl
    subst hbf
    refine a2x (a:=false) (g8 rfl (g9 e l8)) (hfin false ?_)
    simp only [t2,false_iff]
    exact fun hn=>hn (.inl ⟨hl,by omega⟩)
  ·have:(decide (p.Leader = -1)&&decide (0≤yj c.Brokers p.InStep))=false:=by simp [hl]
   rw [this]
   exact a2x (a:=b) (g8 rfl (g9 e l8)) (hfin b (q1 hl))
theorem q85 {c:Control}{p:Partition}{i:Nat}(hn:c.Brokers.length≤1048576)(h1:p.Homes.length≤1048576)(h2:p.InStep.length≤1048576) : ∃ b:Bool,Ev (fun _=>qan c i p) (if b=true then .ret false else .nxt ())∧(b=true↔¬ qfr c.Brokers p):=by
 unfold qan
 refine qnd (P:=¬ (p.Homes≠[]∧qak p.Homes c.Brokers.length)) (a1e (fun hb=>Is.T ?_) (fun hb=>Is.bind (qgh (by omega) (by omega) (by omega)) (fun b hb2=>Is.of ?_))) (fun b hb=>?_)
 ·rintro ⟨a,_⟩; exact a (a0o.1 (by simp at hb; simp [hb]))
 ·have:p.Homes≠[]:=by rintro e; rw [e] at hb; simp at hb
  simp only [this,ne_eq,not_false_eq_true,true_and,← hb2]
  cases b <;> simp
 refine qnd (P:=¬ ((p.Homes≠[]∧qak p.Homes c.Brokers.length)∧p.InStep≠[]∧qak p.InStep c.Brokers.length)) (a1e (fun hc=>Is.T ?_) (fun hc=>Is.bind (qgh (by omega) (by omega) (by omega)) (fun b2 hb2=>Is.of ?_))) (fun b2 hb2=>?_)
 ·rintro ⟨a,d,_⟩
  rcases a2r.1 hc with hc | hc
  ·exact hb.1 hc a
  ·exact d (a0o.1 (by simp at hc; simp [hc]))
 ·obtain ⟨c1,c2⟩:=t6.1 hc
  have a1:=dn hb c1
  have a2:p.InStep≠[]:=by rintro e; rw [e] at c2; simp at c2
  simp only [a1,a2,ne_eq,not_false_eq_true,true_and,and_self,← hb2]
  cases b2 <;> simp
 refine qnd (P:=¬ (((p.Homes≠[]∧qak p.Homes c.Brokers.length)∧p.InStep≠[]∧qak p.InStep c.Brokers.length)∧∀ k∈p.InStep,k∈p.Homes)) (a1e (fun hc=>Is.T (fun hh=>hb2.1 hc hh.1)) (fun hc=>Is.bind (qnl h1 h2) (fun b3 hb3=>Is.of ?_))) (fun b3 hb3=>?_)
 ·have a1:=dn hb2 hc
  simp only [a1,ne_eq,not_false_eq_true,true_and,and_self,← hb3]
  cases b3 <;> simp
 refine zc3 (fun hc=>⟨true,l8,?_⟩) (fun hc=>?_)
 ·simp only [true_iff]
  intro hh
  rcases a2r.1 hc with hc | hc
  ·rcases a2r.1 hc with hc | hc
   ·exact hb3.1 hc ⟨⟨⟨hh.1.h0,hh.1.h1⟩,hh.1.i0,hh.1.i1⟩,hh.1.sub⟩
   ·exact qeb.1 hc ⟨hh.1.e0,hh.2.2.1⟩
  ·exact qeb.1 hc ⟨hh.1.s0,hh.2.2.2⟩
 obtain ⟨hc,c3⟩:=t6.1 hc
 obtain ⟨hc,c2⟩:=t6.1 hc
 obtain ⟨⟨⟨a1,a2⟩,a3,a4⟩,a5⟩:=dn hb3 hc
 have d1:=dn qeb c2
 have d2:=dn qeb c3
 have hM:PartM c.Brokers.length p:=⟨a1,a2,a3,a4,a5,d1.1,d2.1⟩
 have hfr:=qor (c:=c) (l:=p.InStep) h2 (fun k hk=>(uu.1 a4).2 k hk)
 have hrng:=qju (B:=c.Brokers) a4
 obtain ⟨b,e,q1,q2⟩:=qnp (c:=c) hM (Contains_int_is (l:=p.InStep) (v:=p.Leader) (by omega))
 have hpg:∀ b94:Bool,(b94=true↔¬ qii c.Brokers p)→(b94=true↔¬ qfr c.Brokers p):=fun b94 hb94=>hb94.trans (not_congr ⟨fun hg=>⟨hM,hg,d1.2,d2.2⟩,fun hh=>hh.2.1⟩)
 refine ql4 hfr (zcp (P:=qfr c.Brokers p) ?_ Iff.rfl)
 have hfin:∀ b94:Bool,(b94=true↔¬ qii c.Brokers p)→∃ d:Bool,Ev (fun _:Nat=>if b94=true then (some (.ret false) : Option (Oc Unit Bool)) else (some (.nxt ()))) (if d=true then .ret false else .nxt ())∧(d=true↔¬ qfr c.Brokers p):=fun b94 h=>⟨b94,by cases b94 <;> exact l8,hpg b94 h⟩
 by_cases hl:p.Leader = -1
 ·by_cases h0:yj c.Brokers p.InStep = -1
  ·have hbf:=q2 hl
   subst hbf
   refine ql4 (a:=false) (g8 (by simp [h0]) (g9 e l8)) (hfin false ?_)
   simp only [t2,false_iff]
   exact fun hn=>hn (.inl ⟨hl,h0⟩)
  ·refine ql4 (a:=true) (m9 (by simp [hl,h0]) l8) (hfin true ?_)
   simp only [true_iff]
   rintro (⟨_,a⟩ | ⟨a,_⟩)
   ·exact h0 a
   ·exact a hl
 ·exact ql4 (a:=b) (g8 (by simp [hl]) (g9 e l8)) (hfin b (q1 hl))
theorem za9 {c:Control}{i:Nat}{b:Broker} : ∃ d:Bool,Ev (fun _=>um c i b) (if d=true then .ret false else .nxt ())∧(d=true↔¬ qhu c.Next b):=by
 unfold um
 refine qee ?_
 unfold qhu
 by_cases hf:b.Fenced=decide (b.Left=0)
 ·rw [←hf]
  simp [zu]
  omega
 ·have:(!(b.Fenced == decide (b.Left=0)))=true:=by simpa using hf
  simp only [this,Bool.or_true,Bool.true_or,true_iff]
  exact fun hh=>hf hh.2.2.2.2.1
theorem zbb {c:Control}{i:Nat}{b:Broker}(h1:1≤c.Next∧c.Next≤1000) : ∃ d:Bool,Ev (fun _=>qao c i b) (if d=true then .ret false else .nxt ())∧(d=true↔¬ qhu c.Next b):=by
 unfold qao
 refine qee ?_
 rw [kr (n:=c.Next - 1) (by omega) (by omega)]
 unfold qhu
 by_cases hf:b.Fenced=decide (b.Left=0)
 ·rw [←hf]
  simp [z0]
  omega
 ·have:(!(b.Fenced == decide (b.Left=0)))=true:=by simpa using hf
  simp only [this,Bool.or_true,Bool.true_or,true_iff]
  exact fun hh=>hf hh.2.2.2.2.1
theorem qej {α:Type}{l:List α}{Q:α→Prop} : (∀ (i:Nat) x,l[i]? = some x→Q x)↔∀ x∈l,Q x:=⟨fun h x hx=>by obtain ⟨i,hi⟩:=a0i hx; exact h i x hi,fun h i x hx=>h x (i8 hx)⟩
theorem qg2 {c:Control}(h:c.nn≤1048576) : Is (fun _=>yb c) (ya c):=by
 obtain ⟨n1,n2,n3⟩:=qdy h
 unfold yb
 refine Is.all (Q:=fun _ b=>qhu c.Next b) (by omega) (fun i x hx=>za9) (fun hq=>?_) (fun hq hh=>hq (qej.2 hh.2.1))
 unfold qcy
 refine a1e (fun hc=>Is.F ?_) (fun hc=>?_)
 ·rintro ⟨⟨a,b,d⟩,_⟩
  simp only [a0q,qnq,decide_eq_true_eq] at hc
  omega
 ·obtain ⟨hc,c3⟩:=t6.1 hc
  obtain ⟨hc,c2⟩:=t6.1 hc
  have d1:=dn qnq hc
  have d3:=dn qnq c3
  have d2:c.Parts.length≤5:=by simp at c2; omega
  refine Is.all (Q:=fun _ p=>qfr c.Brokers p) (by omega) (fun i x hx=>?_) (fun hq2=>Is.T ⟨⟨⟨by omega,by omega⟩,d2,d3⟩,qej.1 hq,qej.1 hq2⟩) (fun hq2 hh=>hq2 (qej.2 hh.2.2))
  obtain ⟨m1,m2⟩:=n3 i x hx
  unfold qbg
  exact qs2 (q9n (by omega) m1 m2 (.inr trivial))
theorem qh1 {c:Control}(h:c.nn≤1048576) : Is (fun _=>yv c) (ya c):=by
 obtain ⟨n1,n2,n3⟩:=qdy h
 unfold yv
 refine a1e (fun hc=>Is.F ?_) (fun hc=>?_)
 ·rintro ⟨⟨a,b,d⟩,_⟩
  simp only [a0q,qeb,decide_eq_true_eq] at hc
  omega
 ·obtain ⟨hc,c3⟩:=t6.1 hc
  obtain ⟨hc,c2⟩:=t6.1 hc
  have d1:=dn qeb hc
  have d3:=dn qeb c3
  have d2:c.Parts.length≤5:=by simp at c2; omega
  refine Is.all (Q:=fun _ b=>qhu c.Next b) (by omega) (fun i x hx=>zbb d3) (fun hq=>?_) (fun hq hh=>hq (qej.2 hh.2.1))
  unfold qdr
  refine Is.all (Q:=fun _ p=>qfr c.Brokers p) (by omega) (fun i x hx=>?_) (fun hq2=>Is.T ⟨⟨⟨by omega,by omega⟩,d2,d3⟩,qej.1 hq,qej.1 hq2⟩) (fun hq2 hh=>hq2 (qej.2 hh.2.2))
  obtain ⟨m1,m2⟩:=n3 i x hx
  exact q85 (by omega) m1 m2
theorem qjn {c:Control}(h:ya c) : Ev (fun _=>yv c) true:=by
 obtain ⟨b,e1,hb⟩:=qh1 h.nn
 rw [hb.2 h] at e1
 exact e1

theorem q1t {x:Command}{n:Nat}(hn:1≤n∧n≤6)(hl:x.InStep.length≤1048576) : Is (fun _=>qcd x (n:Int)) (ww n x):=by
 unfold qcd
 rw [kr (n:=(n:Int) - 1) (by omega) (by omega)]
 refine Is.bind (P:=¬ (((0≤x.Broker∧x.Broker<n)∧(0≤x.Epoch∧x.Epoch≤1000)∧(0≤x.Part∧x.Part≤1000)∧(0≤x.Stamp∧x.Stamp≤1000))∧qak x.InStep n)) (a1e (fun hb=>Is.T ?_) (fun hb=>Is.bind (qgh (by omega) (by omega) (by omega)) (fun b hb2=>Is.of ?_))) (fun b hb=>?_)
 ·simp only [a0q,qeb] at hb
  rintro ⟨_,_⟩
  omega
 ·obtain ⟨hb,c4⟩:=t6.1 hb
  obtain ⟨hb,c3⟩:=t6.1 hb
  obtain ⟨hb,c2⟩:=t6.1 hb
  have a1:=dn qeb hb
  have a2:=dn qeb c2
  have a3:=dn qeb c3
  have a4:=dn qeb c4
  have a5:0≤x.Broker∧x.Broker<n:=by omega
  simp only [a5,a2,a3,a4,and_self,true_and,← hb2]
  cases b <;> simp
 refine a1e (fun hc=>Is.F (fun hh=>hb.1 hc ⟨⟨hh.1,hh.2.1,hh.2.2.1,hh.2.2.2.1⟩,hh.2.2.2.2.1⟩)) (fun hc=>?_)
 obtain ⟨⟨a1,a2,a3,a4⟩,a5⟩:=dn hb hc
 have hz:x.InStep.length=0↔x.InStep=[]:=a0o
 have hall:ww n x↔((x.Kind=1∧x.Epoch=0∧x.Stamp=0∧x.InStep.length=0∧x.Part=0)∨(x.Kind=2∧x.Stamp=0∧x.InStep.length=0∧x.Part=0)∨(x.Kind=3∧x.Epoch=0∧x.Stamp=0∧x.InStep.length=0∧x.Part=0∧x.Broker=0)∨(x.Kind=4∧x.Epoch=0∧x.Stamp=0∧x.Part=0∧x.Broker=0)∨x.Kind=5∨(x.Kind=6∧x.Epoch=0∧x.Stamp=0∧x.InStep.length=0)):=by
  unfold ww
  simp only [a1,a2,a3,a4,a5,and_self,true_and,hz]
 by_cases k1:x.Kind=1
 ·refine a1e (fun _=>Is.of ?_) (fun h=>by simp [k1] at h)
  rw [hall]; simp only [k1,o7,decide_eq_true_eq]
  refine ⟨fun ⟨⟨⟨a,b⟩,d⟩,e⟩ => .inl ⟨trivial,a,b,by omega,e⟩,fun h=>?_⟩
  rcases h with b | b | b | b | b | b
  ·exact ⟨⟨⟨b.2.1,b.2.2.1⟩,by omega⟩,b.2.2.2.2⟩
  ·omega
  ·omega
  ·omega
  ·omega
  ·omega
 refine a1e (fun h=>by simp [k1] at h) (fun _=>?_)
 by_cases k2:x.Kind=2
 ·refine a1e (fun _=>Is.of ?_) (fun h=>by simp [k2] at h)
  rw [hall]; simp only [k2,o7,decide_eq_true_eq]
  refine ⟨fun ⟨⟨a,b⟩,d⟩ => .inr (.inl ⟨trivial,a,by omega,d⟩),fun h=>?_⟩
  rcases h with b | b | b | b | b | b
  ·omega
  ·exact ⟨⟨b.2.1,by omega⟩,b.2.2.2⟩
  ·omega
  ·omega
  ·omega
  ·omega
 refine a1e (fun h=>by simp [k2] at h) (fun _=>?_)
 by_cases k3:x.Kind=3
 ·refine a1e (fun _=>Is.of ?_) (fun h=>by simp [k3] at h)
  rw [hall]; simp only [k3,o7,decide_eq_true_eq]
  refine ⟨fun ⟨⟨⟨⟨a,b⟩,d⟩,e⟩,f⟩ => .inr (.inr (.inl ⟨trivial,a,b,by omega,e,f⟩)),fun h=>?_⟩
  rcases h with b | b | b | b | b | b
  ·omega
  ·omega
  ·exact ⟨⟨⟨⟨b.2.1,b.2.2.1⟩,by omega⟩,b.2.2.2.2.1⟩,b.2.2.2.2.2⟩
  ·omega
  ·omega
  ·omega
 refine a1e (fun h=>by simp [k3] at h) (fun _=>?_)
 by_cases k4:x.Kind=4
 ·refine a1e (fun _=>Is.of ?_) (fun h=>by simp [k4] at h)
  rw [hall]; simp only [k4,o7,decide_eq_true_eq]
  refine ⟨fun ⟨⟨⟨a,b⟩,d⟩,e⟩ => .inr (.inr (.inr (.inl ⟨trivial,a,b,d,e⟩))),fun h=>?_⟩
  rcases h with b | b | b | b | b | b
  ·omega
  ·omega
  ·omega
  ·exact ⟨⟨⟨b.2.1,b.2.2.1⟩,b.2.2.2.1⟩,b.2.2.2.2⟩
  ·omega
  ·omega
 refine a1e (fun h=>by simp [k4] at h) (fun _=>?_)
 by_cases k5:x.Kind=5
 ·refine a1e (fun _=>Is.T ?_) (fun h=>by simp [k5] at h)
  rw [hall]; simp [k5]
 refine a1e (fun h=>by simp [k5] at h) (fun _=>?_)
 by_cases k6:x.Kind=6
 ·refine a1e (fun _=>Is.of ?_) (fun h=>by simp [k6] at h)
  rw [hall]; simp only [k6,o7,decide_eq_true_eq]
  refine ⟨fun ⟨⟨a,b⟩,d⟩ => .inr (.inr (.inr (.inr (.inr ⟨trivial,a,b,by omega⟩)))),fun h=>?_⟩
  rcases h with b | b | b | b | b | b
  ·omega
  ·omega
  ·omega
  ·omega
  ·omega
  ·exact ⟨⟨b.2.1,b.2.2.1⟩,by omega⟩
 refine a1e (fun h=>by simp [k6] at h) (fun _=>Is.F ?_)
 rw [hall]; simp [k1,k2,k3,k4,k5,k6]
theorem q5o {c:Control}{x:Command}(hn:1≤c.Brokers.length∧c.Brokers.length≤6)(hl:x.InStep.length≤1048576) : Is (fun _=>qb0 c x) (ww c.Brokers.length x):=by
 unfold qb0
 have hz:x.InStep.length=0↔x.InStep=[]:=a0o
 have hnil:x.InStep=[]→qak x.InStep c.Brokers.length:=fun h=>by rw [h]; exact uu.2 ⟨by simp,by simp⟩
 by_cases k1:x.Kind=1
 ·refine a1e (fun _=>Is.of ?_) (fun h=>by simp [k1] at h)
  unfold ww
  simp only [k1,o7,decide_eq_true_eq]
  constructor
  ·rintro ⟨⟨⟨⟨⟨a,b⟩,d⟩,e⟩,f⟩,g⟩
   have:=hz.1 (by omega)
   exact ⟨⟨a,b⟩,by omega,by omega,by omega,hnil this,.inl ⟨trivial,d,f,this,e⟩⟩
  ·rintro ⟨a,_,_,_,_,b | b | b | b | b | b⟩
   ·have:=hz.2 b.2.2.2.1
    exact ⟨⟨⟨⟨⟨a.1,a.2⟩,b.2.1⟩,b.2.2.2.2⟩,b.2.2.1⟩,by omega⟩
   all_goals omega
 refine a1e (fun h=>by simp [k1] at h) (fun _=>?_)
 by_cases k2:x.Kind=2
 ·refine a1e (fun _=>Is.of ?_) (fun h=>by simp [k2] at h)
  unfold ww
  simp only [k2,o7,decide_eq_true_eq,qnr]
  constructor
  ·rintro ⟨⟨⟨⟨⟨a,b⟩,d⟩,e⟩,f⟩,g⟩
   have:=hz.1 (by omega)
   exact ⟨⟨a,b⟩,d,by omega,by omega,hnil this,.inr (.inl ⟨trivial,f,this,e⟩)⟩
  ·rintro ⟨a,d,_,_,_,b | b | b | b | b | b⟩
   ·omega
   ·have:=hz.2 b.2.2.1
    exact ⟨⟨⟨⟨⟨a.1,a.2⟩,d⟩,b.2.2.2⟩,b.2.1⟩,by omega⟩
   all_goals omega
 refine a1e (fun h=>by simp [k2] at h) (fun _=>?_)
 by_cases k3:x.Kind=3
 ·refine a1e (fun _=>Is.of ?_) (fun h=>by simp [k3] at h)
  unfold ww
  simp only [k3,o7,decide_eq_true_eq]
  constructor
  ·rintro ⟨⟨⟨⟨a,b⟩,d⟩,e⟩,g⟩
   have:=hz.1 (by omega)
   exact ⟨by omega,by omega,by omega,by omega,hnil this,.inr (.inr (.inl ⟨trivial,b,e,this,d,a⟩))⟩
  ·rintro ⟨a,d,_,_,_,b | b | b | b | b | b⟩
   ·omega
   ·omega
   ·have:=hz.2 b.2.2.2.1
    exact ⟨⟨⟨⟨b.2.2.2.2.2,b.2.1⟩,b.2.2.2.2.1⟩,b.2.2.1⟩,by omega⟩
   all_goals omega
 refine a1e (fun h=>by simp [k3] at h) (fun _=>?_)
 by_cases k4:x.Kind=4
 ·refine a1e (fun _=>?_) (fun h=>by simp [k4] at h)
  refine (Is.and (P:=x.Broker=0∧x.Epoch=0∧x.Part=0∧x.Stamp=0) (Q:=qak x.InStep c.Brokers.length) (by simp [and_assoc]) (fun _=>qgo (by omega))).iff ?_
  unfold ww
  simp only [k4]
  constructor
  ·rintro ⟨⟨a,b,d,e⟩,f⟩
   exact ⟨by omega,by omega,by omega,by omega,f,.inr (.inr (.inr (.inl ⟨trivial,b,e,d,a⟩)))⟩
  ·rintro ⟨a,d,_,_,f,b | b | b | b | b | b⟩
   ·omega
   ·omega
   ·omega
   ·exact ⟨⟨b.2.2.2.2,b.2.1,b.2.2.2.1,b.2.2.1⟩,f⟩
   all_goals omega
 refine a1e (fun h=>by simp [k4] at h) (fun _=>?_)
 by_cases k5:x.Kind=5
 ·refine a1e (fun _=>?_) (fun h=>by simp [k5] at h)
  refine (Is.and (P:=(0≤x.Broker∧x.Broker<c.Brokers.length)∧(0≤x.Epoch∧x.Epoch≤1000)∧(0≤x.Part∧x.Part≤1000)∧(0≤x.Stamp∧x.Stamp≤1000)) (Q:=qak x.InStep c.Brokers.length) (by simp only [o7,decide_eq_true_eq,qnr,and_assoc]) (fun _=>qgo (by omega))).iff ?_
  unfold ww
  exact ⟨fun ⟨⟨a,b,d,e⟩,f⟩=>⟨a,b,d,e,f,.inr (.inr (.inr (.inr (.inl k5))))⟩,fun ⟨a,b,d,e,f,_⟩=>⟨⟨a,b,d,e⟩,f⟩⟩
 refine a1e (fun h=>by simp [k5] at h) (fun _=>?_)
 by_cases k6:x.Kind=6
 ·refine a1e (fun _=>Is.of ?_) (fun h=>by simp [k6] at h)
  unfold ww
  simp only [k6,o7,decide_eq_true_eq,qnr]
  constructor
  ·rintro ⟨⟨⟨⟨⟨a,b⟩,d⟩,e⟩,f⟩,g⟩
   have:=hz.1 (by omega)
   exact ⟨⟨a,b⟩,by omega,e,by omega,hnil this,.inr (.inr (.inr (.inr (.inr ⟨trivial,d,f,this⟩))))⟩
  ·rintro ⟨a,d,e,_,_,b | b | b | b | b | b⟩
   ·omega
   ·omega
   ·omega
   ·omega
   ·omega
   ·have:=hz.2 b.2.2.2
    exact ⟨⟨⟨⟨⟨a.1,a.2⟩,b.2.1⟩,e⟩,b.2.2.1⟩,by omega⟩
 refine a1e (fun h=>by simp [k6] at h) (fun _=>Is.F ?_)
 rintro ⟨_,_,_,_,_,b | b | b | b | b | b⟩ <;> omega
end Go.Proofs.Ytjloihcijdcpeaa.X
