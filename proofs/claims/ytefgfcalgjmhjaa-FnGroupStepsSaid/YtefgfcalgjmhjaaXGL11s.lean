/- A step of a group of replicas: what it does, on both sides. -/
import Derived.Test.YtefgfcalgjmhjaaXGL11p
import Derived.Test.YtefgfcalgjmhjaaXGLAbs
set_option linter.unusedVariables false
set_option linter.unusedSimpArgs false
namespace Go.Proofs.Ytefgfcalgjmhjaa.X
open Go

def uh (g:Group)(k:Int) : List Row:=match g.Replicas[k.toNat]? with
 | some x=>x.Log
 | none=>[]
def jj (g:Group)(k:Int) : Replica:=(g.Replicas[k.toNat]?).getD ⟨[],0,0⟩
def qa5 (g:Group)(m:Int) : Int:=g.InStep.foldl (fun m k=>mnI m (jj g k).Known) m
def qgv (l:List Int)(v:Int) : List Int:=l.filter (fun z=>decide (z<v))++v::l.filter (fun z=>decide (v≤z))
def yc (g:Group)(k:Int)(l:List Row)(e:Int) : List Replica:=g.Replicas.set k.toNat ⟨l,e,l.length⟩
def kt (g:Group)(x:IsrStep) : Option Group :=
 if x.Kind≠2∧x.Kind≠3∧x.N≠0 then none
 else if ¬ (0≤x.K∧x.K<g.Replicas.length) then none
 else if x.Kind=1 then (if x.K∈g.InStep∧g.Epoch≠100 then some ⟨g.Epoch+1,x.K,g.InStep,g.High,yc g x.K (uh g x.K) (g.Epoch+1)⟩ else none)
 else if x.Kind=2 then (if x.K=0∧(0≤x.N∧x.N≤99)∧(lead g).length≠30 then some ⟨g.Epoch,g.Leader,g.InStep,g.High,yc g g.Leader (lead g++[⟨g.Epoch,x.N⟩]) g.Epoch⟩ else none)
 else if x.Kind=3 then (if x.K≠g.Leader∧(0≤x.N∧x.N≤30) then some ⟨g.Epoch,g.Leader,g.InStep,g.High,yc g x.K ((lead g).take (pre (uh g x.K) (lead g)+x.N.toNat)) g.Epoch⟩ else none)
 else if x.Kind=4 then (if x.K∈g.InStep∧x.K≠g.Leader then some ⟨g.Epoch,g.Leader,g.InStep.filter (fun z=>decide (z≠x.K)),g.High,g.Replicas⟩ else none)
 else if x.Kind=5 then (if ¬ x.K∈g.InStep∧(jj g x.K).Epoch=g.Epoch∧g.High≤(jj g x.K).Known then some ⟨g.Epoch,g.Leader,qgv g.InStep x.K,g.High,g.Replicas⟩ else none)
 else if x.Kind=6 then (if x.K=0∧(∀ k∈g.InStep,(jj g k).Epoch=g.Epoch)∧g.High<qa5 g 30 then some ⟨g.Epoch,g.Leader,g.InStep,qa5 g 30,g.Replicas⟩ else none)
 else none

theorem flt {A B:List Int}{v:Int}(hA:∀ z∈A,z<v)(hB:∀ z∈B,v≤z) : (A++B).filter (fun z=>decide (z<v))=A∧(A++B).filter (fun z=>decide (v≤z))=B:=by
 constructor
 ·rw [List.filter_append,List.filter_eq_self.2 (fun z hz=>by simpa using hA z hz),List.filter_eq_nil_iff.2 (fun z hz=>by have:=hB z hz; simp; omega),List.append_nil]
 ·rw [List.filter_append,List.filter_eq_nil_iff.2 (fun z hz=>by have:=hA z hz; simp; omega),List.filter_eq_self.2 (fun z hz=>by simpa using hB z hz),List.nil_append]
theorem j7 {g:Group}{k:Int}(h0:0≤k)(h1:k<g.Replicas.length) : zy g.Replicas k=some (jj g k)∧g.Replicas[k.toNat]? = some (jj g k)∧uh g k=(jj g k).Log:=by
 have h2:g.Replicas[k.toNat]? = some (g.Replicas[k.toNat]'(by omega)):=List.getElem?_eq_getElem (by omega)
 have h3:jj g k=g.Replicas[k.toNat]'(by omega):=by unfold jj; rw [h2]; rfl
 rw [h3]
 refine ⟨by unfold zy; rw [if_pos h0]; exact h2,h2,?_⟩
 unfold uh
 rw [h2]
theorem uy (g:Group) : lead g=uh g g.Leader:=rfl

structure Fit (g:Group) : Prop where
 n1:2≤g.Replicas.length
 n2:g.Replicas.length≤4
 e1:0≤g.Epoch
 e2:g.Epoch≤100
 mem:qc6 g.InStep g.Replicas.length
 ld:g.Leader∈g.InStep
 log:∀ (i:Nat) (x:Replica),g.Replicas[i]? = some x→x.Log.length≤30∧0≤x.Known∧x.Known≤x.Log.length
 high:0≤g.High
theorem yb.fit {g:Group}(h:yb g) : Fit g:=⟨h.1.1.1,h.1.1.2,h.1.2.1,h.1.2.2,h.2.1.1,h.2.1.2.1,fun i x hx=>⟨(h.2.2 i x hx).1.2,(h.2.2 i x hx).2.2.1⟩,h.2.1.2.2⟩
theorem Fit.rng {g:Group}(h:Fit g){k:Int}(hk:k∈g.InStep) : 0≤k∧k<g.Replicas.length:=by
 obtain ⟨i,hi⟩:=List.getElem?_of_mem hk
 have:=h.mem i k hi
 exact ⟨this.1,this.2.1⟩
theorem Fit.lead {g:Group}(h:Fit g) : (lead g).length≤30:=by
 have h1:=h.rng h.ld
 obtain ⟨_,h2,h3⟩:=j7 h1.1 h1.2
 rw [uy,h3]
 exact (h.log _ _ h2).1
theorem Fit.logl {g:Group}(h:Fit g){k:Int}(h0:0≤k)(h1:k<g.Replicas.length) : (uh g k).length≤30:=by
 obtain ⟨_,h2,h3⟩:=j7 h0 h1
 rw [h3]
 exact (h.log _ _ h2).1

theorem qk9 {g:Group}{k:Int}{x:Replica}(h0:0≤k)(hx:g.Replicas[k.toNat]? = some x) : Ev (fun _=>kr g k) ⟨g.Epoch,g.Leader,g.InStep,g.High,g.Replicas.set k.toNat ⟨x.Log,g.Epoch,x.Log.length⟩⟩:=by
 unfold kr
 exact Ev.bindp (by unfold zy; rw [if_pos h0]; exact hx) Ev.rfl
theorem qsp {L:List Row}{p:Nat}{n:Int}(hp:p≤L.length)(h0:0≤n)(h1:n≤30)(hL:L.length≤30) : sl (L.drop p) 0 (mnI n (List.length (L.drop p) : Int))=some ((L.drop p).take n.toNat):=by
 have e:mnI n (List.length (L.drop p) : Int)=((min n.toNat (L.drop p).length:Nat) : Int):=by unfold mnI; split <;> omega
 rw [e,qbn (Nat.min_le_right _ _)]
 congr 1
 rcases Nat.le_total n.toNat (L.drop p).length with h | h
 ·rw [Nat.min_eq_left h]
 ·rw [Nat.min_eq_right h,List.take_length,List.take_of_length_le h]
theorem q38 {a L:List Row}{n:Nat} : a.take (pre a L)++(L.drop (pre a L)).take n=L.take (pre a L+n):=by rw [qne,List.take_add]
theorem q33 {g:Group}{k n:Int}(hg:Fit g)(h0:0≤k)(h1:k<g.Replicas.length)(hne:k≠g.Leader)(n0:0≤n)(n1:n≤30) :
  Ev (fun kk=>yp kk g k n) ⟨g.Epoch,g.Leader,g.InStep,g.High,yc g k ((lead g).take (pre (uh g k) (lead g)+n.toNat)) g.Epoch⟩:=by
 obtain ⟨a1,a2,a3⟩:=j7 h0 h1
 have hr:=hg.rng hg.ld
 obtain ⟨b1,b2,b3⟩:=j7 hr.1 hr.2
 have hl:=hg.lead
 have hll:=hg.logl h0 h1
 rw [a3] at hll ⊢
 rw [uy,b3] at hl ⊢
 have hp:=qcn (a:=(jj g k).Log) (b:=(jj g g.Leader).Log)
 unfold yp
 refine Ev.bind (qgd (by omega) (by omega) a1 rfl b1) (Ev.bindp b1 (Ev.bindp (qk0 hp.2) (Ev.bindp a1 ?_)))
 simp only [qh5 (Ne.symm hne)]
 refine Ev.bindp (qbn hp.1) (Ev.bindp (qan (by rw [List.length_take]; omega)) (Ev.bindp (qsp hp.2 n0 n1 hl) (Ev.bindp (a:=(jj g g.Leader).Log.take (pre (jj g k).Log (jj g g.Leader).Log+n.toNat)) ?_ ?_)))
 ·unfold ki
  rw [if_pos (by simp only [List.length_take,List.length_drop]; omega),q38]
 ·have hi:k.toNat<g.Replicas.length:=by omega
  refine Ev.bind (qk9 h0 (List.getElem?_set_self hi)) ?_
  dsimp only
  rw [List.set_set]
  exact Ev.rfl
theorem q4d {g:Group}{k n:Int}(hg:Fit g)(h0:0≤k)(h1:k<g.Replicas.length)(hne:k≠g.Leader)(n0:0≤n)(n1:n≤30) :
  Ev (fun kk=>wu kk g k n) ⟨g.Epoch,g.Leader,g.InStep,g.High,yc g k ((lead g).take (pre (uh g k) (lead g)+n.toNat)) g.Epoch⟩:=by
 obtain ⟨a1,a2,a3⟩:=j7 h0 h1
 have hr:=hg.rng hg.ld
 obtain ⟨b1,b2,b3⟩:=j7 hr.1 hr.2
 have hl:=hg.lead
 have hll:=hg.logl h0 h1
 rw [a3] at hll ⊢
 rw [uy,b3] at hl ⊢
 have hp:=qcn (a:=(jj g k).Log) (b:=(jj g g.Leader).Log)
 unfold wu
 refine Ev.bindp b1 (Ev.bindp a1 ?_)
 simp only [qh5 (Ne.symm hne)]
 refine Ev.bind (qgy (by omega)) ?_
 rw [ko (n:=(List.length (jj g g.Leader).Log:Int) - ((pre (jj g k).Log (jj g g.Leader).Log:Nat) : Int)) (by omega) (by omega)]
 generalize hL:(jj g g.Leader).Log=L at *
 generalize hP:pre (jj g k).Log L=p at *
 have key:∀ m:Int,0≤m→p+m.toNat≤L.length→L.take (p+m.toNat)=L.take (p+n.toNat)→Ev (fun _=>qal g k (jj g g.Leader) (p:Int) m) ⟨g.Epoch,g.Leader,g.InStep,g.High,yc g k (L.take (p+n.toNat)) g.Epoch⟩:=by
  intro m hm hle e
  unfold qal
  rw [hL,show (p:Int)+m=((p+m.toNat:Nat) : Int) by omega,ko (by omega) (by omega)]
  refine Ev.bindp (qbn hle) (Ev.bindp (qan (by rw [List.length_take]; omega)) ?_)
  rw [e]
  exact Ev.rfl
 by_cases h:(L.length:Int) - (p:Int)<n
 ·refine Ev.bind (Ev.iteT (by simpa using h) Ev.rfl) (key _ (by omega) (by omega) ?_)
  rw [List.take_of_length_le (by omega),List.take_of_length_le (by omega)]
 ·exact Ev.bind (Ev.iteF (by simpa using h) Ev.rfl) (key _ n0 (by omega) rfl)
def q4w (g:Group) : Option Group→Bool × Group
 | some g'=>(true,g')
 | none=>(false,g)
def qgr (g:Group) : Option Group→Group × Bool
 | some g'=>(g',true)
 | none=>(g,false)
theorem bF {b:Bool}{P:Prop}(h:b=true↔P)(hn:¬ P) : b=false:=by
 cases b
 ·rfl
 ·exact absurd (h.1 rfl) hn
theorem q82 {n a b:Int} : z7 n a b=true↔(a≤n∧n≤b):=by simp [z7]
theorem q83 {n a b:Int} : z9 n a b=true↔(a≤n∧n≤b):=by simp [z9]
theorem q58 {A B:List Int}{v:Int} : qk4 (A++v::B) (A.length:Int) ((A.length+1:Nat) : Int)=some (A++B):=by
 unfold qk4
 rw [if_pos ⟨by omega,by omega,by simp; omega⟩]
 simp
theorem q5l {A B:List Int}{v:Int}(hl:(A++B).length≤1000) : qk7 (A++B) (A.length:Int) [v]=some (A++v::B,[v]):=by
 unfold qk7
 rw [if_pos ⟨by omega,by simp; omega,by simp,by simp at hl ⊢; omega⟩]
 simp
theorem q3z {g:Group}(hg:Fit g) : ∃ o:Oc (Int × List Replica) (Bool × Group),Ev (fun _=>xn (fun i295 s351=>wg g i295 s351.1 s351.2) (List.length g.InStep:Int) (31,g.Replicas)) o∧((o = .nxt (qa5 g 31,g.Replicas)∧∀ k∈g.InStep,(jj g k).Epoch=g.Epoch)∨(o = .ret (false,g)∧¬ ∀ k∈g.InStep,(jj g k).Epoch=g.Epoch)):=by
 have hn:=qbd hg.mem
 have h2:=hg.n2
 have key:∀ (q:List Int) (i:Nat) (m:Int),(∀ (j:Nat) k,q[j]? = some k→g.InStep[i+j]? = some k)→i+q.length=g.InStep.length→∃ o:Oc (Int × List Replica) (Bool × Group),Ev (fun _=>yw (fun i (_:Unit) s=>wg g i s.1 s.2) (List.replicate q.length ()) i (m,g.Replicas)) o∧((o = .nxt (q.foldl (fun m k=>mnI m (jj g k).Known) m,g.Replicas)∧∀ k∈q,(jj g k).Epoch=g.Epoch)∨(o = .ret (false,g)∧¬ ∀ k∈q,(jj g k).Epoch=g.Epoch)):=by
  intro q
  induction q with
  | nil=>intro i m _ _; exact ⟨_,Ev.rfl,.inl ⟨rfl,by simp⟩⟩
  | cons k q ih =>
   intro i m hq hlen
   have hk:=hq 0 k rfl
   rw [Nat.add_zero] at hk
   have hr:=hg.rng (List.mem_of_getElem? hk)
   obtain ⟨a1,_,_⟩:=j7 hr.1 hr.2
   by_cases he:(jj g k).Epoch=g.Epoch
   ·obtain ⟨o,h1,h2⟩:=ih (i+1) (mnI m (jj g k).Known) (fun j z hz=>by rw [show i+1+j=i+(j+1) by omega]; exact hq (j+1) z (by simpa using hz)) (by simp at hlen; omega)
    refine ⟨o,?_,?_⟩
    ·obtain ⟨K,h1⟩:=h1
     refine ⟨K,fun kk hkk=>?_⟩
     have:=h1 kk hkk
     simp only [List.length_cons,List.replicate_succ,yw]
     unfold wg
     rw [kd hk,Option.bind_some,a1,Option.bind_some,if_neg (by simpa using he)]
     exact this
    ·rcases h2 with ⟨rfl,h3⟩ | ⟨rfl,h3⟩
     ·exact .inl ⟨rfl,fun z hz=>by
       rcases List.mem_cons.1 hz with rfl | hz
       ·exact he
       ·exact h3 z hz⟩
     ·exact .inr ⟨rfl,fun h=>h3 (fun z hz=>h z (by simp [hz]))⟩
   ·refine ⟨.ret (false,g),⟨0,fun kk _=>?_⟩,.inr ⟨rfl,fun h=>he (h k (by simp))⟩⟩
    simp only [List.length_cons,List.replicate_succ,yw]
    unfold wg
    rw [kd hk,Option.bind_some,a1,Option.bind_some,if_pos (by simpa using he)]
 obtain ⟨o,h1,h2⟩:=key g.InStep 0 31 (fun j k h=>by rw [Nat.zero_add]; exact h) (by simp)
 refine ⟨o,?_,h2⟩
 simp only [qen]
 unfold kf
 rw [if_pos (by simp; omega)]
 exact h1
theorem qu4 {g:Group}(hg:Fit g) : qa5 g 31=qa5 g 30:=by
 unfold qa5
 cases h:g.InStep with
 | nil=>have:=hg.ld; rw [h] at this; cases this
 | cons k q =>
  have hr:=hg.rng (k:=k) (by rw [h]; simp)
  obtain ⟨_,a2,_⟩:=j7 hr.1 hr.2
  have:=hg.log _ _ a2
  rw [List.foldl_cons,List.foldl_cons]
  congr 1
  unfold mnI
  split <;> split <;> omega
theorem q5q {g:Group}{x:IsrStep}(hg:Fit g) : Ev (fun k=>qa0 k g x) (q4w g (kt g x)):=by
 have hn:=qbd hg.mem
 have hn2:=hg.n2
 have he1:=hg.e1
 have he2:=hg.e2
 have hlr:=hg.rng hg.ld
 obtain ⟨l1,l2,l3⟩:=j7 hlr.1 hlr.2
 have hll:=hg.lead
 rw [uy,l3] at hll
 unfold qa0 kt
 by_cases c1:x.Kind≠2∧x.Kind≠3∧x.N≠0
 ·rw [if_pos c1]
  exact Ev.iteT (by simpa [and_assoc] using c1) Ev.rfl
 rw [if_neg c1]
 refine Ev.iteF (bF (by simp [and_assoc]) c1) ?_
 rw [ko (n:=(List.length g.Replicas:Int) - 1) (by omega) (by omega)]
 by_cases c2:0≤x.K∧x.K<g.Replicas.length
 case neg =>
  rw [if_pos c2]
  exact Ev.iteT (qe9.2 (by omega)) Ev.rfl
 rw [if_neg (show ¬ ¬ (0≤x.K∧x.K<(g.Replicas.length:Int)) from fun h=>h c2)]
 refine Ev.iteF (bF qe9 (by omega)) ?_
 obtain ⟨A,B,hAB,hA,hB,hmem,hB2⟩:=qkk (qge hg.mem) x.K
 have hABl:(A++B).length≤1000:=by rw [←hAB]; omega
 obtain ⟨k1,k2,k3⟩:=j7 c2.1 c2.2
 refine Ev.bind (a:=((A.length:Int),decide (B.head? = some x.K))) (by rw [hAB]; exact q6v hABl hA hB) (Ev.bindp k1 ?_)
 dsimp only
 by_cases d1:x.Kind=1
 ·rw [if_pos d1]
  refine Ev.iteT (by simpa using d1) ?_
  by_cases c:x.K∈g.InStep∧g.Epoch≠100
  ·rw [if_pos c]
   refine Ev.iteF (bF (P:=¬ (x.K∈g.InStep∧g.Epoch≠100)) (by rw [hmem,Decidable.not_and_iff_not_or_not]; simp) (fun h=>h c)) ?_
   rw [ko (n:=g.Epoch+1) (by omega) (by omega)]
   refine Ev.bind (qk9 c2.1 k2) ?_
   rw [k3]
   exact Ev.rfl
  ·rw [if_neg c]
   exact Ev.iteT (by rw [hmem,Decidable.not_and_iff_not_or_not] at c; simpa using c) Ev.rfl
 rw [if_neg d1]
 refine Ev.iteF (by simpa using d1) ?_
 by_cases d2:x.Kind=2
 ·rw [if_pos d2]
  refine Ev.iteT (by simpa using d2) (Ev.bindp l1 ?_)
  rw [uy,l3]
  by_cases c:x.K=0∧(0≤x.N∧x.N≤99)∧(jj g g.Leader).Log.length≠30
  ·rw [if_pos c]
   refine Ev.iteF (bF (P:=¬ (x.K=0∧(0≤x.N∧x.N≤99)∧(jj g g.Leader).Log.length≠30)) (by simp [z7]; omega) (fun h=>h c)) ?_
   refine Ev.bindp (a:=(jj g g.Leader).Log++[⟨g.Epoch,x.N⟩]) (by unfold ki; rw [if_pos (by simp; omega)]) ?_
   have hi:g.Leader.toNat<g.Replicas.length:=by omega
   refine Ev.bind (qk9 hlr.1 (List.getElem?_set_self hi)) ?_
   dsimp only
   rw [List.set_set]
   exact Ev.rfl
  ·rw [if_neg c]
   exact Ev.iteT (by simp [z7]; omega) Ev.rfl
 rw [if_neg d2]
 refine Ev.iteF (by simpa using d2) ?_
 by_cases d3:x.Kind=3
 ·rw [if_pos d3]
  refine Ev.iteT (by simpa using d3) ?_
  by_cases c:x.K≠g.Leader∧(0≤x.N∧x.N≤30)
  ·rw [if_pos c]
   exact Ev.iteF (by simpa using c.1) (Ev.iteF (bF qe9 (by simpa using c.2)) (Ev.bind (q33 hg c2.1 c2.2 c.1 c.2.1 c.2.2) Ev.rfl))
  ·rw [if_neg c]
   by_cases e:x.K=g.Leader
   ·exact Ev.iteT (by simpa using e) Ev.rfl
   ·exact Ev.iteF (by simpa using e) (Ev.iteT (qe9.2 (fun h=>c ⟨e,h⟩)) Ev.rfl)
 rw [if_neg d3]
 refine Ev.iteF (by simpa using d3) ?_
 by_cases d4:x.Kind=4
 ·rw [if_pos d4]
  refine Ev.iteT (by simpa using d4) ?_
  by_cases c:x.K∈g.InStep∧x.K≠g.Leader
  ·rw [if_pos c]
   refine Ev.iteF (bF (P:=¬ (x.K∈g.InStep∧x.K≠g.Leader)) (by rw [hmem,Decidable.not_and_iff_not_or_not]; simp) (fun h=>h c)) ?_
   have hh:=hmem.1 c.1
   obtain ⟨B',rfl⟩ : ∃ B',B=x.K::B':=by
    cases B with
    | nil=>cases hh
    | cons b B=>exact ⟨B,by simp at hh; rw [hh]⟩
   have hB3:=hB2 hh
   refine Ev.bindp (a:=A++B') ?_ ?_
   ·unfold qc7
    rw [qky (by simp at hABl; omega),hAB]
    exact q58
   ·have:g.InStep.filter (fun z=>decide (z≠x.K))=A++B':=by
     rw [hAB,List.filter_append,List.filter_eq_self.2 (fun z hz=>by have:=hA z hz; simp; omega),List.filter_cons_of_neg (by simp),List.filter_eq_self.2 (fun z hz=>by have:=hB3 z hz; simp; omega)]
    rw [this]
    exact Ev.rfl
  ·rw [if_neg c]
   exact Ev.iteT (by rw [hmem,Decidable.not_and_iff_not_or_not] at c; simpa using c) Ev.rfl
 rw [if_neg d4]
 refine Ev.iteF (by simpa using d4) ?_
 by_cases d5:x.Kind=5
 ·rw [if_pos d5]
  refine Ev.iteT (by simpa using d5) ?_
  by_cases c:¬ x.K∈g.InStep∧(jj g x.K).Epoch=g.Epoch∧g.High≤(jj g x.K).Known
  ·rw [if_pos c]
   refine Ev.iteF (bF (P:=¬ (¬ x.K∈g.InStep∧(jj g x.K).Epoch=g.Epoch∧g.High≤(jj g x.K).Known)) (by rw [hmem,Decidable.not_and_iff_not_or_not,Decidable.not_and_iff_not_or_not]; simp [or_assoc]) (fun h=>h c)) ?_
   refine Ev.bindp (a:=(A++x.K::B,[x.K])) ?_ ?_
   ·unfold qdb
    rw [hAB]
    exact q5l hABl
   ·have:qgv g.InStep x.K=A++x.K::B:=by
     unfold qgv
     rw [hAB,(flt hA hB).1,(flt hA hB).2]
    rw [this]
    exact Ev.rfl
  ·rw [if_neg c]
   exact Ev.iteT (by rw [hmem,Decidable.not_and_iff_not_or_not,Decidable.not_and_iff_not_or_not] at c; simpa [or_assoc] using c) Ev.rfl
 rw [if_neg d5]
 refine Ev.iteF (by simpa using d5) ?_
 by_cases d6:x.Kind=6
 ·rw [if_pos d6]
  refine Ev.iteT (by simpa using d6) ?_
  obtain ⟨o,h1,h2⟩:=q3z hg
  rw [qu4 hg] at h2
  rcases h2 with ⟨rfl,h3⟩ | ⟨rfl,h3⟩
  ·refine Ev.jn h1 ?_
   unfold qcu
   dsimp only
   by_cases c:x.K=0∧g.High<qa5 g 30
   ·rw [if_pos (show x.K=0∧(∀ k∈g.InStep,(jj g k).Epoch=g.Epoch)∧g.High<qa5 g 30 from ⟨c.1,h3,c.2⟩)]
    exact Ev.iteF (by simp; omega) Ev.rfl
   ·rw [if_neg (show ¬ (x.K=0∧(∀ k∈g.InStep,(jj g k).Epoch=g.Epoch)∧g.High<qa5 g 30) from fun h=>c ⟨h.1,h.2.2⟩)]
    exact Ev.iteT (by simp; omega) Ev.rfl
  ·rw [if_neg (show ¬ (x.K=0∧(∀ k∈g.InStep,(jj g k).Epoch=g.Epoch)∧g.High<qa5 g 30) from fun h=>h3 h.2.1)]
   exact Ev.jn_ret h1
 rw [if_neg d6]
 exact Ev.iteF (by simpa using d6) Ev.rfl

theorem gs1 {g:Group}{K N:Int}(hg:Fit g) : kt g ⟨1,K,N⟩=if K∈g.InStep∧N=0∧g.Epoch<100 then some ⟨g.Epoch+1,K,g.InStep,g.High,yc g K (uh g K) (g.Epoch+1)⟩ else none:=by
 have e2:=hg.e2
 unfold kt
 dsimp only
 by_cases c:K∈g.InStep∧N=0∧g.Epoch<100
 ·have hr:=hg.rng c.1
  rw [if_pos c,if_neg (by omega),if_neg (fun h=>h hr),if_pos rfl,if_pos ⟨c.1,by omega⟩]
 ·rw [if_neg c]
  split
  ·rfl
  split
  ·rfl
  rw [if_pos rfl]
  split
  ·rename_i h1 h2 h3
   exact absurd ⟨h3.1,by omega,by omega⟩ c
  ·rfl
theorem gs2 {g:Group}{K N:Int}(hg:Fit g) : kt g ⟨2,K,N⟩=if K=0∧(0≤N∧N≤99)∧(lead g).length≠30 then some ⟨g.Epoch,g.Leader,g.InStep,g.High,yc g g.Leader (lead g++[⟨g.Epoch,N⟩]) g.Epoch⟩ else none:=by
 have n1:=hg.n1
 unfold kt
 dsimp only
 rw [if_neg (by omega)]
 by_cases h:0≤K∧K<(g.Replicas.length:Int)
 ·rw [if_neg (fun h2=>h2 h),if_neg (by decide),if_pos rfl]
 ·rw [if_pos h,if_neg (by omega)]
theorem gs3 {g:Group}{K N:Int} : kt g ⟨3,K,N⟩=if (0≤K∧K<g.Replicas.length)∧K≠g.Leader∧(0≤N∧N≤30) then some ⟨g.Epoch,g.Leader,g.InStep,g.High,yc g K ((lead g).take (pre (uh g K) (lead g)+N.toNat)) g.Epoch⟩ else none:=by
 unfold kt
 dsimp only
 rw [if_neg (by omega)]
 by_cases h:0≤K∧K<(g.Replicas.length:Int)
 ·rw [if_neg (fun h2=>h2 h),if_neg (by decide),if_neg (by decide),if_pos rfl]
  simp only [h,true_and,and_self]
 ·rw [if_pos h,if_neg (fun h2=>h h2.1)]
theorem gs4 {g:Group}{K N:Int}(hg:Fit g) : kt g ⟨4,K,N⟩=if K∈g.InStep∧K≠g.Leader∧N=0 then some ⟨g.Epoch,g.Leader,g.InStep.filter (fun z=>decide (z≠K)),g.High,g.Replicas⟩ else none:=by
 unfold kt
 dsimp only
 by_cases c:K∈g.InStep∧K≠g.Leader∧N=0
 ·have hr:=hg.rng c.1
  rw [if_pos c,if_neg (by omega),if_neg (fun h=>h hr),if_neg (by decide),if_neg (by decide),if_neg (by decide),if_pos rfl,if_pos ⟨c.1,c.2.1⟩]
 ·rw [if_neg c]
  split
  ·rfl
  split
  ·rfl
  rw [if_neg (by decide),if_neg (by decide),if_neg (by decide),if_pos rfl]
  split
  ·rename_i h1 h2 h3
   exact absurd ⟨h3.1,h3.2,by omega⟩ c
  ·rfl
theorem gs5 {g:Group}{K N:Int} : kt g ⟨5,K,N⟩=if (0≤K∧K<g.Replicas.length)∧¬ K∈g.InStep∧N=0∧(jj g K).Epoch=g.Epoch∧g.High≤(jj g K).Known then some ⟨g.Epoch,g.Leader,qgv g.InStep K,g.High,g.Replicas⟩ else none:=by
 unfold kt
 dsimp only
 by_cases c:(0≤K∧K<(g.Replicas.length:Int))∧¬ K∈g.InStep∧N=0∧(jj g K).Epoch=g.Epoch∧g.High≤(jj g K).Known
 ·rw [if_pos c,if_neg (by omega),if_neg (fun h=>h c.1),if_neg (by decide),if_neg (by decide),if_neg (by decide),if_neg (by decide),if_pos rfl,if_pos ⟨c.2.1,c.2.2.2⟩]
 ·rw [if_neg c]
  split
  ·rfl
  split
  ·rfl
  rw [if_neg (by decide),if_neg (by decide),if_neg (by decide),if_neg (by decide),if_pos rfl]
  split
  ·rename_i h1 h2 h3
   exact absurd ⟨by omega,h3.1,by omega,h3.2⟩ c
  ·rfl
theorem gs6 {g:Group}{K N:Int}(hg:Fit g) : kt g ⟨6,K,N⟩=if K=0∧N=0∧(∀ k∈g.InStep,(jj g k).Epoch=g.Epoch)∧g.High<qa5 g 30 then some ⟨g.Epoch,g.Leader,g.InStep,qa5 g 30,g.Replicas⟩ else none:=by
 have n1:=hg.n1
 unfold kt
 dsimp only
 by_cases c:K=0∧N=0∧(∀ k∈g.InStep,(jj g k).Epoch=g.Epoch)∧g.High<qa5 g 30
 ·rw [if_pos c,if_neg (by omega),if_neg (fun h=>h (by omega)),if_neg (by decide),if_neg (by decide),if_neg (by decide),if_neg (by decide),if_neg (by decide),if_pos rfl,if_pos ⟨c.1,c.2.2⟩]
 ·rw [if_neg c]
  split
  ·rfl
  split
  ·rfl
  rw [if_neg (by decide),if_neg (by decide),if_neg (by decide),if_neg (by decide),if_neg (by decide),if_pos rfl]
  split
  ·rename_i h1 h2 h3
   exact absurd ⟨h3.1,by omega,h3.2⟩ c
  ·rfl
theorem gs0 {g:Group}{x:IsrStep}(h1:x.Kind≠1)(h2:x.Kind≠2)(h3:x.Kind≠3)(h4:x.Kind≠4)(h5:x.Kind≠5)(h6:x.Kind≠6) : kt g x=none:=by
 unfold kt
 rw [if_neg h1,if_neg h2,if_neg h3,if_neg h4,if_neg h5,if_neg h6]
 split
 ·rfl
 split <;> rfl
theorem q39 {g:Group}(hg:Fit g) : ((∀ k∈g.InStep,(jj g k).Epoch=g.Epoch)→Ev (fun _=>wj g) (qa5 g 30))∧((¬ ∀ k∈g.InStep,(jj g k).Epoch=g.Epoch)→Ev (fun _=>wj g) (-1)):=by
 have hn:=qbd hg.mem
 have h2:=hg.n2
 have key:∀ (q:List Int) (i:Nat) (m:Int),(∀ k∈q,k∈g.InStep)→((∀ k∈q,(jj g k).Epoch=g.Epoch)→yw (fun i x s=>kc g i x s) q i m=some (.nxt (q.foldl (fun m k=>mnI m (jj g k).Known) m)))∧((¬ ∀ k∈q,(jj g k).Epoch=g.Epoch)→yw (fun i x s=>kc g i x s) q i m=some (.ret (-1))):=by
  intro q
  induction q with
  | nil=>intro i m _; exact ⟨fun _=>rfl,fun h=>absurd (by simp) h⟩
  | cons k q ih =>
   intro i m hq
   have hr:=hg.rng (hq k (by simp))
   obtain ⟨a1,_,_⟩:=j7 hr.1 hr.2
   simp only [yw]
   by_cases he:(jj g k).Epoch=g.Epoch
   ·have hb:kc g i k m=some (.nxt (mnI m (jj g k).Known)):=by
     unfold kc
     rw [a1,Option.bind_some,if_neg (by simpa using he)]
     by_cases hk:(jj g k).Known<m
     ·rw [if_pos (by simpa using hk)]
      congr 2
      unfold mnI
      split <;> omega
     ·rw [if_neg (by simpa using hk)]
      congr 2
      unfold mnI
      split <;> omega
    rw [hb]
    obtain ⟨h3,h4⟩:=ih (i+1) (mnI m (jj g k).Known) (fun z hz=>hq z (by simp [hz]))
    exact ⟨fun h=>h3 (fun z hz=>h z (by simp [hz])),fun h=>h4 (fun h5=>h (fun z hz=>by
     rcases List.mem_cons.1 hz with rfl | hz
     ·exact he
     ·exact h5 z hz))⟩
   ·have hb:kc g i k m=some (.ret (-1)):=by
     unfold kc
     rw [a1,Option.bind_some,if_pos (by simpa using he)]
    rw [hb]
    exact ⟨fun h=>absurd (h k (by simp)) he,fun _=>rfl⟩
 obtain ⟨k1,k2⟩:=key g.InStep 0 30 (fun k hk=>hk)
 have hl:∀ {o:Oc Int Int},yw (fun i x s=>kc g i x s) g.InStep 0 30=some o→Ev (fun _=>kf (fun i x s=>kc g i x s) g.InStep 30) o:=fun h=>Ev.of (by
  unfold kf
  rw [if_pos (by omega)]
  exact h)
 unfold wj
 exact ⟨fun h=>Ev.jn (hl (k1 h)) Ev.rfl,fun h=>Ev.jn_ret (hl (k2 h))⟩
theorem q5j {g:Group}{x:IsrStep}(hg:Fit g) : Ev (fun _=>xn (fun i309 s357=>uq g x i309 s357) (List.length g.InStep:Int) ([] : List Int)) (.nxt (g.InStep.filter (fun z=>decide (z≠x.K)))):=by
 have hn:=qbd hg.mem
 have h2:=hg.n2
 simp only [qen]
 refine qaa (B:=fun _ i _ s=>uq g x i s) (by simp; omega) (fun i q s=>i+q.length=g.InStep.length∧s=(g.InStep.take i).filter (fun z=>decide (z≠x.K))) ⟨by simp,by simp⟩ (fun i _ q s ⟨h1,hs⟩ => .inl ?_) (fun i s ⟨h1,hs⟩=>?_)
 ·simp only [List.length_cons] at h1
  have hi:g.InStep[i]? = some (g.InStep[i]'(by omega)):=List.getElem?_eq_getElem (by omega)
  generalize g.InStep[i]'(by omega)=z at hi
  refine ⟨(g.InStep.take (i+1)).filter (fun z=>decide (z≠x.K)),Ev.of ?_,by omega,rfl⟩
  unfold uq
  have hl:s.length≤i:=by rw [hs]; exact Nat.le_trans (List.length_filter_le _ _) (by simp; omega)
  rw [kd hi,Option.bind_some,List.take_add_one,hi,List.filter_append,← hs]
  by_cases he:z=x.K
  ·rw [if_neg (by simpa using he)]
   simp [he]
  ·rw [if_pos (by simpa using he)]
   have:ki 8 s [z]=some (s++[z]):=by unfold ki; rw [if_pos (by simp; omega)]
   rw [this]
   simp [he]
 ·simp only [List.length_nil,Nat.add_zero] at h1
  rw [hs,h1,List.take_length]

theorem qqm {g:Group}{x:IsrStep}(hg:Fit g) : Ev (fun k=>qbj k g x) (qgr g (kt g x)):=by
 have hn:=qbd hg.mem
 have hn2:=hg.n2
 have he1:=hg.e1
 have he2:=hg.e2
 have hhi:=hg.high
 have hlr:=hg.rng hg.ld
 obtain ⟨l1,l2,l3⟩:=j7 hlr.1 hlr.2
 have hll:=hg.lead
 rw [uy,l3] at hll
 obtain ⟨b,hb,hbi⟩:=qjg (l:=g.InStep) (v:=x.K) (by omega)
 have hbf:b=false↔¬ x.K∈g.InStep:=by rw [←hbi]; cases b <;> simp
 obtain ⟨Kd,K,N⟩:=x
 unfold qbj
 refine Ev.bind hb (Ev.bindp l1 ?_)
 dsimp only at hbi hbf ⊢
 by_cases d1:Kd=1
 ·subst d1
  rw [gs1 hg]
  by_cases c:K∈g.InStep∧N=0∧g.Epoch<100
  ·have hr:=hg.rng c.1
   obtain ⟨k1,k2,k3⟩:=j7 hr.1 hr.2
   rw [if_pos c]
   refine Ev.iteT (by rw [hbi.2 c.1]; simp [c.2.1,c.2.2]) (Ev.bindp k1 ?_)
   rw [ko (n:=g.Epoch+1) (by omega) (by omega),k3]
   exact Ev.rfl
  ·rw [if_neg c]
   refine Ev.iteF ?_ (Ev.iteF (by simp) (Ev.iteF (by simp) (Ev.iteF (by simp) (Ev.bind (Ev.iteF (by simp) Ev.rfl) (Ev.bind (Ev.iteF rfl Ev.rfl) (Ev.iteF rfl (Ev.iteF (by simp) Ev.rfl)))))))
   refine bF (P:=K∈g.InStep∧N=0∧g.Epoch<100) ?_ c
   rw [←hbi]; simp [and_assoc]
 by_cases d2:Kd=2
 ·subst d2
  rw [gs2 hg,uy,l3]
  refine Ev.iteF (by simp) ?_
  by_cases c:K=0∧(0≤N∧N≤99)∧(jj g g.Leader).Log.length≠30
  ·rw [if_pos c]
   refine Ev.iteT (by simp [z9]; omega) (Ev.bindp (a:=(jj g g.Leader).Log++[⟨g.Epoch,N⟩]) (by unfold ki; rw [if_pos (by simp; omega)]) Ev.rfl)
  ·rw [if_neg c]
   exact Ev.iteF (by simp [z9]; omega) (Ev.iteF (by simp) (Ev.iteF (by simp) (Ev.bind (Ev.iteF (by simp) Ev.rfl) (Ev.bind (Ev.iteF rfl Ev.rfl) (Ev.iteF rfl (Ev.iteF (by simp) Ev.rfl))))))
 by_cases d3:Kd=3
 ·subst d3
  rw [gs3]
  refine Ev.iteF (by simp) (Ev.iteF (by simp) ?_)
  by_cases c:(0≤K∧K<(g.Replicas.length:Int))∧K≠g.Leader∧(0≤N∧N≤30)
  ·rw [if_pos c]
   exact Ev.iteT (by simp [z9]; omega) (Ev.bind (q4d hg c.1.1 c.1.2 c.2.1 c.2.2.1 c.2.2.2) Ev.rfl)
  ·rw [if_neg c]
   exact Ev.iteF (by simp [z9]; omega) (Ev.iteF (by simp) (Ev.bind (Ev.iteF (by simp) Ev.rfl) (Ev.bind (Ev.iteF rfl Ev.rfl) (Ev.iteF rfl (Ev.iteF (by simp) Ev.rfl)))))
 by_cases d4:Kd=4
 ·subst d4
  rw [gs4 hg]
  refine Ev.iteF (by simp) (Ev.iteF (by simp) (Ev.iteF (by simp) ?_))
  by_cases c:K∈g.InStep∧K≠g.Leader∧N=0
  ·rw [if_pos c]
   exact Ev.iteT (by rw [hbi.2 c.1]; simp [c.2.1,c.2.2]) (Ev.jn (q5j hg) Ev.rfl)
  ·rw [if_neg c]
   refine Ev.iteF (bF (P:=K∈g.InStep∧K≠g.Leader∧N=0) ?_ c) (Ev.bind (Ev.iteF (by simp) Ev.rfl) (Ev.bind (Ev.iteF rfl Ev.rfl) (Ev.iteF rfl (Ev.iteF (by simp) Ev.rfl))))
   rw [←hbi]; simp [and_assoc]
 by_cases d5:Kd=5
 ·subst d5
  have hgs:=gs5 (g:=g) (K:=K) (N:=N)
  refine Ev.iteF (by simp) (Ev.iteF (by simp) (Ev.iteF (by simp) (Ev.iteF (by simp) ?_)))
  by_cases c1:(0≤K∧K<(g.Replicas.length:Int))∧¬ K∈g.InStep∧N=0
  ·obtain ⟨k1,k2,k3⟩:=j7 c1.1.1 c1.1.2
   refine Ev.bind (Ev.iteT (by rw [hbf.2 c1.2.1]; simp [c1.1.1,c1.1.2,c1.2.2]) (Ev.bindp k1 Ev.rfl)) ?_
   by_cases c2:(jj g K).Epoch=g.Epoch
   ·refine Ev.bind (Ev.iteT (by simpa using c2) (Ev.bindp k1 Ev.rfl)) ?_
    by_cases c3:g.High≤(jj g K).Known
    ·rw [if_pos ⟨c1.1,c1.2.1,c1.2.2,c2,c3⟩] at hgs
     rw [hgs]
     obtain ⟨A,B,hAB,hA,hB,hmem,hB2⟩:=qkk (qge hg.mem) K
     have hABl:(A++B).length≤1000:=by rw [←hAB]; omega
     have hp:=qr8 hABl hA hB
     rw [if_neg (fun h=>c1.2.1 (hmem.2 h)),← hAB] at hp
     refine Ev.iteT (by simpa using c3) (Ev.bind hp ?_)
     have:qgv g.InStep K=A++K::B:=by
      unfold qgv
      rw [hAB,(flt hA hB).1,(flt hA hB).2]
     rw [this]
     exact Ev.rfl
    ·rw [if_neg (fun h=>c3 h.2.2.2.2)] at hgs
     rw [hgs]
     exact Ev.iteF (by simpa using c3) (Ev.iteF (by simp) Ev.rfl)
   ·rw [if_neg (fun h=>c2 h.2.2.2.1)] at hgs
    rw [hgs]
    exact Ev.bind (Ev.iteF (by simpa using c2) Ev.rfl) (Ev.iteF rfl (Ev.iteF (by simp) Ev.rfl))
  ·rw [if_neg (fun h=>c1 ⟨h.1,h.2.1,h.2.2.1⟩)] at hgs
   rw [hgs]
   refine Ev.bind (Ev.iteF (bF (P:=(0≤K∧K<(g.Replicas.length:Int))∧¬ K∈g.InStep∧N=0) ?_ c1) Ev.rfl) (Ev.bind (Ev.iteF rfl Ev.rfl) (Ev.iteF rfl (Ev.iteF (by simp) Ev.rfl)))
   rw [←hbf]; simp [and_assoc]
 refine Ev.iteF (by simp [d1]) (Ev.iteF (by simp [d2]) (Ev.iteF (by simp [d3]) (Ev.iteF (by simp [d4]) (Ev.bind (Ev.iteF (by simp [d5]) Ev.rfl) (Ev.bind (Ev.iteF rfl Ev.rfl) (Ev.iteF rfl ?_))))))
 by_cases d6:Kd=6
 ·subst d6
  have hgs:=gs6 (K:=K) (N:=N) hg
  by_cases c1:K=0∧N=0
  ·refine Ev.iteT (by simp [c1.1,c1.2]) ?_
   obtain ⟨s1,s2⟩:=q39 hg
   by_cases c2:∀ k∈g.InStep,(jj g k).Epoch=g.Epoch
   ·refine Ev.bind (s1 c2) ?_
    by_cases c3:g.High<qa5 g 30
    ·rw [if_pos ⟨c1.1,c1.2,c2,c3⟩] at hgs
     rw [hgs]
     exact Ev.iteT (by simpa using c3) (Ev.bind (s1 c2) Ev.rfl)
    ·rw [if_neg (fun h=>c3 h.2.2.2)] at hgs
     rw [hgs]
     exact Ev.iteF (by simpa using c3) Ev.rfl
   ·rw [if_neg (fun h=>c2 h.2.2.1)] at hgs
    rw [hgs]
    exact Ev.bind (s2 c2) (Ev.iteF (by simp; omega) Ev.rfl)
  ·rw [if_neg (fun h=>c1 ⟨h.1,h.2.1⟩)] at hgs
   rw [hgs]
   exact Ev.iteF (bF (P:=K=0∧N=0) (by simp) c1) Ev.rfl
 ·rw [gs0 (by simpa using d1) (by simpa using d2) (by simpa using d3) (by simpa using d4) (by simpa using d5) (by simpa using d6)]
  exact Ev.iteF (by simp [d6]) Ev.rfl
end Go.Proofs.Ytefgfcalgjmhjaa.X
