/- New groups of replicas, and plays. -/
import Derived.Test.YtefgfcalgjmhjaaXEL11t
set_option linter.unusedVariables false
set_option linter.unusedSimpArgs false
namespace Go.Proofs.Ytefgfcalgjmhjaa.X
open Go

def k7 (n:Nat) : Group:=⟨0,0,w8 n,0,List.replicate n ⟨[],0,0⟩⟩
theorem qj4 {n:Nat} : (w8 n).Pairwise (· < ·):=by
 induction n with
 | zero=>simp [w8]
 | succ n ih =>
  rw [qfc,List.pairwise_append]
  refine ⟨ih,by simp,fun a ha b hb=>?_⟩
  have:=(qhy ha).2
  simp at hb
  omega
theorem qfg {n:Nat}(h1:2≤n)(h2:n≤4) : ya (k7 n):=by
 have hl:lead (k7 n)=[]:=by
  unfold lead k7
  dsimp only
  cases h:(List.replicate n (⟨[],0,0⟩ : Replica))[Int.toNat 0]? with
  | none=>rfl
  | some x =>
   have:=List.mem_of_getElem? h
   rw [List.mem_replicate] at this
   rw [this.2]
 refine ⟨⟨by simp [k7]; omega,by simp [k7]⟩,⟨qel.2 ⟨qj4,fun z hz=>by have:=qhy hz; simpa [k7] using this⟩,?_,by simp [k7]⟩,fun i x hx=>?_⟩
 ·show (0:Int)∈w8 n
  simp only [w8,List.mem_map,List.mem_range]
  exact ⟨0,by omega,rfl⟩
 ·have hx:(List.replicate n (⟨[],0,0⟩ : Replica))[i]? = some x:=hx
  have:=List.mem_of_getElem? hx
  rw [List.mem_replicate] at this
  rw [this.2]
  unfold qgj
  rw [hl]
  refine ⟨⟨fun i x h=>by simp at h,by simp⟩,by simp [k7],by simp,fun _=>by simp [k7],fun _=>by simp⟩
theorem qsz {n:Nat}(h2:n≤4) : Ev (fun _=>qa7 (n:Int)) (k7 n):=by
 unfold qa7
 refine Ev.bindp (a:=List.replicate n ⟨[],0,0⟩) (qod (by omega)) ?_
 simp only [qep]
 refine Ev.jn (s:=k7 n) (u1 (B:=fun _ i _ s=>uh (List.replicate n ⟨[],0,0⟩) i s) (by simp; omega) (fun i q s=>i+q.length=n∧s=⟨0,0,w8 i,0,List.replicate n ⟨[],0,0⟩⟩) ⟨by simp,rfl⟩ (fun i x q s ⟨h1,hs⟩ => .inl ?_) (fun i s ⟨h1,hs⟩=>?_)) Ev.rfl
 ·subst hs
  simp only [List.length_cons] at h1
  refine ⟨⟨0,0,w8 (i+1),0,List.replicate n ⟨[],0,0⟩⟩,Ev.of ?_,by omega,rfl⟩
  unfold uh j7
  rw [if_pos (by simp [qh2]; omega),qfc]
  rfl
 ·subst hs
  simp only [List.length_nil,Nat.add_zero] at h1
  rw [h1]
  rfl
theorem qks {n:Int} : (∃ m:Nat,n=m∧(2≤m∧m≤4)∧Ev (fun k=>wg k n) (k7 m,true))∨(¬ (2≤n∧n≤4)∧Ev (fun k=>wg k n) (⟨0,0,[],0,[]⟩,false)):=by
 by_cases h:2≤n∧n≤4
 ·left
  obtain ⟨m,rfl⟩ : ∃ m:Nat,n=m:=⟨n.toNat,by omega⟩
  refine ⟨m,rfl,by omega,?_⟩
  unfold wg
  refine Ev.iteF (bF q29 (fun h2=>h2 h)) (Ev.bindp (a:=List.replicate m ⟨[],0,0⟩) (qod (by omega)) ?_)
  refine Ev.jn (s:=((m:Int),k7 m)) (Ev.loop (B:=fun s77=>uj (m:Int) (List.replicate m ⟨[],0,0⟩) s77.1 s77.2) (fun s=>∃ i:Nat,i≤m∧s=((i:Int),⟨0,0,w8 i,0,List.replicate m ⟨[],0,0⟩⟩)) (fun s=>(m - s.1).toNat) ⟨0,by omega,rfl⟩ ?_) Ev.rfl
  rintro s ⟨i,hi,rfl⟩
  unfold uj
  dsimp only
  by_cases hc:i<m
  ·rw [if_pos (by simpa using hc)]
   refine .inl ⟨(((i+1:Nat) : Int),⟨0,0,w8 (i+1),0,List.replicate m ⟨[],0,0⟩⟩),?_,⟨i+1,by omega,rfl⟩,by dsimp only; omega⟩
   unfold j7
   rw [if_pos (by simp [qh2]; omega),Option.bind_some,qjt (by omega),qfc]
  ·rw [if_neg (by simpa using hc)]
   obtain rfl:i=m:=by omega
   exact .inr (.inl ⟨_,rfl,rfl⟩)
 ·right
  refine ⟨h,?_⟩
  unfold wg
  exact Ev.iteT (q29.2 h) Ev.rfl

def yl:Group→List IsrStep→List Bool→Group × List Bool
 | g,[],d=>(g,d)
 | g,x::q,d=>yl (qcy g (kg g x)).1 q (d++[(qcy g (kg g x)).2])
theorem qe7 {g:Group}{x:IsrStep}(hg:ya g) : ya (qcy g (kg g x)).1:=by
 cases h:kg g x with
 | none=>exact hg
 | some g'=>exact qoq hg h
theorem q2x {g:Group}{x:IsrStep} : q2g g (kg g x)=((qcy g (kg g x)).2,(qcy g (kg g x)).1):=by
 cases kg g x <;> rfl
theorem qfj:∀ {l:List IsrStep} {g:Group} {d:List Bool},ya g→ya (yl g l d).1∧(yl g l d).2.length=d.length+l.length:=by
 intro l
 induction l with
 | nil=>intro g d hg; exact ⟨hg,rfl⟩
 | cons x l ih =>
  intro g d hg
  obtain ⟨h1,h2⟩:=ih (d:=d++[(qcy g (kg g x)).2]) (qe7 (x:=x) hg)
  exact ⟨h1,by rw [yl,h2]; simp; omega⟩
theorem qts {a b:List IsrStep} : ∀ {g:Group} {d:List Bool},yl g (a++b) d=yl (yl g a d).1 b (yl g a d).2:=by
 induction a with
 | nil=>intro g d; rfl
 | cons x a ih=>intro g d; exact ih
theorem qg1 {n:Nat}{l:List IsrStep}(h1:2≤n)(h2:n≤4)(hl:l.length≤100) : Ev (fun k=>yg k (n:Int) l) ((yl (k7 n) l []).1,(yl (k7 n) l []).2,true):=by
 unfold yg
 refine Ev.iteF (bF (P:=¬ (2≤(n:Int)∧(n:Int)≤4)∨100<l.length) (by rw [Bool.or_eq_true,qd0,decide_eq_true_eq]; omega) (by omega)) (Ev.bind (qsz h2) ?_)
 refine Ev.jn (s:=((yl (k7 n) l []).2,(yl (k7 n) l []).1,(yl (k7 n) l []).1.Replicas)) (u1 (B:=fun k i x (s:List Bool × Group × List Replica)=>ub k i x s.1 s.2.1 s.2.2) (by omega) (fun i q s=>∃ g d,s=(d,g,g.Replicas)∧ya g∧d.length+q.length≤100∧yl g q d=yl (k7 n) l []) ⟨k7 n,[],rfl,qfg h1 h2,by simpa using hl,rfl⟩ (fun i x q s hs => .inl ?_) (fun i s hs=>?_)) Ev.rfl
 ·obtain ⟨g,d,rfl,hg,hd,hr⟩:=hs
  have hst:=q16 (x:=x) hg.fit
  rw [q2x] at hst
  refine ⟨(d++[(qcy g (kg g x)).2],(qcy g (kg g x)).1,(qcy g (kg g x)).1.Replicas),?_,_,_,rfl,qe7 hg,by simp at hd ⊢; omega,hr⟩
  unfold ub
  refine Ev.bind hst (Ev.bindp (a:=d++[(qcy g (kg g x)).2]) ?_ Ev.rfl)
  unfold j7
  rw [if_pos (by simp at hd ⊢; omega)]
 ·obtain ⟨g,d,rfl,hg,hd,hr⟩:=hs
  rw [←hr]
  rfl
theorem qgr {n:Int}{l:List IsrStep}(h:¬ (2≤n∧n≤4)∨100<l.length) : Ev (fun k=>yg k n l) (⟨0,0,[],0,[]⟩,[],false):=by
 unfold yg
 refine Ev.iteT ?_ Ev.rfl
 rw [Bool.or_eq_true,qd0,decide_eq_true_eq]
 omega
theorem qg7 {n:Int}{l:List IsrStep}{g:Group}{b:Bool}(e:Ev (fun k=>wg k n) (g,b))(h:b=false∨100<l.length) : Ev (fun k=>yh k n l) (⟨0,0,[],0,[]⟩,[],false):=by
 unfold yh
 refine Ev.bind e (Ev.iteT ?_ Ev.rfl)
 rcases h with rfl | h
 ·rfl
 ·simp; omega
theorem qkb {n:Nat}{l:List IsrStep}(h1:2≤n)(h2:n≤4)(e:Ev (fun k=>wg k (n:Int)) (k7 n,true))(hl:l.length≤100) : Ev (fun k=>yh k (n:Int) l) ((yl (k7 n) l []).1,(yl (k7 n) l []).2,true):=by
 unfold yh
 refine Ev.bind e (Ev.iteF (by simp; omega) ?_)
 have hgood:=qfj (l:=l) (d:=[]) (qfg h1 h2)
 refine Ev.jn (s:=((yl (k7 n) l []).2,(yl (k7 n) l []).1)) (u1 (B:=fun k i x (s:List Bool × Group)=>x9 k i x s.1 s.2) (by omega) (fun i q s=>∃ g d,s=(d,g)∧ya g∧d.length+q.length≤100∧yl g q d=yl (k7 n) l []) ⟨k7 n,[],rfl,qfg h1 h2,by simpa using hl,rfl⟩ (fun i x q s hs => .inl ?_) (fun i s hs=>?_)) ?_
 ·obtain ⟨g,d,rfl,hg,hd,hr⟩:=hs
  refine ⟨(d++[(qcy g (kg g x)).2],(qcy g (kg g x)).1),?_,_,_,rfl,qe7 hg,by simp at hd ⊢; omega,hr⟩
  unfold x9
  refine Ev.bind (qlw hg.nn) (Ev.bind (q10 (x:=x) hg.fit) (Ev.bind (a:=(qcy g (kg g x)).1) ?_ ?_))
  ·cases kg g x with
   | none=>exact Ev.iteF rfl Ev.rfl
   | some g'=>exact Ev.iteT rfl Ev.rfl
  ·unfold qb2 j7
   rw [if_pos (by simp at hd ⊢; omega)]
   exact Ev.rfl
 ·obtain ⟨g,d,rfl,hg,hd,hr⟩:=hs
  rw [←hr]
  rfl
 ·unfold qbz
  exact Ev.bind (qlw hgood.1.nn) Ev.rfl
end Go.Proofs.Ytefgfcalgjmhjaa.X
