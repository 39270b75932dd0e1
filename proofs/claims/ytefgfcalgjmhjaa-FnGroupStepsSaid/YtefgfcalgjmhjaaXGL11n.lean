/- New groups of replicas, and plays. -/
import Derived.Test.YtefgfcalgjmhjaaXGL11t
set_option linter.unusedVariables false
set_option linter.unusedSimpArgs false
namespace Go.Proofs.Ytefgfcalgjmhjaa.X
open Go

def qag (n:Nat) : Group:=⟨0,0,yf n,0,List.replicate n ⟨[],0,0⟩⟩
theorem qll {n:Nat} : (yf n).Pairwise (· < ·):=by
 induction n with
 | zero=>simp [yf]
 | succ n ih =>
  rw [qew,List.pairwise_append]
  refine ⟨ih,by simp,fun a ha b hb=>?_⟩
  have:=(qf8 ha).2
  simp at hb
  omega
theorem qf9 {n:Nat}(h1:2≤n)(h2:n≤4) : yb (qag n):=by
 have hl:lead (qag n)=[]:=by
  unfold lead qag
  dsimp only
  cases h:(List.replicate n (⟨[],0,0⟩ : Replica))[Int.toNat 0]? with
  | none=>rfl
  | some x =>
   have:=List.mem_of_getElem? h
   rw [List.mem_replicate] at this
   rw [this.2]
 refine ⟨⟨by simp [qag]; omega,by simp [qag]⟩,⟨qf4.2 ⟨qll,fun z hz=>by have:=qf8 hz; simpa [qag] using this⟩,?_,by simp [qag]⟩,fun i x hx=>?_⟩
 ·show (0:Int)∈yf n
  simp only [yf,List.mem_map,List.mem_range]
  exact ⟨0,by omega,rfl⟩
 ·have hx:(List.replicate n (⟨[],0,0⟩ : Replica))[i]? = some x:=hx
  have:=List.mem_of_getElem? hx
  rw [List.mem_replicate] at this
  rw [this.2]
  unfold qfa
  rw [hl]
  refine ⟨⟨fun i x h=>by simp at h,by simp⟩,by simp [qag],by simp,fun _=>by simp [qag],fun _=>by simp⟩
theorem qur {n:Nat}(h2:n≤4) : Ev (fun _=>qb7 (n:Int)) (qag n):=by
 unfold qb7
 refine Ev.bindp (a:=List.replicate n ⟨[],0,0⟩) (qsf (by omega)) ?_
 simp only [qen]
 refine Ev.jn (s:=qag n) (qaa (B:=fun _ i _ s=>qaj (List.replicate n ⟨[],0,0⟩) i s) (by simp; omega) (fun i q s=>i+q.length=n∧s=⟨0,0,yf i,0,List.replicate n ⟨[],0,0⟩⟩) ⟨by simp,rfl⟩ (fun i x q s ⟨h1,hs⟩ => .inl ?_) (fun i s ⟨h1,hs⟩=>?_)) Ev.rfl
 ·subst hs
  simp only [List.length_cons] at h1
  refine ⟨⟨0,0,yf (i+1),0,List.replicate n ⟨[],0,0⟩⟩,Ev.of ?_,by omega,rfl⟩
  unfold qaj ki
  rw [if_pos (by simp [qdo]; omega),qew]
  rfl
 ·subst hs
  simp only [List.length_nil,Nat.add_zero] at h1
  rw [h1]
  rfl
theorem qmm {n:Int} : (∃ m:Nat,n=m∧(2≤m∧m≤4)∧Ev (fun k=>yv k n) (qag m,true))∨(¬ (2≤n∧n≤4)∧Ev (fun k=>yv k n) (⟨0,0,[],0,[]⟩,false)):=by
 by_cases h:2≤n∧n≤4
 ·left
  obtain ⟨m,rfl⟩ : ∃ m:Nat,n=m:=⟨n.toNat,by omega⟩
  refine ⟨m,rfl,by omega,?_⟩
  unfold yv
  refine Ev.iteF (bF qk5 (fun h2=>h2 h)) (Ev.bindp (a:=List.replicate m ⟨[],0,0⟩) (qsf (by omega)) ?_)
  refine Ev.jn (s:=((m:Int),qag m)) (Ev.loop (B:=fun s77=>qaf (m:Int) (List.replicate m ⟨[],0,0⟩) s77.1 s77.2) (fun s=>∃ i:Nat,i≤m∧s=((i:Int),⟨0,0,yf i,0,List.replicate m ⟨[],0,0⟩⟩)) (fun s=>(m - s.1).toNat) ⟨0,by omega,rfl⟩ ?_) Ev.rfl
  rintro s ⟨i,hi,rfl⟩
  unfold qaf
  dsimp only
  by_cases hc:i<m
  ·rw [if_pos (by simpa using hc)]
   refine .inl ⟨(((i+1:Nat) : Int),⟨0,0,yf (i+1),0,List.replicate m ⟨[],0,0⟩⟩),?_,⟨i+1,by omega,rfl⟩,by dsimp only; omega⟩
   unfold ki
   rw [if_pos (by simp [qdo]; omega),Option.bind_some,qky (by omega),qew]
  ·rw [if_neg (by simpa using hc)]
   obtain rfl:i=m:=by omega
   exact .inr (.inl ⟨_,rfl,rfl⟩)
 ·right
  refine ⟨h,?_⟩
  unfold yv
  exact Ev.iteT (qk5.2 h) Ev.rfl

def qcb:Group→List IsrStep→List Bool→Group × List Bool
 | g,[],d=>(g,d)
 | g,x::q,d=>qcb (qgr g (kt g x)).1 q (d++[(qgr g (kt g x)).2])
theorem qh4 {g:Group}{x:IsrStep}(hg:yb g) : yb (qgr g (kt g x)).1:=by
 cases h:kt g x with
 | none=>exact hg
 | some g'=>exact qh7 hg h
theorem q80 {g:Group}{x:IsrStep} : q4w g (kt g x)=((qgr g (kt g x)).2,(qgr g (kt g x)).1):=by
 cases kt g x <;> rfl
theorem qlj:∀ {l:List IsrStep} {g:Group} {d:List Bool},yb g→yb (qcb g l d).1∧(qcb g l d).2.length=d.length+l.length:=by
 intro l
 induction l with
 | nil=>intro g d hg; exact ⟨hg,rfl⟩
 | cons x l ih =>
  intro g d hg
  obtain ⟨h1,h2⟩:=ih (d:=d++[(qgr g (kt g x)).2]) (qh4 (x:=x) hg)
  exact ⟨h1,by rw [qcb,h2]; simp; omega⟩
theorem q8w {a b:List IsrStep} : ∀ {g:Group} {d:List Bool},qcb g (a++b) d=qcb (qcb g a d).1 b (qcb g a d).2:=by
 induction a with
 | nil=>intro g d; rfl
 | cons x a ih=>intro g d; exact ih
theorem q47 {n:Int}{l:List IsrStep}{g:Group}{b:Bool}(e:Ev (fun k=>yv k n) (g,b))(h:b=false∨100<l.length) : Ev (fun k=>wk k n l) (⟨0,0,[],0,[]⟩,[],false):=by
 unfold wk
 refine Ev.bind e (Ev.iteT ?_ Ev.rfl)
 rcases h with rfl | h
 ·rfl
 ·simp; omega
theorem qq0 {n:Nat}{l:List IsrStep}(h1:2≤n)(h2:n≤4)(e:Ev (fun k=>yv k (n:Int)) (qag n,true))(hl:l.length≤100) : Ev (fun k=>wk k (n:Int) l) ((qcb (qag n) l []).1,(qcb (qag n) l []).2,true):=by
 unfold wk
 refine Ev.bind e (Ev.iteF (by simp; omega) ?_)
 have hgood:=qlj (l:=l) (d:=[]) (qf9 h1 h2)
 refine Ev.jn (s:=((qcb (qag n) l []).2,(qcb (qag n) l []).1)) (qaa (B:=fun k i x (s:List Bool × Group)=>u6 k i x s.1 s.2) (by omega) (fun i q s=>∃ g d,s=(d,g)∧yb g∧d.length+q.length≤100∧qcb g q d=qcb (qag n) l []) ⟨qag n,[],rfl,qf9 h1 h2,by simpa using hl,rfl⟩ (fun i x q s hs => .inl ?_) (fun i s hs=>?_)) ?_
 ·obtain ⟨g,d,rfl,hg,hd,hr⟩:=hs
  refine ⟨(d++[(qgr g (kt g x)).2],(qgr g (kt g x)).1),?_,_,_,rfl,qh4 hg,by simp at hd ⊢; omega,hr⟩
  unfold u6
  refine Ev.bind (qeh hg.nn) (Ev.bind (qqm (x:=x) hg.fit) (Ev.bind (a:=(qgr g (kt g x)).1) ?_ ?_))
  ·cases kt g x with
   | none=>exact Ev.iteF rfl Ev.rfl
   | some g'=>exact Ev.iteT rfl Ev.rfl
  ·unfold qc8 ki
   rw [if_pos (by simp at hd ⊢; omega)]
   exact Ev.rfl
 ·obtain ⟨g,d,rfl,hg,hd,hr⟩:=hs
  rw [←hr]
  rfl
 ·unfold qdc
  exact Ev.bind (qeh hgood.1.nn) Ev.rfl
end Go.Proofs.Ytefgfcalgjmhjaa.X
