/- Commands and plays: one answer. -/
import Derived.Test.YtjloihcijdcpeaaXEL12u
open Go.Proofs.Ytjloihcijdcpeaa.X.Ev renaming bind→g9,iteT→m9,rfl→l8
open List renaming length_cons→a0a,length_nil→a03
open Option renaming bind_some→n9
set_option linter.unusedVariables false
set_option linter.unusedSimpArgs false
namespace Go.Proofs.Ytjloihcijdcpeaa.X
open Go

def qfy:Control:=⟨[],[],0⟩
theorem qlc {c:Control}{x:Command}(h:c.nn≤1048576)(hx:x.InStep.length≤1048576)(hn:¬ (ya c∧ww c.Brokers.length x)) : Ev (fun _=>yk c x) (qfy,0,false):=by
 obtain ⟨g,eg,hg⟩:=qg2 h
 unfold yk
 cases g with
 | false=>exact g9 eg (g9 (a:=true) (m9 rfl l8) (m9 rfl l8))
 | true =>
  have hc:=hg.1 rfl
  obtain ⟨d,ed,hd⟩:=q5o (c:=c) (x:=x) hc.1.1 hx
  cases d with
  | true=>exact absurd ⟨hc,hd.1 rfl⟩ hn
  | false=>exact g9 eg (g9 (a:=true) (Ev.iteF rfl (g9 ed l8)) (m9 rfl l8))
def ub (n:Nat) : Control:=⟨List.replicate n ⟨0,0,true⟩,[],1⟩
theorem qf1 {n:Nat}(h1:1≤n)(h2:n≤6) : ya (ub n)∧(ub n).Brokers.length=n:=by
 refine ⟨⟨⟨⟨by simp [ub]; omega,by simp [ub]; omega⟩,by simp [ub],by simp [ub]⟩,fun b hb=>?_,fun p hp=>by simp [ub] at hp⟩,by simp [ub]⟩
 simp only [ub,List.mem_replicate] at hb
 rw [hb.2]
 exact ⟨by simp,by simp [ub],by simp,by simp,by simp,by simp⟩
theorem qwd {l:List Broker}{b:Broker}(h:l.length≤1000) : kg 24 l [b]=some (l++[b]):=by
 unfold kg
 rw [if_pos (by simp only [a0a,a03]; omega)]
theorem za5 {n:Nat}(h2:n≤6) : Ev (fun _=>qbr (n:Int)) (ub n):=by
 unfold qbr
 simp only [qha]
 refine Ev.jn (s:=ub n) (qac (B:=fun _ i _ s=>uz i s) (by simp; omega) (fun i q s=>i+q.length=n∧s=ub i) ⟨by simp,rfl⟩ (fun i x q s ⟨h1,hs⟩ => .inl ?_) (fun i s ⟨h1,hs⟩=>?_)) l8
 ·subst hs
  simp only [a0a] at h1
  refine ⟨ub (i+1),Ev.of ?_,by omega,rfl⟩
  unfold uz ub
  rw [qwd (by simp; omega),n9,List.replicate_succ']
 ·simp only [a03,Nat.add_zero] at h1
  rw [hs,h1]
theorem ql6 {n:Int} : (∃ m:Nat,n=m∧(1≤m∧m≤6)∧Ev (fun k=>j7 k n) (ub m,true))∨(¬ (1≤n∧n≤6)∧Ev (fun k=>j7 k n) (qfy,false)):=by
 by_cases h:1≤n∧n≤6
 ·left
  obtain ⟨m,rfl⟩ : ∃ m:Nat,n=m:=⟨n.toNat,by omega⟩
  refine ⟨m,rfl,by omega,?_⟩
  unfold j7
  refine Ev.iteF (bF qnq (fun h2=>h2 h)) ?_
  refine Ev.jn (s:=((m:Int),ub m)) (Ev.loop (B:=fun s68=>qab (m:Int) s68.1 s68.2) (fun s=>∃ i:Nat,i≤m∧s=((i:Int),ub i)) (fun s=>(m - s.1).toNat) ⟨0,by omega,rfl⟩ ?_) l8
  rintro s ⟨i,hi,rfl⟩
  unfold qab
  dsimp only
  by_cases hc:i<m
  ·rw [if_pos (by simpa using hc)]
   refine .inl ⟨(((i+1:Nat) : Int),ub (i+1)),?_,⟨i+1,by omega,rfl⟩,by dsimp only; omega⟩
   unfold ub
   rw [qwd (by simp; omega),n9,zdq (by omega),List.replicate_succ']
  ·rw [if_neg (by simpa using hc)]
   obtain rfl:i=m:=by omega
   exact .inr (.inl ⟨_,rfl,rfl⟩)
 ·right
  refine ⟨h,?_⟩
  unfold j7
  exact m9 (qnq.2 h) l8

def qfe:Control→List Command→List Int→Control × List Int
 | c,[],d=>(c,d)
 | c,x::q,d=>qfe (yg c x).1 q (d++[(yg c x).2])
def qgy (n:Nat)(l:List Command) : Prop:=∀ x∈l,ww n x
theorem qwp:∀ {l:List Command} {c:Control} {d:List Int},ya c→qgy c.Brokers.length l→ya (qfe c l d).1∧(qfe c l d).1.Brokers.length=c.Brokers.length∧(qfe c l d).2.length=d.length+l.length:=by
 intro l
 induction l with
 | nil=>intro c d h _; exact ⟨h,rfl,rfl⟩
 | cons x l ih =>
  intro c d h ho
  obtain ⟨g1,g2⟩:=qfx h (ho x (by simp))
  obtain ⟨h1,h2,h3⟩:=ih (d:=d++[(yg c x).2]) g1 (by rw [g2]; exact fun z hz=>ho z (by simp [hz]))
  exact ⟨h1,h2.trans g2,by rw [qfe,h3]; simp; omega⟩
theorem quj {B:Nat→Command→List Int→Control→Option (Oc (List Int × Control) (Control × List Int × Bool))}{n:Nat}{l:List Command}{c0:Control}(hl:l.length≤80)(h0:ya c0)(hn:c0.Brokers.length=n)
  (hB:∀ i x d c,x∈l→ya c→c.Brokers.length=n→d.length≤80→(ww n x→Ev (fun _=>B i x d c) (.nxt (d++[(yg c x).2],(yg c x).1)))∧(¬ ww n x→Ev (fun _=>B i x d c) (.ret (qfy,[],false)))) :
  (qgy n l∧Ev (fun _=>jj (fun i x (s:List Int × Control)=>B i x s.1 s.2) l (([] : List Int),c0)) (.nxt ((qfe c0 l []).2,(qfe c0 l []).1)))∨(¬ qgy n l∧Ev (fun _=>jj (fun i x (s:List Int × Control)=>B i x s.1 s.2) l (([] : List Int),c0)) (.ret (qfy,[],false))):=by
 have key:∀ o,((qgy n l∧o = .nxt ((qfe c0 l []).2,(qfe c0 l []).1))∨(¬ qgy n l∧o = .ret (qfy,[],false)))→Ev (fun _=>jj (fun i x (s:List Int × Control)=>B i x s.1 s.2) l (([] : List Int),c0)) o:=by
  intro o ho
  refine qac (B:=fun _ i x (s:List Int × Control)=>B i x s.1 s.2) (by omega) (fun i q s=>l.drop i=q∧∃ c d,s=(d,c)∧ya c∧c.Brokers.length=n∧d.length+q.length≤80∧qfe c q d=qfe c0 l []∧∀ x∈l.take i,ww n x) ⟨rfl,c0,[],rfl,h0,hn,by simpa using hl,rfl,by simp⟩ (fun i x q s ⟨hq,hs⟩=>?_) (fun i s ⟨hq,hs⟩=>?_)
  ·obtain ⟨c,d,rfl,hc,hcn,hd,hr,hp⟩:=hs
   have hx:l[i]? = some x:=by have:=congrArg (fun z=>z[0]?) hq; simpa using this
   have hxm:=List.mem_of_getElem? hx
   simp only [a0a] at hd
   obtain ⟨b1,b2⟩:=hB i x d c hxm hc hcn (by omega)
   by_cases hcx:ww n x
   ·have hg:=qfx hc (by rw [hcn]; exact hcx)
    refine .inl ⟨_,b1 hcx,by have:=congrArg (List.drop 1) hq; simpa [List.drop_drop] using this,_,_,rfl,hg.1,hg.2.trans hcn,by simp; omega,hr,fun z hz=>?_⟩
    rw [List.take_add_one,hx] at hz
    rcases List.mem_append.1 hz with hz | hz
    ·exact hp z hz
    ·simp at hz
     subst hz
     exact hcx
   ·refine .inr (.inr ⟨_,b2 hcx,?_⟩)
    rcases ho with ⟨h1,_⟩ | ⟨_,h1⟩
    ·exact absurd (h1 x hxm) hcx
    ·exact h1
  ·obtain ⟨c,d,rfl,hc,hcn,hd,hr,hp⟩:=hs
   have hi:l.length≤i:=by have:=congrArg List.length hq; simp at this; omega
   rw [List.take_of_length_le hi] at hp
   rcases ho with ⟨_,h1⟩ | ⟨h1,_⟩
   ·rw [h1,← hr]
    rfl
   ·exact absurd hp h1
 by_cases h:qgy n l
 ·exact .inl ⟨h,key _ (.inl ⟨h,rfl⟩)⟩
 ·exact .inr ⟨h,key _ (.inr ⟨h,rfl⟩)⟩
end Go.Proofs.Ytjloihcijdcpeaa.X
