/- A raft: what holds in every play. Logs match, what is committed stays, leaders have it. -/
import Derived.Test.YtanblnjomhgphaaXBLAmeet
import Derived.Test.YtanblnjomhgphaaXBK
open Classical renaming byContradiction→a0u
open Int renaming le_refl→a1c,le_trans→a28,toNat_natCast→a05
open List renaming getElem?_append_left→a0a,getElem?_eq_getElem→s8,getElem?_eq_some_iff→r9,getElem?_of_mem→a1v,getElem?_take_of_lt→a16,length_cons→a0p,length_nil→a1y,length_take→a0f,mem_append→a0w,pairwise_append→a21,prefix_iff_eq_take→a37,prefix_rfl→a10,take_append_of_le_length→a1g,take_prefix→a2h,take_take→a11
open Nat renaming le_refl→a0d,le_trans→a1q,min_eq_left→a1u
set_option linter.unusedVariables false
set_option linter.unusedSimpArgs false
namespace Go.Proofs.Ytanblnjomhgphaa.X
open Go

def je (n:Nat)(k:Int) : Prop:=0≤k∧k<n
def maj (n:Nat)(S:Int→Prop) : Prop:=∃ Q,qak Q n∧n<2*Q.length∧∀ j∈Q,S j
theorem qcy {n:Nat}{S S':Int→Prop}(h:maj n S)(hs:∀ j,je n j→S j→S' j) : maj n S':=by
 obtain ⟨Q,h1,h2,h3⟩:=h
 exact ⟨Q,h1,h2,fun j hj=>hs j ((wl.1 h1).2 j hj) (h3 j hj)⟩
theorem qjq {n:Nat}{S S':Int→Prop}(h:maj n S)(h':maj n S') : ∃ j,je n j∧S j∧S' j:=by
 obtain ⟨Q,h1,h2,h3⟩:=h
 obtain ⟨R,g1,g2,g3⟩:=h'
 obtain ⟨i,a,b⟩:=meet h1 g1 h2 g2
 exact ⟨i,(wl.1 h1).2 i a,h3 i a,g3 i b⟩
def wg (P:Int→Peer)(K:Int)(x:Peer) : Int→Peer:=fun k=>if k=K then x else P k
theorem j0 {P:Int→Peer}{K:Int}{x:Peer} : wg P K x K=x:=if_pos rfl
theorem yp {P:Int→Peer}{K k:Int}{x:Peer}(h:k≠K) : wg P K x k=P k:=if_neg h
def cpl:List Entry→List Entry→Nat
 | x::a,y::b=>if x=y then cpl a b+1 else 0
 | _,_=>0
theorem q0d {a b:List Entry} : cpl a b≤b.length∧b.take (cpl a b) <+: a:=by
 induction a generalizing b with
 | nil=>exact ⟨by simp [cpl],by simp [cpl]⟩
 | cons x a ih =>
  cases b with
  | nil=>exact ⟨by simp [cpl],by simp [cpl]⟩
  | cons y b =>
   by_cases e:x=y
   ·subst e
    simp only [cpl,if_true]
    obtain ⟨h1,h2⟩:=ih (b:=b)
    exact ⟨by simp; exact h1,by simpa using h2⟩
   ·simp only [cpl,if_neg e]
    exact ⟨by simp,by simp⟩
theorem zb7 {a b:List Entry}{m:Nat}(hm:m≤b.length)(h:b.take m <+: a) : m≤cpl a b:=by
 induction a generalizing b m with
 | nil =>
  have:=h.length_le
  rw [a0f] at this
  simp only [a1y] at this
  omega
 | cons x a ih =>
  cases b with
  | nil=>simp at hm; omega
  | cons y b =>
   cases m with
   | zero=>omega
   | succ m =>
    rw [List.take_succ_cons,List.cons_prefix_cons] at h
    obtain ⟨rfl,h⟩:=h
    simp only [cpl,if_true]
    have:=ih (by simpa using hm) h
    omega
theorem qmk {l:List Entry}{a b:Nat}(h:a≤b) : l.take a <+: l.take b:=by
 rw [show l.take a=(l.take b).take a by rw [a11,a1u h]]
 exact a2h _ _
theorem qco {l l':List Entry}(h:l <+: l'){m:Nat}(hm:m≤l.length) : l'.take m=l.take m:=by
 obtain ⟨r,rfl⟩:=h
 exact a1g hm
theorem qdn {l l':List Entry}(h:l <+: l'){i:Nat}{e:Entry}(he:l[i]? = some e) : l'[i]? = some e:=by
 obtain ⟨r,rfl⟩:=h
 rw [a0a (r9.1 he).1]
 exact he
structure Gh where
 El:Int→Prop
 LL:Int→List Entry
 fa:Int→Int→Nat
 ld:Int→Int
abbrev tm (P:Int→Peer)(k:Int) : Int:=(P k).Term
def qf0 (G:Gh)(t:Int)(m:Nat) : Prop:=0<m∧∃ e,(G.LL t)[m - 1]? = some e∧e.Term=t
theorem qf0.len {G:Gh}{t:Int}{m:Nat}(h:qf0 G t m) : m≤(G.LL t).length:=by
 obtain ⟨h0,e,h1,_⟩:=h
 have:=(r9.1 h1).1
 omega
def cho (n:Nat)(P:Int→Peer)(G:Gh)(t:Int)(m:Nat) : Prop:=maj n (fun j=>tm P j≤t∨m≤G.fa t j)
def qct (P:Int→Peer)(G:Gh)(t j:Int)(m:Nat) : Prop:=m=0∨(tm P j=t∧m≤(G.LL t).length∧(G.LL t).take m <+: (P j).Log)∨(t<tm P j∧m≤G.fa t j)
def cqR (n:Nat)(P:Int→Peer)(G:Gh)(t:Int)(m:Nat) : Prop:=maj n (fun j=>qct P G t j m)
theorem cqR.cho {n:Nat}{P:Int→Peer}{G:Gh}{t:Int}{m:Nat}(h:cqR n P G t m)(h0:0<m) : cho n P G t m:=qcy h (fun j _ hj=>by
 rcases hj with q | ⟨q,_⟩ | ⟨_,q⟩
 ·omega
 ·exact .inl (by omega)
 ·exact .inr q)
def qgk (n:Nat)(P:Int→Peer)(G:Gh)(t0:Int)(l:List Entry)(c:Nat) : Prop:=c=0∨∃ t m,G.El t∧t≤t0∧c≤m∧qf0 G t m∧cqR n P G t m∧l.take c=(G.LL t).take c∧c≤l.length
def qhl (l:List Entry) : Prop:=l.Pairwise (fun a b=>a.Term≤b.Term)
structure Core (n:Nat) (P:Int→Peer) (G:Gh) : Prop where
 e0:∀ t,G.El t→0≤t
 el:∀ t,G.El t→maj n (fun j=>t≤tm P j)
 ld:∀ t,G.El t→je n (G.ld t)∧t≤tm P (G.ld t)∧(tm P (G.ld t)=t→(P (G.ld t)).Leads=true)
 lead:∀ k,je n k→(P k).Leads=true→G.El (tm P k)∧G.LL (tm P k)=(P k).Log∧G.ld (tm P k)=k
 lm:∀ k,je n k→∀ i e,(P k).Log[i]? = some e→G.El e.Term∧e.Term≤tm P k∧(P k).Log.take (i+1) <+: G.LL e.Term
 lm':∀ t,G.El t→∀ i e,(G.LL t)[i]? = some e→G.El e.Term∧e.Term≤t∧(G.LL t).take (i+1) <+: G.LL e.Term
 ris:∀ k,je n k→qhl (P k).Log
 ris':∀ t,G.El t→qhl (G.LL t)∧(G.LL t).length≤30
 lc:∀ t t' m,G.El t→G.El t'→t<t'→qf0 G t m→cho n P G t m→(G.LL t).take m <+: G.LL t'
 pl:∀ t m j,G.El t→je n j→qf0 G t m→cho n P G t m→t<tm P j→m≤G.fa t j→(G.LL t).take m <+: (P j).Log
 fab:∀ t j,G.El t→je n j→t<tm P j→G.fa t j≤(G.LL t).length
structure Up (n:Nat) (P:Int→Peer) (G:Gh) (P':Int→Peer) (G':Gh) : Prop where
 el:∀ t,G.El t→G'.El t
 ll:∀ t,G.El t→G.LL t <+: G'.LL t
 ld:∀ t,G.El t→G'.ld t=G.ld t
 ac:∀ t j m,G.El t→je n j→qct P G t j m→qct P' G' t j m
theorem Up.trans {n:Nat}{P P' P'':Int→Peer}{G G' G'':Gh}(h:Up n P G P' G')(h':Up n P' G' P'' G'') : Up n P G P'' G'' :=
 ⟨fun t q=>h'.el t (h.el t q),fun t q=>(h.ll t q).trans (h'.ll t (h.el t q)),fun t q=>(h'.ld t (h.el t q)).trans (h.ld t q),fun t j m q r s=>h'.ac t j m (h.el t q) r (h.ac t j m q r s)⟩
theorem Up.refl {n:Nat}{P:Int→Peer}{G:Gh} : Up n P G P G:=⟨fun _ h=>h,fun _ _=>a10,fun _ _=>rfl,fun _ _ _ _ _ h=>h⟩
theorem Up.pos {n:Nat}{P P':Int→Peer}{G G':Gh}(h:Up n P G P' G'){t:Int}{m:Nat}(ht:G.El t)(hp:qf0 G t m) : qf0 G' t m:=by
 obtain ⟨h0,e,h1,h2⟩:=hp
 exact ⟨h0,e,qdn (h.ll t ht) h1,h2⟩
theorem Up.comm {n:Nat}{P P':Int→Peer}{G G':Gh}(h:Up n P G P' G'){t0 t1:Int}{l l':List Entry}{c:Nat}(hl:l <+: l')(ht:t0≤t1)(hc:qgk n P G t0 l c) : qgk n P' G' t1 l' c:=by
 rcases hc with hc | ⟨t,m,h1,h2,h3,h4,h5,h6,h7⟩
 ·exact .inl hc
 ·have:=h4.len
  refine .inr ⟨t,m,h.el t h1,by omega,h3,h.pos h1 h4,qcy h5 (fun j hj q=>h.ac t j m h1 hj q),?_,a1q h7 hl.length_le⟩
  rw [qco hl h7,h6,qco (h.ll t h1) (by omega)]
theorem ze5 {n:Nat}{P:Int→Peer}{G:Gh}{j t':Int}{y:Peer}(C:Core n P G)(hj:je n j)(ht:tm P j<t')(y1:y.Term=t')(y2:y.Leads=false)(y3:y.Log=(P j).Log) : ∃ G',Core n (wg P j y) G'∧Up n P G (wg P j y) G'∧G'.El=G.El∧G'.LL=G.LL∧G'.ld=G.ld:=by
 obtain ⟨e0,el,ld,lead,lm,lm',ris,ris',lc,pl,fab⟩:=C
 let G':Gh:=⟨G.El,G.LL,fun t i=>if i=j∧tm P j≤t then (if t=tm P j then cpl (P j).Log (G.LL t) else 0) else G.fa t i,G.ld⟩
 have gfa:∀ t i,G'.fa t i=if i=j∧tm P j≤t then (if t=tm P j then cpl (P j).Log (G.LL t) else 0) else G.fa t i:=fun _ _=>rfl
 generalize hM:wg P j y=M
 have mK:M j=y:=by rw [←hM]; exact j0
 have mN:∀ {k},k≠j→M k=P k:=fun hk=>by rw [←hM]; exact yp hk
 have tj:tm M j=t':=by unfold tm; rw [mK,y1]
 have tN:∀ {k},k≠j→tm M k=tm P k:=fun hk=>by unfold tm; rw [mN hk]
 have tle:∀ k,tm P k≤tm M k:=fun k=>by
  by_cases e:k=j
  ·rw [e,tj]; omega
  ·rw [tN e]; exact a1c _
 have lg:∀ k,(M k).Log=(P k).Log:=fun k=>by
  by_cases e:k=j
  ·rw [e,mK,y3]
  ·rw [mN e]
 have chom:∀ t m,cho n M G' t m→cho n P G t m:=fun t m h=>qcy h (fun i _ hi=>by
  rcases hi with q | q
  ·have:=tle i
   exact .inl (by omega)
  ·rw [gfa] at q
   split at q
   ·rename_i e
    rw [e.1]
    exact .inl e.2
   ·exact .inr q)
 refine ⟨G',⟨e0,fun t h=>qcy (el t h) (fun i _ hi=>a28 hi (tle i)),fun t h=>?_,fun k hk hl=>?_,fun k hk i e he=>?_,lm',fun k hk=>by rw [lg]; exact ris k hk,ris',fun t t2 m h1 h2 h3 h4 h5=>lc t t2 m h1 h2 h3 h4 (chom t m h5),fun t m i h1 h2 h3 h4 h5 h6=>?_,fun t i h1 h2 h3=>?_⟩,⟨fun _ h=>h,fun _ _=>a10,fun _ _=>rfl,fun t i m h1 h2 h3=>?_⟩,rfl,rfl,rfl⟩
 ·obtain ⟨a,b,c⟩:=ld t h
  refine ⟨a,a28 b (tle _),fun q=>?_⟩
  by_cases e:G.ld t=j
  ·exfalso
   have q:tm M (G.ld t)=t:=q
   rw [e] at b
   rw [e,tj] at q
   omega
  ·show (M (G.ld t)).Leads=true
   have q:tm M (G.ld t)=t:=q
   rw [tN e] at q
   rw [mN e]
   exact c q
 ·by_cases e:k=j
  ·rw [e,mK,y2] at hl; cases hl
  ·rw [mN e] at hl
   rw [tN e,lg]
   exact lead k hk hl
 ·rw [lg] at he ⊢
  obtain ⟨a,b,c⟩:=lm k hk i e he
  exact ⟨a,a28 b (tle k),c⟩
 ·rw [lg]
  rw [gfa] at h6
  split at h6
  ·rename_i e
   split at h6
   ·rename_i e2
    have hc:=q0d (a:=(P j).Log) (b:=G.LL t)
    rw [e.1]
    exact (qmk h6).trans hc.2
   ·have:=h3.1; omega
  ·rename_i e
   have:t<tm P i:=by
    by_cases e2:i=j
    ·subst e2
     exact Int.not_le.1 (fun q=>e ⟨rfl,q⟩)
    ·rw [tN e2] at h5; exact h5
   exact pl t m i h1 h2 h3 (chom t m h4) this h6
 ·rw [gfa]
  show _≤(G.LL t).length
  split
  ·split
   ·exact q0d.1
   ·omega
  ·rename_i e
   refine fab t i h1 h2 ?_
   by_cases e2:i=j
   ·subst e2
    exact Int.not_le.1 (fun q=>e ⟨rfl,q⟩)
   ·rw [tN e2] at h3; exact h3
 ·rcases h3 with q | ⟨q1,q2,q3⟩ | ⟨q1,q2⟩
  ·exact .inl q
  ·by_cases e:i=j
   ·subst e
    refine .inr (.inr ⟨by rw [tj]; omega,?_⟩)
    rw [gfa,if_pos ⟨rfl,by omega⟩,if_pos q1.symm]
    exact zb7 q2 q3
   ·exact .inr (.inl ⟨by rw [tN e]; exact q1,q2,by rw [lg]; exact q3⟩)
  ·refine .inr (.inr ⟨Int.lt_of_lt_of_le q1 (tle i),?_⟩)
   rw [gfa,if_neg (fun e=>by rw [e.1] at q1; omega)]
   exact q2

def u5 (l:List Entry) : Int:=match l.getLast? with
 | some e=>e.Term
 | none => -1
def upD (a b:List Entry) : Prop:=u5 b<u5 a∨(u5 a=u5 b∧b.length≤a.length)
theorem qh4 {l:List Entry}{i:Nat}{e:Entry}(h:l[i]? = some e) : ∃ f,l[l.length - 1]? = some f∧u5 l=f.Term:=by
 have hi:=(r9.1 h).1
 have hl:l.getLast? = l[l.length - 1]? := List.getLast?_eq_getElem? ..
 have:l[l.length - 1]? = some (l[l.length - 1]'(by omega)):=s8 _
 refine ⟨_,this,?_⟩
 unfold u5
 rw [hl,this]
theorem qo3 {l:List Entry}(h:qhl l){i j:Nat}{a b:Entry}(hij:i≤j)(ha:l[i]? = some a)(hb:l[j]? = some b) : a.Term≤b.Term:=by
 rcases Nat.lt_or_ge i j with q | q
 ·obtain ⟨h1,e1⟩:=r9.1 ha
  obtain ⟨h2,e2⟩:=r9.1 hb
  have:=List.pairwise_iff_getElem.1 h i j h1 h2 q
  rwa [e1,e2] at this
 ·have:i=j:=by omega
  subst this
  rw [ha] at hb
  cases hb
  exact a1c _
theorem zbc {n:Nat}{P:Int→Peer}{G:Gh}{K t':Int}{y:Peer}{V:List Int}(C:Core n P G)(hK:je n K)(hn:¬ G.El t')(ht0:0≤t')(hV:qak V n)(hm:n<2*V.length)(hKt:tm P K=t')(hvt:∀ v∈V,tm P v=t')(hup:∀ v∈V,upD (P K).Log (P v).Log)(h30:(P K).Log.length≤30)(y1:y.Term=t')(y2:y.Leads=true)(y3:y.Log=(P K).Log) : ∃ G',Core n (wg P K y) G'∧Up n P G (wg P K y) G'∧G'.El t'∧G'.ld t'=K:=by
 obtain ⟨e0,el,ld,lead,lm,lm',ris,ris',lc,pl,fab⟩:=C
 let G':Gh:=⟨fun t=>t=t'∨G.El t,fun t=>if t=t' then (P K).Log else G.LL t,fun t i=>if t=t' then 0 else G.fa t i,fun t=>if t=t' then K else G.ld t⟩
 have gL:G'.LL t'=(P K).Log:=if_pos rfl
 have gN:∀ {t},G.El t→G'.LL t=G.LL t:=fun {t} h=>if_neg (fun e=>hn (by rw [←e]; exact h))
 have gfa:∀ {t},G.El t→∀ i,G'.fa t i=G.fa t i:=fun {t} h i=>if_neg (fun e=>hn (by rw [←e]; exact h))
 have gld:∀ {t},G.El t→G'.ld t=G.ld t:=fun {t} h=>if_neg (fun e=>hn (by rw [←e]; exact h))
 have gE:∀ t,G'.El t↔t=t'∨G.El t:=fun _=>Iff.rfl
 have glK:G'.ld t'=K:=if_pos rfl
 have hlt:∀ t,G.El t→t<t':=fun t h=>by
  obtain ⟨j,hj,a,b⟩:=qjq (el t h) (⟨V,hV,hm,hvt⟩ : maj n (fun j=>tm P j=t'))
  have:t≠t':=fun e=>hn (by rw [←e]; exact h)
  omega
 generalize hM:wg P K y=M
 have mK:M K=y:=by rw [←hM]; exact j0
 have mN:∀ {k},k≠K→M k=P k:=fun hk=>by rw [←hM]; exact yp hk
 have tt:∀ k,tm M k=tm P k:=fun k=>by
  by_cases e:k=K
  ·rw [e,hKt]; unfold tm; rw [mK,y1]
  ·unfold tm; rw [mN e]
 have lg:∀ k,(M k).Log=(P k).Log:=fun k=>by
  by_cases e:k=K
  ·rw [e,mK,y3]
  ·rw [mN e]
 have cho1:∀ {t m},G.El t→(cho n M G' t m↔cho n P G t m):=fun {t m} h=>by
  unfold cho
  simp only [tt,gfa h]
 have pos1:∀ {t m},G.El t→(qf0 G' t m↔qf0 G t m):=fun {t m} h=>by
  unfold qf0
  rw [gN h]
 have acc1:∀ {t j m},G.El t→(qct M G' t j m↔qct P G t j m):=fun {t j m} h=>by
  unfold qct
  rw [gN h,gfa h,tt,lg]
 refine ⟨G',⟨fun t h=>h.elim (fun q=>by omega) (e0 t),fun t h=>?_,fun t h=>?_,fun k hk hl=>?_,fun k hk i e he=>?_,fun t h i e he=>?_,fun k hk=>by rw [lg]; exact ris k hk,fun t h=>?_,fun t t2 m h1 h2 h3 h4 h5=>?_,fun t m i h1 h2 h3 h4 h5 h6=>?_,fun t i h1 h2 h3=>?_⟩,⟨fun _ h => .inr h,fun t h=>by rw [gN h]; exact a10,fun t h=>gld h,fun t i m h1 h2 h3=>(acc1 h1).2 h3⟩,.inl rfl,glK⟩
 ·rcases h with e | h
  ·exact ⟨V,hV,hm,fun j hj=>by show t≤tm M j; rw [tt,hvt j hj,e]; exact a1c _⟩
  ·exact qcy (el t h) (fun j _ q=>by show t≤tm M j; rw [tt]; exact q)
 ·rcases h with e | h
  ·subst e
   rw [glK]
   exact ⟨hK,by rw [tt]; omega,fun _=>by rw [mK,y2]⟩
  ·rw [gld h]
   obtain ⟨a,b,c⟩:=ld t h
   refine ⟨a,by rw [tt]; exact b,fun q=>?_⟩
   rw [tt] at q
   by_cases e:G.ld t=K
   ·rw [e,mK,y2]
   ·rw [mN e]; exact c q
 ·rw [tt,lg]
  by_cases e:k=K
  ·subst e
   rw [hKt]
   exact ⟨.inl rfl,gL,glK⟩
  ·rw [mN e] at hl
   obtain ⟨a,b,c⟩:=lead k hk hl
   exact ⟨.inr a,by rw [gN a]; exact b,by rw [gld a]; exact c⟩
 ·rw [lg] at he ⊢
  rw [tt]
  obtain ⟨a,b,c⟩:=lm k hk i e he
  exact ⟨.inr a,b,by rw [gN a]; exact c⟩
 ·rcases h with h | h
  ·subst h
   rw [gL] at he ⊢
   obtain ⟨a,b,c⟩:=lm K hK i e he
   exact ⟨.inr a,by omega,by rw [gN a]; exact c⟩
  ·rw [gN h] at he ⊢
   obtain ⟨a,b,c⟩:=lm' t h i e he
   exact ⟨.inr a,b,by rw [gN a]; exact c⟩
 ·rcases h with h | h
  ·subst h; rw [gL]; exact ⟨ris K hK,h30⟩
  ·rw [gN h]; exact ris' t h
 ·have he1:G.El t:=by
   rcases h1 with h1 | h1
   ·rcases h2 with h2 | h2
    ·omega
    ·have:=hlt t2 h2; omega
   ·exact h1
  rw [pos1 he1] at h4
  rw [cho1 he1] at h5
  rw [gN he1]
  rcases h2 with h2 | h2
  ·subst h2
   rw [gL]
   -- the heart: a voter has it,and the new leader's log is up to date
   obtain ⟨v,hv,⟨c1,hvV⟩⟩:=qjq h5 (⟨V,hV,hm,fun j hj=>hj⟩ : maj n (fun j=>j∈V))
   have hvt':=hvt v hvV
   have hfa:m≤G.fa t v:=by
    rcases c1 with q | q
    ·omega
    ·exact q
   have hpv:=pl t m v he1 hv h4 h5 (by omega) hfa
   obtain ⟨m0,e,hge,hte⟩:=id h4
   have hml:=h4.len
   have hev:(P v).Log[m - 1]? = some e:=qdn hpv (by rw [a16 (by omega)]; exact hge)
   obtain ⟨f,hf,hfl⟩:=qh4 hev
   have hft:t≤f.Term:=by
    have:=qo3 (ris v hv) (i:=m - 1) (j:=(P v).Log.length - 1) (by have:=(r9.1 hev).1; omega) hev hf
    omega
   have hu:=hup v hvV
   have hvlen:m≤(P v).Log.length:=by have:=(r9.1 hev).1; omega
   have hlK:t≤u5 (P K).Log:=by
    rcases hu with q | q <;> omega
   have hne:(P K).Log≠[]:=fun q=>by
    rcases hu with w | w
    ·rw [q,hfl] at w
     have w2:u5 ([] : List Entry) = -1:=rfl
     have:=(lm v hv _ f hf).2.1
     have:=e0 t he1
     omega
    ·rw [q] at w
     have:=w.2
     simp only [a1y] at this
     omega
   obtain ⟨g0,hg0⟩ : ∃ g0,(P K).Log[0]? = some g0:=by
    cases hh:(P K).Log with
    | nil=>exact absurd hh hne
    | cons a q=>exact ⟨a,rfl⟩
   obtain ⟨g,hg,hgl⟩:=qh4 hg0
   obtain ⟨a1,a2,a3⟩:=lm K hK _ g hg
   have hlen1:(P K).Log.length - 1+1=(P K).Log.length:=by
    have:=(r9.1 hg).1
    omega
   rw [hlen1,List.take_length] at a3
   by_cases hs:g.Term=t
   ·-- of the same term
    have hv2:u5 (P v).Log=t:=by rcases hu with q | q <;> omega
    have hlen2:m≤(P K).Log.length:=by
     rcases hu with q | q
     ·omega
     ·omega
    rw [hs] at a3
    have:=qco a3 hlen2
    rw [this]
    exact a2h _ _
   ·have hlc:=lc t g.Term m he1 a1 (by omega) h4 h5
    have hlen2:m≤(P K).Log.length:=by
     apply a0u
     intro q
     have e1:(G.LL g.Term)[(P K).Log.length - 1]? = some g:=qdn a3 hg
     have e2:(G.LL g.Term)[m - 1]? = some e:=qdn hlc (by rw [a16 (by omega)]; exact hge)
     have:=qo3 (ris' g.Term a1).1 (i:=(P K).Log.length - 1) (j:=m - 1) (by omega) e1 e2
     omega
    have e3:(G.LL g.Term).take m=(G.LL t).take m:=by
     have:=qco hlc (m:=m) (by rw [a0f]; omega)
     rwa [a11,Nat.min_self] at this
    have e4:=qco a3 hlen2
    rw [←e3,e4]
    exact a2h _ _
  ·rw [gN h2]
   exact lc t t2 m he1 h2 h3 h4 h5
 ·rcases h1 with h1 | h1
  ·exfalso
   have:G'.fa t i=0:=if_pos h1
   have:=h3.1
   omega
  ·rw [gN h1,lg]
   rw [tt] at h5
   rw [gfa h1] at h6
   exact pl t m i h1 h2 ((pos1 h1).1 h3) ((cho1 h1).1 h4) h5 h6
 ·rcases h1 with h1 | h1
  ·have:G'.fa t i=0:=if_pos h1
   rw [this]
   omega
  ·rw [gN h1,gfa h1]
   rw [tt] at h3
   exact fab t i h1 h2 h3

theorem zdx {n:Nat}{P:Int→Peer}{G:Gh}{K:Int}{y:Peer}{e0':Entry}(C:Core n P G)(hK:je n K)(hl0:(P K).Leads=true)(he0:e0'.Term=tm P K)(h30:(P K).Log.length<30)(y1:y.Term=tm P K)(y2:y.Leads=true)(y3:y.Log=(P K).Log++[e0']) : ∃ G',Core n (wg P K y) G'∧Up n P G (wg P K y) G':=by
 obtain ⟨z0,el,ld,lead,lm,lm',ris,ris',lc,pl,fab⟩:=C
 obtain ⟨k1,k2,k3⟩:=lead K hK hl0
 generalize ht0:tm P K=t0 at *
 let G':Gh:=⟨G.El,fun t=>if t=t0 then y.Log else G.LL t,G.fa,G.ld⟩
 have gK:G'.LL t0=y.Log:=if_pos rfl
 have gN:∀ {t},t≠t0→G'.LL t=G.LL t:=fun h=>if_neg h
 have pyl:(P K).Log <+: y.Log:=by rw [y3]; exact List.prefix_append _ _
 have gle:∀ t,G.LL t <+: G'.LL t:=fun t=>by
  by_cases e:t=t0
  ·rw [e,gK,k2]; exact pyl
  ·rw [gN e]; exact a10
 generalize hM:wg P K y=M
 have mK:M K=y:=by rw [←hM]; exact j0
 have mN:∀ {k},k≠K→M k=P k:=fun hk=>by rw [←hM]; exact yp hk
 have tt:∀ k,tm M k=tm P k:=fun k=>by
  by_cases e:k=K
  ·rw [e,ht0]; unfold tm; rw [mK,y1]
  ·unfold tm; rw [mN e]
 have lds:∀ k,(M k).Leads=(P k).Leads:=fun k=>by
  by_cases e:k=K
  ·rw [e,hl0,mK,y2]
  ·rw [mN e]
 have lg:∀ k,(P k).Log <+: (M k).Log:=fun k=>by
  by_cases e:k=K
  ·rw [e,mK]; exact pyl
  ·rw [mN e]; exact a10
 have chom:∀ {t m},cho n M G' t m→cho n P G t m:=fun {t m} h=>by
  unfold cho at *
  simp only [tt] at h
  exact h
 -- what may still be chosen of a term with a later one was there
 have old:∀ {t t' m},G.El t→G.El t'→t<t'→qf0 G' t m→cho n P G t m→qf0 G t m∧(G'.LL t).take m=(G.LL t).take m:=fun {t t' m} h1 h2 h3 h4 h5=>by
  obtain ⟨j,hj,a,b⟩:=qjq h5 (el t' h2)
  have hle:m≤(G.LL t).length:=by
   rcases a with q | q
   ·omega
   ·exact a1q q (fab t j h1 hj (by omega))
  obtain ⟨m0,e,hge,hte⟩:=h4
  have e2:=qco (gle t) hle
  refine ⟨⟨m0,e,?_,hte⟩,e2⟩
  have:(G.LL t)[m - 1]? = some ((G.LL t)[m - 1]'(by omega)):=s8 _
  rw [qdn (gle t) this] at hge
  rw [this]
  exact hge
 have sn:∀ {l:List Entry} {i:Nat} {e:Entry},(l++[e0'])[i]? = some e→l[i]? = some e∨(i=l.length∧e=e0'):=fun {l i e} h=>by
  by_cases q:i<l.length
  ·rw [a0a q] at h; exact .inl h
  ·rw [List.getElem?_append_right (by omega)] at h
   have:=(r9.1 h).1
   have h0:i - l.length=0:=by simp at this; omega
   rw [h0] at h
   simp at h
   exact .inr ⟨by omega,h.symm⟩
 have whole:∀ i e,y.Log[i]? = some e→G.El e.Term∧e.Term≤t0∧y.Log.take (i+1) <+: G'.LL e.Term:=fun i e h=>by
  rw [y3] at h
  rcases sn h with q | ⟨q1,q2⟩
  ·have hi:=(r9.1 q).1
   obtain ⟨a,b,c⟩:=lm K hK i e q
   refine ⟨a,by omega,?_⟩
   rw [y3,a1g (by omega)]
   exact c.trans (gle _)
  ·subst q2
   rw [he0]
   refine ⟨k1,a1c _,?_⟩
   rw [gK]
   exact a2h _ _
 refine ⟨G',⟨z0,fun t h=>?_,fun t h=>?_,fun k hk hl=>?_,fun k hk i e he=>?_,fun t h i e he=>?_,fun k hk=>?_,fun t h=>?_,fun t t2 m h1 h2 h3 h4 h5=>?_,fun t m i h1 h2 h3 h4 h5 h6=>?_,fun t i h1 h2 h3=>?_⟩,⟨fun _ h=>h,fun t _=>gle t,fun _ _=>rfl,fun t i m h1 h2 h3=>?_⟩⟩
 ·exact qcy (el t h) (fun j _ q=>by show t≤tm M j; rw [tt]; exact q)
 ·obtain ⟨a,b,c⟩:=ld t h
  exact ⟨a,by rw [tt]; exact b,fun q=>by rw [lds]; rw [tt] at q; exact c q⟩
 ·rw [lds] at hl
  rw [tt]
  obtain ⟨a,b,c⟩:=lead k hk hl
  refine ⟨a,?_,c⟩
  by_cases e:k=K
  ·rw [e,ht0,gK,mK]
  ·have:tm P k≠t0:=fun q=>e (by rw [←c,q,k3])
   rw [gN this,mN e]
   exact b
 ·rw [tt]
  by_cases q:k=K
  ·rw [q,mK] at he ⊢
   rw [ht0]
   exact whole i e he
  ·rw [mN q] at he ⊢
   obtain ⟨a,b,c⟩:=lm k hk i e he
   exact ⟨a,b,c.trans (gle _)⟩
 ·by_cases q:t=t0
  ·rw [q,gK] at he ⊢
   exact whole i e he
  ·rw [gN q] at he ⊢
   obtain ⟨a,b,c⟩:=lm' t h i e he
   exact ⟨a,b,c.trans (gle _)⟩
 ·by_cases q:k=K
  ·rw [q,mK,y3]
   refine a21.2 ⟨ris K hK,by simp,fun a ha b hb=>?_⟩
   simp at hb
   subst hb
   obtain ⟨i,hi⟩:=a1v ha
   have:=(lm K hK i a hi).2.1
   omega
  ·rw [mN q]; exact ris k hk
 ·by_cases q:t=t0
  ·rw [q,gK,y3]
   refine ⟨a21.2 ⟨ris K hK,by simp,fun a ha b hb=>?_⟩,by simp; omega⟩
   simp at hb
   subst hb
   obtain ⟨i,hi⟩:=a1v ha
   have:=(lm K hK i a hi).2.1
   omega
  ·rw [gN q]; exact ris' t h
 ·obtain ⟨a,b⟩:=old h1 h2 h3 h4 (chom h5)
  rw [b]
  exact (lc t t2 m h1 h2 h3 a (chom h5)).trans (gle t2)
 ·rw [tt] at h5
  have hle:m≤(G.LL t).length:=a1q h6 (fab t i h1 h2 h5)
  obtain ⟨m0,e,hge,hte⟩:=h3
  have:(G.LL t)[m - 1]? = some ((G.LL t)[m - 1]'(by omega)):=s8 _
  rw [qdn (gle t) this] at hge
  rw [qco (gle t) hle]
  exact (pl t m i h1 h2 ⟨m0,e,by rw [this]; exact hge,hte⟩ (chom h4) h5 h6).trans (lg i)
 ·rw [tt] at h3
  exact a1q (fab t i h1 h2 h3) (gle t).length_le
 ·unfold qct at *
  rw [tt]
  rcases h3 with q | ⟨q1,q2,q3⟩ | q
  ·exact .inl q
  ·exact .inr (.inl ⟨q1,a1q q2 (gle t).length_le,by rw [qco (gle t) q2]; exact q3.trans (lg i)⟩)
  ·exact .inr (.inr q)
theorem q2w {n:Nat}{P:Int→Peer}{G:Gh}{j:Int}{y:Peer}(C:Core n P G)(hj:je n j)(hE:G.El (tm P j))(hl0:(P j).Leads=false)(y1:y.Term=tm P j)(y2:y.Leads=false)(y3:y.Log=(P j).Log∨y.Log <+: G.LL (tm P j))(y4:∀ X,X <+: (P j).Log→X <+: G.LL (tm P j)→X <+: y.Log) : Core n (wg P j y) G∧Up n P G (wg P j y) G∧∀ c,qgk n P G (tm P j) (P j).Log c→qgk n (wg P j y) G (tm P j) y.Log c:=by
 obtain ⟨z0,el,ld,lead,lm,lm',ris,ris',lc,pl,fab⟩:=C
 generalize hM:wg P j y=M
 have mK:M j=y:=by rw [←hM]; exact j0
 have mN:∀ {k},k≠j→M k=P k:=fun hk=>by rw [←hM]; exact yp hk
 have tt:∀ k,tm M k=tm P k:=fun k=>by
  by_cases e:k=j
  ·rw [e]; show (M j).Term=tm P j; rw [mK,y1]
  ·unfold tm; rw [mN e]
 have lds:∀ k,(M k).Leads=(P k).Leads:=fun k=>by
  by_cases e:k=j
  ·rw [e,hl0,mK,y2]
  ·rw [mN e]
 have chom:∀ {t m},cho n M G t m↔cho n P G t m:=fun {t m}=>by
  unfold cho
  simp only [tt]
 have inT:∀ {t m},G.El t→t≤tm P j→qf0 G t m→cho n P G t m→(G.LL t).take m <+: G.LL (tm P j):=fun {t m} h1 h2 h3 h4=>by
  by_cases q:t=tm P j
  ·rw [←q]; exact a2h _ _
  ·exact lc t (tm P j) m h1 hE (by omega) h3 h4
 have acm:∀ t i m,G.El t→je n i→qct P G t i m→qct M G t i m:=fun t i m h1 h2 h3=>by
  unfold qct at *
  rw [tt]
  rcases h3 with q | ⟨q1,q2,q3⟩ | q
  ·exact .inl q
  ·refine .inr (.inl ⟨q1,q2,?_⟩)
   by_cases e:i=j
   ·subst e
    rw [mK]
    exact y4 _ q3 (by rw [q1]; exact a2h _ _)
   ·rw [mN e]; exact q3
  ·exact .inr (.inr q)
 refine ⟨⟨z0,fun t h=>?_,fun t h=>?_,fun k hk hl=>?_,fun k hk i e he=>?_,lm',fun k hk=>?_,ris',fun t t2 m h1 h2 h3 h4 h5=>lc t t2 m h1 h2 h3 h4 (chom.1 h5),fun t m i h1 h2 h3 h4 h5 h6=>?_,fun t i h1 h2 h3=>?_⟩,⟨fun _ h=>h,fun _ _=>a10,fun _ _=>rfl,acm⟩,fun c hc=>?_⟩
 ·exact qcy (el t h) (fun j _ q=>by show t≤tm M j; rw [tt]; exact q)
 ·obtain ⟨a,b,c⟩:=ld t h
  exact ⟨a,by rw [tt]; exact b,fun q=>by rw [lds]; rw [tt] at q; exact c q⟩
 ·rw [lds] at hl
  rw [tt]
  have e:k≠j:=fun q=>by rw [q,hl0] at hl; cases hl
  rw [mN e]
  exact lead k hk hl
 ·rw [tt]
  by_cases q:k=j
  ·rw [q,mK] at he ⊢
   rcases y3 with q3 | q3
   ·rw [q3] at he ⊢
    exact lm j hj i e he
   ·have hi:=(r9.1 he).1
    obtain ⟨a,b,c⟩:=lm' _ hE i e (qdn q3 he)
    refine ⟨a,b,?_⟩
    rwa [qco q3 (by omega)] at c
  ·rw [mN q] at he ⊢
   exact lm k hk i e he
 ·by_cases q:k=j
  ·rw [q,mK]
   rcases y3 with q3 | q3
   ·rw [q3]; exact ris j hj
   ·exact List.Pairwise.sublist q3.sublist (ris' _ hE).1
  ·rw [mN q]; exact ris k hk
 ·rw [tt] at h5
  have h:=pl t m i h1 h2 h3 (chom.1 h4) h5 h6
  by_cases q:i=j
  ·subst q
   rw [mK]
   exact y4 _ h (inT h1 (by omega) h3 (chom.1 h4))
  ·rw [mN q]; exact h
 ·rw [tt] at h3
  exact fab t i h1 h2 h3
 ·rcases hc with hc | ⟨t,m,h1,h2,h3,h4,h5,h6,h7⟩
  ·exact .inl hc
  ·have hX:(P j).Log.take c <+: y.Log:=y4 _ (a2h _ _) (by rw [h6]; exact (qmk h3).trans (inT h1 h2 h4 (h5.cho h4.1)))
   have hl:((P j).Log.take c).length=c:=by rw [a0f]; omega
   refine .inr ⟨t,m,h1,h2,h3,h4,qcy h5 (fun i hi q=>acm t i m h1 hi q),?_,by have:=hX.length_le; omega⟩
   have:=qco hX (m:=c) (by omega)
   rw [this,a11,Nat.min_self,h6]

theorem zex {n:Nat}{P P':Int→Peer}{G:Gh}(C:Core n P G)(h:∀ k,(P' k).Term=(P k).Term∧(P' k).Leads=(P k).Leads∧(P' k).Log=(P k).Log) : Core n P' G∧Up n P G P' G:=by
 have tt:∀ k,tm P' k=tm P k:=fun k=>(h k).1
 have ll:∀ k,(P' k).Leads=(P k).Leads:=fun k=>(h k).2.1
 have lg:∀ k,(P' k).Log=(P k).Log:=fun k=>(h k).2.2
 have chom:∀ {t m},cho n P' G t m↔cho n P G t m:=fun {t m}=>by
  unfold cho
  simp only [tt]
 have acm:∀ {t i m},qct P' G t i m↔qct P G t i m:=fun {t i m}=>by
  unfold qct
  rw [tt,lg]
 obtain ⟨z0,el,ld,lead,lm,lm',ris,ris',lc,pl,fab⟩:=C
 refine ⟨⟨z0,?_,?_,?_,?_,lm',?_,ris',?_,?_,?_⟩,⟨fun _ h=>h,fun _ _=>a10,fun _ _=>rfl,fun t i m _ _=>acm.2⟩⟩
 ·simp only [tt]; exact el
 ·simp only [tt,ll]; exact ld
 ·simp only [tt,ll,lg]; exact lead
 ·simp only [tt,lg]; exact lm
 ·simp only [lg]; exact ris
 ·simp only [chom]; exact lc
 ·simp only [chom,tt,lg]; exact pl
 ·simp only [tt]; exact fab
def mtc (x:Peer)(j:Int) : Nat:=((x.Match[j.toNat]?).getD 0).toNat
structure MailR (n:Nat) (P:Int→Peer) (G:Gh) (m:Mail) : Prop where
 el:G.El m.Term
 fr:je n m.From
 to:je n m.To
 ne:m.From≠m.To
 re:m.Reply=true→G.ld m.Term=m.To∧qct P G m.Term m.From m.Match.toNat∧m.Match.toNat≤(G.LL m.Term).length
 rq:m.Reply=false→G.ld m.Term=m.From∧(0≤m.Prev∧m.Prev.toNat≤(G.LL m.Term).length)∧(m.Prev=0∨∃ e,(G.LL m.Term)[m.Prev.toNat - 1]? = some e∧e.Term=m.PTerm)∧(m.Entry=[]∨∃ e,m.Entry=[e]∧(G.LL m.Term)[m.Prev.toNat]? = some e)∧qgk n P G m.Term (G.LL m.Term) m.Commit.toNat
structure RInv (n:Nat) (P:Int→Peer) (ML:List Mail) (G:Gh) : Prop where
 core:Core n P G
 mt:∀ k,je n k→(P k).Leads=true→∀ j,je n j→qct P G (tm P k) j (mtc (P k) j)
 cm:∀ k,je n k→qgk n P G (tm P k) (P k).Log (P k).Commit.toNat
 ml:∀ m∈ML,MailR n P G m
theorem MailR.up {n:Nat}{P P':Int→Peer}{G G':Gh}{m:Mail}(h:Up n P G P' G')(H:MailR n P G m) : MailR n P' G' m:=by
 obtain ⟨el,fr,to,ne,re,rq⟩:=H
 have hl:=h.ll _ el
 have hld:=h.ld _ el
 refine ⟨h.el _ el,fr,to,ne,fun q=>?_,fun q=>?_⟩
 ·obtain ⟨a,b,c⟩:=re q
  exact ⟨by rw [hld]; exact a,h.ac _ _ _ el fr b,a1q c hl.length_le⟩
 ·obtain ⟨a,⟨b1,b2⟩,c,d,e⟩:=rq q
  refine ⟨by rw [hld]; exact a,⟨b1,a1q b2 hl.length_le⟩,c.imp id (fun ⟨x,x1,x2⟩=>⟨x,qdn hl x1,x2⟩),d.imp id (fun ⟨x,x1,x2⟩=>⟨x,x1,qdn hl x2⟩),h.comm hl (a1c _) e⟩
theorem RInv.mail {n:Nat}{P:Int→Peer}{ML ML':List Mail}{G:Gh}(R:RInv n P ML G)(h:∀ m∈ML',m∈ML∨MailR n P G m) : RInv n P ML' G :=
 ⟨R.core,R.mt,R.cm,fun m hm=>(h m hm).elim (R.ml m) id⟩
theorem qx9 {n:Nat}{P:Int→Peer}{G:Gh}(C:Core n P G){k:Int}(hk:je n k)(h:G.El (tm P k))(hld:G.ld (tm P k)≠k) : (P k).Leads=false:=by
 cases hl:(P k).Leads
 ·rfl
 ·exact absurd (C.lead k hk hl).2.2 hld
theorem RInv.bump {n:Nat}{P:Int→Peer}{ML:List Mail}{G:Gh}{j t':Int}{y:Peer}(R:RInv n P ML G)(hj:je n j)(ht:tm P j<t')(y1:y.Term=t')(y2:y.Leads=false)(y3:y.Log=(P j).Log)(y4:y.Commit=(P j).Commit) : ∃ G',RInv n (wg P j y) ML G'∧G'.El=G.El∧G'.LL=G.LL∧G'.ld=G.ld:=by
 obtain ⟨G',C',U,e1,e2,e3⟩:=ze5 R.core hj ht y1 y2 y3
 refine ⟨G',⟨C',fun k hk hl i hi=>?_,fun k hk=>?_,fun m hm=>(R.ml m hm).up U⟩,e1,e2,e3⟩
 ·by_cases e:k=j
  ·rw [e,j0,y2] at hl; cases hl
  ·rw [show tm (wg P j y) k=tm P k by unfold tm; rw [yp e]]
   rw [yp e] at hl ⊢
   exact U.ac _ _ _ (R.core.lead k hk hl).1 hi (R.mt k hk hl i hi)
 ·by_cases e:k=j
  ·have:=R.cm j hj
   rw [e,show tm (wg P j y) j=t' by unfold tm; rw [j0,y1]]
   rw [j0,y3,y4]
   exact U.comm a10 (by omega) this
  ·rw [show tm (wg P j y) k=tm P k by unfold tm; rw [yp e]]
   rw [yp e]
   exact U.comm a10 (a1c _) (R.cm k hk)
theorem RInv.bumps {n:Nat}{ML:List Mail}{t':Int} : ∀ {W:List Int} {P:Int→Peer} {G:Gh} {f:Int→Peer},RInv n P ML G→W.Nodup→(∀ v∈W,je n v∧tm P v<t')→(∀ v∈W,(f v).Term=t'∧(f v).Leads=false∧(f v).Log=(P v).Log∧(f v).Commit=(P v).Commit)→∃ G',RInv n (fun k=>if k∈W then f k else P k) ML G'∧G'.El=G.El∧G'.LL=G.LL∧G'.ld=G.ld:=by
 intro W
 induction W with
 | nil=>intro P G f R _ _ _; exact ⟨G,by simpa using R,rfl,rfl,rfl⟩
 | cons v W ih =>
  intro P G f R hn hW hf
  rw [List.nodup_cons] at hn
  obtain ⟨a1,a2⟩:=hW v (by simp)
  obtain ⟨b1,b2,b3,b4⟩:=hf v (by simp)
  obtain ⟨G1,R1,c1,c2,c3⟩:=R.bump a1 a2 b1 b2 b3 b4
  have hne:∀ w∈W,w≠v:=fun w hw e=>hn.1 (by rw [←e]; exact hw)
  obtain ⟨G2,R2,d1,d2,d3⟩:=ih (f:=f) R1 hn.2 (fun w hw=>by
   have:=hW w (by simp [hw])
   exact ⟨this.1,by rw [show tm (wg P v (f v)) w=tm P w by unfold tm; rw [yp (hne w hw)]]; exact this.2⟩) (fun w hw=>by
   rw [yp (hne w hw)]
   exact hf w (by simp [hw]))
  refine ⟨G2,?_,d1.trans c1,d2.trans c2,d3.trans c3⟩
  have:(fun k=>if k∈v::W then f k else P k)=(fun k=>if k∈W then f k else wg P v (f v) k):=by
   funext k
   by_cases e:k∈W
   ·rw [if_pos e,if_pos (List.mem_cons_of_mem _ e)]
   ·rw [if_neg e]
    by_cases e2:k=v
    ·subst e2
     rw [if_pos (by simp),j0]
    ·rw [if_neg (by simp [e,e2]),yp e2]
  rw [this]
  exact R2
theorem qrx {l:List Int}{n:Int}(h:qak l n) : l.Nodup:=(wl.1 h).1.imp (fun h=>by omega)
theorem RInv.elect {n:Nat}{P:Int→Peer}{ML:List Mail}{G:Gh}{K t':Int}{V:List Int}{f:Int→Peer}(R:RInv n P ML G)(ht0:0≤t')(hV:qak V n)(hm:n<2*V.length)(hKV:K∈V)(hlt:∀ v∈V,tm P v<t')(hup:∀ v∈V,upD (P K).Log (P v).Log)(h30:(P K).Log.length≤30)
  (hf:∀ v∈V,(f v).Term=t'∧(f v).Leads=decide (v=K)∧(f v).Log=(P v).Log∧(f v).Commit=(P v).Commit) (hfm:∀ j,je n j→mtc (f K) j=if j=K then (P K).Log.length else 0) : ∃ G',RInv n (fun k=>if k∈V then f k else P k) ML G':=by
 have hr:=(wl.1 hV).2
 have hKr:je n K:=hr K hKV
 let g:Int→Peer:=fun v=>⟨(f v).Term,false,(f v).Log,(f v).Commit,(f v).Match⟩
 obtain ⟨G1,R1,c1,c2,c3⟩:=R.bumps (t':=t') (f:=g) (qrx hV) (fun v hv=>⟨hr v hv,hlt v hv⟩) (fun v hv=>⟨(hf v hv).1,rfl,(hf v hv).2.2.1,(hf v hv).2.2.2⟩)
 generalize hP1:(fun k=>if k∈V then g k else P k)=P1 at R1
 have p1:∀ k,P1 k=if k∈V then g k else P k:=fun k=>by rw [←hP1]
 have pv:∀ v∈V,P1 v=g v:=fun v hv=>by rw [p1,if_pos hv]
 have lgv:∀ v∈V,(P1 v).Log=(P v).Log:=fun v hv=>by rw [pv v hv]; exact (hf v hv).2.2.1
 have hnE:¬ G1.El t':=fun h=>by
  rw [c1] at h
  obtain ⟨j,_,a,b⟩:=qjq (R.core.el t' h) (⟨V,hV,hm,fun j hj=>hj⟩ : maj n (fun j=>j∈V))
  have:=hlt j b
  omega
 obtain ⟨G2,C2,U2,e1,e2⟩:=zbc (y:=f K) R1.core hKr hnE ht0 hV hm (by unfold tm; rw [pv K hKV]; exact (hf K hKV).1) (fun v hv=>by unfold tm; rw [pv v hv]; exact (hf v hv).1) (fun v hv=>by rw [lgv K hKV,lgv v hv]; exact hup v hv) (by rw [lgv K hKV]; exact h30) (hf K hKV).1 (by rw [(hf K hKV).2.1]; simp) (by rw [lgv K hKV]; exact (hf K hKV).2.2.1)
 have eP:(fun k=>if k∈V then f k else P k)=wg P1 K (f K):=by
  funext k
  by_cases e:k=K
  ·subst e
   rw [j0,if_pos hKV]
  ·rw [yp e,p1]
   by_cases q:k∈V
   ·rw [if_pos q,if_pos q]
    show f k=⟨(f k).Term,false,(f k).Log,(f k).Commit,(f k).Match⟩
    have:=(hf k q).2.1
    rw [decide_eq_false e] at this
    rw [←this]
   ·rw [if_neg q,if_neg q]
 rw [eP]
 have tK:tm (wg P1 K (f K)) K=t':=by unfold tm; rw [j0]; exact (hf K hKV).1
 have lgK:(wg P1 K (f K) K).Log=(P K).Log:=by rw [j0]; exact (hf K hKV).2.2.1
 refine ⟨G2,C2,fun k hk hl j hj=>?_,fun k hk=>?_,fun m hm=>(R1.ml m hm).up U2⟩
 ·by_cases e:k=K
  ·subst e
   rw [tK,j0,hfm j hj]
   by_cases q:j=k
   ·subst q
    rw [if_pos rfl]
    obtain ⟨a,b,c⟩:=C2.lead j hk hl
    rw [tK,lgK] at b
    refine .inr (.inl ⟨tK,by rw [b]; exact a0d _,?_⟩)
    rw [b,lgK]
    exact a2h _ _
   ·rw [if_neg q]; exact .inl rfl
  ·rw [show tm (wg P1 K (f K)) k=tm P1 k by unfold tm; rw [yp e]]
   rw [yp e] at hl ⊢
   exact U2.ac _ _ _ (R1.core.lead k hk hl).1 hj (R1.mt k hk hl j hj)
 ·by_cases e:k=K
  ·have:=R1.cm K hKr
   rw [show tm P1 K=t' by unfold tm; rw [pv K hKV]; exact (hf K hKV).1,lgv K hKV,show (P1 K).Commit=(P K).Commit by rw [pv K hKV]; exact (hf K hKV).2.2.2] at this
   rw [e,tK,lgK,show (wg P1 K (f K) K).Commit=(P K).Commit by rw [j0]; exact (hf K hKV).2.2.2]
   exact U2.comm a10 (a1c _) this
  ·rw [show tm (wg P1 K (f K)) k=tm P1 k by unfold tm; rw [yp e]]
   rw [yp e]
   exact U2.comm a10 (a1c _) (R1.cm k hk)
theorem RInv.propose {n:Nat}{P:Int→Peer}{ML:List Mail}{G:Gh}{K:Int}{y:Peer}{e:Entry}(R:RInv n P ML G)(hK:je n K)(hl0:(P K).Leads=true)(he:e.Term=tm P K)(h30:(P K).Log.length<30)(y1:y.Term=tm P K)(y2:y.Leads=true)(y3:y.Log=(P K).Log++[e])(y4:y.Commit=(P K).Commit)(y5:∀ j,je n j→mtc y j=if j=K then (P K).Log.length+1 else mtc (P K) j) : ∃ G',RInv n (wg P K y) ML G':=by
 obtain ⟨G',C',U⟩:=zdx R.core hK hl0 he h30 y1 y2 y3
 have tt:∀ k,tm (wg P K y) k=tm P k:=fun k=>by
  unfold tm
  by_cases q:k=K
  ·rw [q,j0,y1]
  ·rw [yp q]
 refine ⟨G',C',fun k hk hl j hj=>?_,fun k hk=>?_,fun m hm=>(R.ml m hm).up U⟩
 ·rw [tt]
  by_cases q:k=K
  ·subst q
   have hE:=(R.core.lead k hk hl0).1
   rw [j0,y5 j hj]
   by_cases w:j=k
   ·subst w
    rw [if_pos rfl]
    obtain ⟨a,b,c⟩:=C'.lead j hk hl
    rw [tt,j0] at b
    refine .inr (.inl ⟨tt j,by rw [b,y3]; simp,?_⟩)
    rw [b,j0]
    exact a2h _ _
   ·rw [if_neg w]
    exact U.ac _ _ _ hE hj (R.mt k hk hl0 j hj)
  ·rw [yp q] at hl ⊢
   exact U.ac _ _ _ (R.core.lead k hk hl).1 hj (R.mt k hk hl j hj)
 ·rw [tt]
  by_cases q:k=K
  ·subst q
   rw [j0,y4]
   exact U.comm (by rw [y3]; exact List.prefix_append _ _) (a1c _) (R.cm k hk)
  ·rw [yp q]
   exact U.comm a10 (a1c _) (R.cm k hk)
theorem RInv.note {n:Nat}{P:Int→Peer}{ML:List Mail}{G:Gh}{K:Int}{y:Peer}(R:RInv n P ML G)(hK:je n K)(y1:y.Term=tm P K)(y2:y.Leads=(P K).Leads)(y3:y.Log=(P K).Log)(y4:(P K).Leads=true→∀ j,je n j→qct P G (tm P K) j (mtc y j))(y5:qgk n P G (tm P K) (P K).Log y.Commit.toNat) : RInv n (wg P K y) ML G:=by
 have hs:∀ k,(wg P K y k).Term=(P k).Term∧(wg P K y k).Leads=(P k).Leads∧(wg P K y k).Log=(P k).Log:=fun k=>by
  by_cases q:k=K
  ·rw [q,j0]; exact ⟨y1,y2,y3⟩
  ·rw [yp q]; exact ⟨rfl,rfl,rfl⟩
 obtain ⟨C',U⟩:=zex R.core hs
 have tt:∀ k,tm (wg P K y) k=tm P k:=fun k=>(hs k).1
 refine ⟨C',fun k hk hl j hj=>?_,fun k hk=>?_,fun m hm=>(R.ml m hm).up U⟩
 ·rw [tt]
  rw [(hs k).2.1] at hl
  have hE:=(R.core.lead k hk hl).1
  by_cases q:k=K
  ·subst q
   rw [j0]
   exact U.ac _ _ _ hE hj (y4 hl j hj)
  ·rw [yp q]
   exact U.ac _ _ _ hE hj (R.mt k hk hl j hj)
 ·rw [tt,(hs k).2.2]
  by_cases q:k=K
  ·subst q
   rw [j0]
   exact U.comm a10 (a1c _) y5
  ·rw [yp q]
   exact U.comm a10 (a1c _) (R.cm k hk)

theorem qct.le {P:Int→Peer}{G:Gh}{t j:Int}{m m':Nat}(h:qct P G t j m)(hm:m'≤m) : qct P G t j m':=by
 rcases h with q | ⟨q1,q2,q3⟩ | ⟨q1,q2⟩
 ·exact .inl (by omega)
 ·exact .inr (.inl ⟨q1,by omega,(qmk hm).trans q3⟩)
 ·exact .inr (.inr ⟨q1,by omega⟩)
theorem qgk.cut {n:Nat}{P:Int→Peer}{G:Gh}{t0:Int}{l l':List Entry}{c c':Nat}(h:qgk n P G t0 l c)(hc:c'≤c)(e:l'.take c'=l.take c')(hl:c'≤l'.length) : qgk n P G t0 l' c':=by
 rcases h with q | ⟨t,m,h1,h2,h3,h4,h5,h6,h7⟩
 ·exact .inl (by omega)
 ·refine .inr ⟨t,m,h1,h2,by omega,h4,h5,?_,hl⟩
  have:=congrArg (List.take c') h6
  rw [a11,a11,a1u hc] at this
  rw [e,this]
def ws (l:List Entry)(p:Nat) : List Entry→List Entry
 | []=>l
 | e::_=>if (l[p]?).map Entry.Term=some e.Term then l else l.take p++[e]
theorem qld {a b c:List Entry}{k:Nat}(ha:a.take k <+: c)(hb:b.take k <+: c)(la:k≤a.length)(lb:k≤b.length) : a.take k=b.take k:=by
 have e1:=a37.1 ha
 have e2:=a37.1 hb
 rw [a0f,a1u la] at e1
 rw [a0f,a1u lb] at e2
 rw [e1,e2]
theorem RInv.append {n:Nat}{P:Int→Peer}{ML:List Mail}{G:Gh}{m:Mail}{y:Peer}(R:RInv n P ML G)(H:MailR n P G m)(hq:m.Reply=false)(ht:tm P m.To=m.Term)(hp1:m.Prev.toNat≤(P m.To).Log.length)(hp2:m.Prev=0∨∃ f,(P m.To).Log[m.Prev.toNat - 1]? = some f∧f.Term=m.PTerm) :
  (P m.To).Leads=false∧m.Entry.length≤1∧(ws (P m.To).Log m.Prev.toNat m.Entry).length≤max (P m.To).Log.length 30∧(P m.To).Commit.toNat≤(ws (P m.To).Log m.Prev.toNat m.Entry).length∧m.Prev.toNat+m.Entry.length≤(ws (P m.To).Log m.Prev.toNat m.Entry).length∧m.Prev.toNat+m.Entry.length≤30 ∧
  (y.Term=m.Term→y.Leads=false→y.Log=ws (P m.To).Log m.Prev.toNat m.Entry→y.Commit.toNat=max (P m.To).Commit.toNat (min m.Commit.toNat (m.Prev.toNat+m.Entry.length))→RInv n (wg P m.To y) (ML++[⟨true,m.To,m.From,m.Term,0,0,[],0,((m.Prev.toNat+m.Entry.length:Nat) : Int)⟩]) G):=by
 obtain ⟨el,fr,to,ne,_,rq⟩:=H
 obtain ⟨r1,⟨r2,r3⟩,r4,r5,r6⟩:=rq hq
 have C:=R.core
 have hlead:(P m.To).Leads=false:=qx9 C to (by rw [ht]; exact el) (by rw [ht,r1]; exact ne)
 generalize hp:m.Prev.toNat=p at *
 generalize hj:m.To=j at *
 generalize hL:G.LL m.Term=LT at *
 have h30:=(C.ris' _ el).2
 rw [hL] at h30
 have hpre:(P j).Log.take p=LT.take p:=by
  by_cases q0:p=0
  ·rw [q0]; simp
  ·have q1:¬ m.Prev=0:=fun q=>q0 (by rw [←hp,q]; rfl)
   obtain ⟨f,f1,f2⟩:=hp2.resolve_left q1
   obtain ⟨e,e1,e2⟩:=r4.resolve_left q1
   have a:=(C.lm j to _ f f1).2.2
   have b:=(C.lm' _ el _ e (by rw [hL]; exact e1)).2.2
   rw [hL] at b
   rw [show p - 1+1=p by omega] at a b
   rw [f2] at a
   rw [e2] at b
   exact qld a b hp1 r3
 -- what the new log is
 have key:(ws (P j).Log p m.Entry=(P j).Log∨ws (P j).Log p m.Entry <+: LT)∧(∀ X,X <+: (P j).Log→X <+: LT→X <+: ws (P j).Log p m.Entry)∧(ws (P j).Log p m.Entry).take (p+m.Entry.length)=LT.take (p+m.Entry.length)∧p+m.Entry.length≤(ws (P j).Log p m.Entry).length∧p+m.Entry.length≤LT.length∧m.Entry.length≤1∧(ws (P j).Log p m.Entry).length≤max (P j).Log.length 30:=by
  rcases r5 with r5 | ⟨e,r5,r7⟩
  ·rw [r5]
   exact ⟨.inl rfl,fun X h _=>h,by simpa [ws] using hpre,by simpa [ws] using hp1,by simpa using r3,by simp,by simp only [ws]; omega⟩
  ·rw [r5]
   have hpl:=(r9.1 r7).1
   have ht1:LT.take (p+1)=LT.take p++[e]:=by rw [List.take_add_one,r7]; rfl
   simp only [ws]
   split
   ·rename_i hc
    obtain ⟨f,f1,f2⟩ : ∃ f,(P j).Log[p]? = some f∧f.Term=e.Term:=by
     cases h:(P j).Log[p]? with
     | none=>rw [h] at hc; cases hc
     | some f=>rw [h] at hc; exact ⟨f,rfl,by simpa using hc⟩
    have hfl:=(r9.1 f1).1
    have a:=(C.lm j to _ f f1).2.2
    have b:=(C.lm' _ el _ e (by rw [hL]; exact r7)).2.2
    rw [hL] at b
    rw [f2] at a
    exact ⟨.inl rfl,fun X h _=>h,qld a b (by simp only [a0p,a1y]; omega) (by simp only [a0p,a1y]; omega),by simp; omega,by simp; omega,by simp,by omega⟩
   ·rename_i hc
    rw [hpre,← ht1]
    refine ⟨.inr (a2h _ _),fun X h1 h2=>?_,?_,by simp; omega,by simp; omega,by simp,by simp; omega⟩
    ·have hX:X.length≤p:=by
      apply a0u
      intro q
      have hx:X[p]? = some (X[p]'(by omega)):=s8 _
      have a:=qdn h1 hx
      have b:=qdn h2 hx
      rw [r7] at b
      rw [a] at hc
      apply hc
      have b:=Option.some.inj b
      rw [←b]
      rfl
     rw [a37.1 h2]
     exact qmk (by omega)
    ·simp [a11]
 obtain ⟨k1,k2,k3,k4,k5,k6,k7⟩:=key
 have hcm:=R.cm j to
 rw [ht] at hcm
 obtain ⟨C',U',cm'⟩:=q2w (y:=⟨m.Term,false,ws (P j).Log p m.Entry,0,[]⟩) C to (by rw [ht]; exact el) hlead ht.symm rfl (by rw [ht,hL]; exact k1) (by rw [ht,hL]; exact k2)
 rw [ht] at cm'
 have hcl:(P j).Commit.toNat≤(ws (P j).Log p m.Entry).length:=by
  rcases cm' _ hcm with q | ⟨_,_,_,_,_,_,_,_,q⟩
  ·omega
  ·exact q
 refine ⟨hlead,k6,k7,hcl,k4,by omega,fun y1 y2 y3 y4=>?_⟩
 obtain ⟨C',U',cm'⟩:=q2w (y:=y) C to (by rw [ht]; exact el) hlead (y1.trans ht.symm) y2 (by rw [ht,hL,y3]; exact k1) (by rw [ht,hL,y3]; exact k2)
 rw [ht] at cm'
 have tt:∀ k,tm (wg P j y) k=tm P k:=fun k=>by
  unfold tm
  by_cases q:k=j
  ·rw [q,j0,y1,← ht]
  ·rw [yp q]
 refine ⟨C',fun k hk hl i hi=>?_,fun k hk=>?_,fun m' hm'=>?_⟩
 ·have q:k≠j:=fun q=>by rw [q,j0,y2] at hl; cases hl
  rw [tt]
  rw [yp q] at hl ⊢
  exact U'.ac _ _ _ (C.lead k hk hl).1 hi (R.mt k hk hl i hi)
 ·rw [tt]
  by_cases q:k=j
  ·subst q
   rw [j0,ht,y4]
   rcases Nat.le_total (P k).Commit.toNat (min m.Commit.toNat (p+m.Entry.length)) with h | h
   ·rw [Nat.max_eq_right h]
    rw [←hL] at r6
    have:=U'.comm a10 (a1c _) r6
    rw [hL] at this
    have hk3:=congrArg (List.take (min m.Commit.toNat (p+m.Entry.length))) k3
    rw [a11,a11,a1u (Nat.min_le_right _ _)] at hk3
    exact this.cut (Nat.min_le_left _ _) (by rw [y3]; exact hk3) (by rw [y3]; omega)
   ·rw [Nat.max_eq_left h]
    exact cm' _ hcm
  ·rw [yp q]
   exact U'.comm a10 (a1c _) (R.cm k hk)
 ·rcases a0w.1 hm' with q | q
  ·exact (R.ml m' q).up U'
  ·rw [List.mem_singleton] at q
   subst q
   refine ⟨el,to,fr,fun q=>ne q.symm,fun _=>⟨r1,?_,by simp only [a05,hL]; omega⟩,fun q=>by cases q⟩
   simp only [a05]
   refine .inr (.inl ⟨(tt j).trans ht,by rw [hL]; omega,?_⟩)
   rw [j0,hL,y3,← k3]
   exact a2h _ _
theorem RInv.answer {n:Nat}{P:Int→Peer}{ML:List Mail}{G:Gh}{m:Mail}{y:Peer}(R:RInv n P ML G)(H:MailR n P G m)(hq:m.Reply=true)(ht:tm P m.To=m.Term)(hl:(P m.To).Leads=true) :
  m.Match.toNat≤(P m.To).Log.length∧(y.Term=m.Term→y.Leads=true→y.Log=(P m.To).Log→y.Commit=(P m.To).Commit→(∀ j,je n j→mtc y j=if j=m.From then m.Match.toNat else mtc (P m.To) j)→RInv n (wg P m.To y) ML G):=by
 obtain ⟨el,fr,to,ne,re,_⟩:=H
 obtain ⟨a,b,c⟩:=re hq
 have hL:=(R.core.lead _ to hl).2.1
 rw [ht] at hL
 refine ⟨by rw [hL] at c; exact c,fun y1 y2 y3 y4 y5=>R.note to (y1.trans ht.symm) (y2.trans hl.symm) y3 (fun _ j hj=>?_) (by rw [y4]; exact R.cm _ to)⟩
 rw [y5 j hj]
 split
 ·rename_i e
  rw [e,ht]
  exact b
 ·exact R.mt _ to hl j hj
theorem RInv.send {n:Nat}{P:Int→Peer}{ML:List Mail}{G:Gh}{K To N:Int}{m:Mail}(R:RInv n P ML G)(hK:je n K)(hT:je n To)(hne:To≠K)(hl:(P K).Leads=true)(hN:0≤N∧N≤(P K).Log.length)(h0:m=⟨false,K,To,tm P K,N,m.PTerm,m.Entry,(P K).Commit,m.Match⟩)(h1:N=0∨∃ e,(P K).Log[N.toNat - 1]? = some e∧e.Term=m.PTerm)(h2:m.Entry=[]∨∃ e,m.Entry=[e]∧(P K).Log[N.toNat]? = some e) : RInv n P (ML++[m]) G:=by
 obtain ⟨a,b,c⟩:=R.core.lead K hK hl
 refine R.mail (fun m' hm'=>(a0w.1 hm').imp id (fun q=>?_))
 simp at q
 subst q
 have e1:m'.From=K:=by rw [h0]
 have e2:m'.To=To:=by rw [h0]
 have e3:m'.Term=tm P K:=by rw [h0]
 have e4:m'.Prev=N:=by rw [h0]
 have e5:m'.Reply=false:=by rw [h0]
 have e6:m'.Commit=(P K).Commit:=by rw [h0]
 refine ⟨by rw [e3]; exact a,by rw [e1]; exact hK,by rw [e2]; exact hT,by rw [e1,e2]; exact fun q=>hne q.symm,fun q=>(by rw [e5] at q; cases q),fun _=>?_⟩
 rw [e1,e3,e4,e6,b]
 exact ⟨c,⟨hN.1,by omega⟩,h1,h2,R.cm K hK⟩
theorem RInv.commit {n:Nat}{P:Int→Peer}{ML:List Mail}{G:Gh}{K N:Int}{y:Peer}{e:Entry}(R:RInv n P ML G)(hK:je n K)(hl:(P K).Leads=true)(hN:0<N∧N≤(P K).Log.length)(he:(P K).Log[N.toNat - 1]? = some e)(ht:e.Term=tm P K)(hm:maj n (fun j=>N.toNat≤mtc (P K) j))(y1:y=⟨tm P K,true,(P K).Log,N,(P K).Match⟩) : RInv n (wg P K y) ML G:=by
 obtain ⟨a,b,c⟩:=R.core.lead K hK hl
 refine R.note hK (by rw [y1]) (by rw [y1,hl]) (by rw [y1]) (fun _ j hj=>?_) ?_
 ·have:=R.mt K hK hl j hj
  rw [y1]
  exact this
 ·rw [y1]
  refine .inr ⟨tm P K,N.toNat,a,a1c _,a0d _,⟨by omega,e,by rw [b]; exact he,ht⟩,qcy hm (fun j hj q=>(R.mt K hK hl j hj).le q),by rw [b],by dsimp only; omega⟩
theorem RInv.init {n:Nat}{P:Int→Peer}(h:∀ k,je n k→(P k).Leads=false∧(P k).Log=[]∧(P k).Commit=0) : RInv n P [] ⟨fun _=>False,fun _=>[],fun _ _=>0,fun _=>0⟩:=by
 refine ⟨⟨fun _ q=>q.elim,fun _ q=>q.elim,fun _ q=>q.elim,fun k hk q=>(by rw [(h k hk).1] at q; cases q),fun k hk i e q=>(by rw [(h k hk).2.1] at q; cases q),fun _ q=>q.elim,fun k hk=>by rw [(h k hk).2.1]; exact List.Pairwise.nil,fun _ q=>q.elim,fun _ _ _ q=>q.elim,fun _ _ _ q=>q.elim,fun _ _ q=>q.elim⟩,fun k hk q=>(by rw [(h k hk).1] at q; cases q),fun k hk=>(by rw [(h k hk).2.2]; exact .inl rfl),by simp⟩
theorem RInv.one {n:Nat}{P:Int→Peer}{ML:List Mail}{G:Gh}{i j:Int}(R:RInv n P ML G)(hi:je n i)(hj:je n j)(h:(P i).Commit.toNat≤(P j).Commit.toNat) : (P i).Log.take (P i).Commit.toNat=(P j).Log.take (P i).Commit.toNat:=by
 have C:=R.core
 rcases R.cm i hi with q | ⟨t,m,a1,a2,a3,a4,a5,a6,a7⟩
 ·rw [q]; simp
 rcases R.cm j hj with q | ⟨s,k,b1,b2,b3,b4,b5,b6,b7⟩
 ·rw [show (P i).Commit.toNat=0 by omega]; simp
 have hb:=congrArg (List.take (P i).Commit.toNat) b6
 rw [a11,a11,a1u h] at hb
 rw [a6,hb]
 have la:=a4.len
 have lb:=b4.len
 rcases Int.lt_trichotomy t s with q | q | q
 ·have hp:=C.lc t s m a1 b1 q a4 (a5.cho a4.1)
  have:=qco hp (m:=(P i).Commit.toNat) (by rw [a0f]; omega)
  rw [this,a11,a1u a3]
 ·rw [q]
 ·have hp:=C.lc s t k b1 a1 q b4 (b5.cho b4.1)
  have:=qco hp (m:=(P i).Commit.toNat) (by rw [a0f]; omega)
  rw [this,a11,a1u (by omega)]
theorem RInv.has {n:Nat}{P:Int→Peer}{ML:List Mail}{G:Gh}{i j:Int}(R:RInv n P ML G)(hi:je n i)(hj:je n j)(hl:(P j).Leads=true)(h:tm P i≤tm P j) : (P i).Commit.toNat≤(P j).Log.length∧(P j).Log.take (P i).Commit.toNat=(P i).Log.take (P i).Commit.toNat:=by
 have C:=R.core
 obtain ⟨c1,c2,c3⟩:=C.lead j hj hl
 rcases R.cm i hi with q | ⟨t,m,a1,a2,a3,a4,a5,a6,a7⟩
 ·rw [q]; simp
 have la:=a4.len
 rw [a6,← c2]
 by_cases q:t=tm P j
 ·rw [q] at la ⊢
  exact ⟨by omega,rfl⟩
 ·have hp:=C.lc t (tm P j) m a1 c1 (by omega) a4 (a5.cho a4.1)
  have hl:=hp.length_le
  rw [a0f] at hl
  refine ⟨by omega,?_⟩
  have:=qco hp (m:=(P i).Commit.toNat) (by rw [a0f]; omega)
  rw [this,a11,a1u a3]
theorem RInv.match {n:Nat}{P:Int→Peer}{ML:List Mail}{G:Gh}{i j:Int}{k:Nat}{a b:Entry}(R:RInv n P ML G)(hi:je n i)(hj:je n j)(ha:(P i).Log[k]? = some a)(hb:(P j).Log[k]? = some b)(h:a.Term=b.Term) : (P i).Log.take (k+1)=(P j).Log.take (k+1):=by
 have h1:=(R.core.lm i hi k a ha).2.2
 have h2:=(R.core.lm j hj k b hb).2.2
 rw [h] at h1
 exact qld h1 h2 (by have:=(r9.1 ha).1; omega) (by have:=(r9.1 hb).1; omega)
theorem RInv.single {n:Nat}{P:Int→Peer}{ML:List Mail}{G:Gh}{i j:Int}(R:RInv n P ML G)(hi:je n i)(hj:je n j)(h1:(P i).Leads=true)(h2:(P j).Leads=true)(h:tm P i=tm P j) : i=j:=by
 have a:=(R.core.lead i hi h1).2.2
 have b:=(R.core.lead j hj h2).2.2
 rw [h,b] at a
 exact a.symm
end Go.Proofs.Ytanblnjomhgphaa.X
