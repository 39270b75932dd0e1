/- The control: what a command does; what it keeps. -/
import Derived.Test.YtjloihcijdcpeaaXEK
import Derived.Test.YtjloihcijdcpeaaXELAput
open Classical renaming byContradiction→r7
open Int renaming le_refl→a2e
open List renaming getElem?_eq_some_iff→d9,getElem?_mapIdx→a0x,getElem?_set_ne→a0n,getElem?_set_self→a0c,mem_of_getElem?→i8
open Nat renaming le_refl→l7
set_option linter.unusedVariables false
set_option linter.unusedSimpArgs false
namespace Go.Proofs.Ytjloihcijdcpeaa.X
open Go

def brk (B:List Broker)(k:Int) : Broker:=(B[k.toNat]?).getD ⟨0,0,true⟩
def yj (B:List Broker) : List Int→Int
 | [] => -1
 | k::q=>if (brk B k).Fenced=true then yj B q else k
def jy (B:List Broker) : List Broker:=B.map fun b=>⟨b.Epoch,b.Left,decide (b.Left=0)⟩
def jx (B:List Broker)(p:Partition) : Int:=if p.Leader<0∨(brk B p.Leader).Fenced=true then yj B p.InStep else p.Leader
def ky (B:List Broker)(was:Option Int)(p:Partition) : Partition :=
 if was=some (jx B p) then ⟨p.Homes,p.InStep,jx B p,p.Epoch,p.Stamp⟩ else ⟨p.Homes,p.InStep,jx B p,if 0≤jx B p then p.Epoch+1 else p.Epoch,p.Stamp+1⟩
def yc (B:List Broker)(old:List Partition)(l:List Partition) : List Partition:=l.mapIdx fun i p=>ky B (old[i]?.map Partition.Leader) p
def wo (B:List Broker)(p:Partition)(l:List Int) : Bool:=l.any fun k=>(brk B k).Fenced && !decide (k∈p.InStep)
def jh (c:Control)(x:Command) : Int × Control :=
 if x.Kind=1 then (if c.Next=1000 then (4,c) else (0,⟨jy (c.Brokers.set x.Broker.toNat ⟨c.Next,9,false⟩),c.Parts,c.Next+1⟩))
 else if x.Kind=2 then (if (brk c.Brokers x.Broker).Epoch=0 then (1,c) else if (brk c.Brokers x.Broker).Epoch≠x.Epoch then (2,c) else (0,⟨jy (c.Brokers.set x.Broker.toNat ⟨(brk c.Brokers x.Broker).Epoch,9,(brk c.Brokers x.Broker).Fenced⟩),c.Parts,c.Next⟩))
 else if x.Kind=3 then (0,⟨jy (c.Brokers.map fun b=>⟨b.Epoch,if 0<b.Left then b.Left - 1 else b.Left,b.Fenced⟩),c.Parts,c.Next⟩)
 else if x.Kind=4 then (if x.InStep=[]∨c.Parts.length=5 then (4,c) else (0,⟨jy c.Brokers,c.Parts++[⟨x.InStep,x.InStep,-1,0,0⟩],c.Next⟩))
 else (match c.Parts[x.Part.toNat]? with
  | none=>(1,c)
  | some p =>
   if x.Kind=5 then (if x.Epoch≠p.Epoch then (2,c) else if x.Broker≠p.Leader then (3,c) else if x.Stamp≠p.Stamp then (2,c) else if ¬ (∀ k∈x.InStep,k∈p.Homes)∨¬ p.Leader∈x.InStep∨wo c.Brokers p x.InStep=true then (4,c) else (0,⟨jy c.Brokers,c.Parts.set x.Part.toNat ⟨p.Homes,x.InStep,p.Leader,p.Epoch,p.Stamp+1⟩,c.Next⟩))
   else if ¬ x.Broker∈p.InStep∨(brk c.Brokers x.Broker).Fenced=true then (4,c) else (0,⟨jy c.Brokers,c.Parts.set x.Part.toNat ⟨p.Homes,p.InStep,x.Broker,p.Epoch,p.Stamp⟩,c.Next⟩))
def y7 (c o:Control) : Control:=⟨o.Brokers,yc o.Brokers c.Parts o.Parts,o.Next⟩
def qd0 (o:Control) : Bool:=o.Parts.all fun p=>decide (p.Stamp≤1000)&&decide (p.Epoch≤1000)
theorem qo6 {o:Control} : qd0 o=true↔∀ p∈o.Parts,p.Stamp≤1000∧p.Epoch≤1000:=by simp [qd0]
def yg (c:Control)(x:Command) : Control × Int :=
 if (jh c x).1≠0 then (c,(jh c x).1) else if qd0 (y7 c (jh c x).2)=true then (y7 c (jh c x).2,0) else (c,4)

def qhu (next:Int)(b:Broker) : Prop:=0≤b.Epoch∧b.Epoch<next∧0≤b.Left∧b.Left≤9∧b.Fenced=decide (b.Left=0)∧(b.Epoch=0→b.Left=0)
structure PartM (n:Nat) (p:Partition) : Prop where
 h0:p.Homes≠[]
 h1:qak p.Homes n
 i0:p.InStep≠[]
 i1:qak p.InStep n
 sub:∀ z∈p.InStep,z∈p.Homes
 e0:0≤p.Epoch
 s0:0≤p.Stamp
def qii (B:List Broker)(p:Partition) : Prop:=(p.Leader = -1∧yj B p.InStep = -1)∨(p.Leader ≠ -1∧p.Leader∈p.InStep∧(brk B p.Leader).Fenced=false)
def qfr (B:List Broker)(p:Partition) : Prop:=PartM B.length p∧qii B p∧p.Epoch≤1000∧p.Stamp≤1000
def ya (c:Control) : Prop:=((1≤c.Brokers.length∧c.Brokers.length≤6)∧c.Parts.length≤5∧(1≤c.Next∧c.Next≤1000))∧(∀ b∈c.Brokers,qhu c.Next b)∧∀ p∈c.Parts,qfr c.Brokers p
def ww (n:Nat)(x:Command) : Prop:=(0≤x.Broker∧x.Broker<n)∧(0≤x.Epoch∧x.Epoch≤1000)∧(0≤x.Part∧x.Part≤1000)∧(0≤x.Stamp∧x.Stamp≤1000)∧qak x.InStep n ∧
 ((x.Kind=1∧x.Epoch=0∧x.Stamp=0∧x.InStep=[]∧x.Part=0)∨(x.Kind=2∧x.Stamp=0∧x.InStep=[]∧x.Part=0)∨(x.Kind=3∧x.Epoch=0∧x.Stamp=0∧x.InStep=[]∧x.Part=0∧x.Broker=0)∨(x.Kind=4∧x.Epoch=0∧x.Stamp=0∧x.Part=0∧x.Broker=0)∨x.Kind=5∨(x.Kind=6∧x.Epoch=0∧x.Stamp=0∧x.InStep=[]))

theorem qh8 {B:List Broker} : ∀ {l:List Int},(yj B l = -1∧∀ k∈l,(brk B k).Fenced=true∨k = -1)∨(yj B l∈l∧(brk B (yj B l)).Fenced=false):=by
 intro l
 induction l with
 | nil=>left; exact ⟨rfl,by simp⟩
 | cons k q ih =>
  simp only [yj]
  split
  ·rename_i c
   rcases ih with ⟨h1,h2⟩ | ⟨h1,h2⟩
   ·left
    refine ⟨h1,fun z hz=>?_⟩
    rcases List.mem_cons.1 hz with rfl | hz
    ·exact .inl c
    ·exact h2 z hz
   ·right
    exact ⟨List.mem_cons_of_mem _ h1,h2⟩
  ·rename_i c
   right
   exact ⟨by simp,by simpa using c⟩
theorem qht {B:List Broker}{n:Nat}{p:Partition}(h:qak p.InStep n)(hl:p.Leader<0∨p.Leader∈p.InStep) : (jx B p = -1∧yj B p.InStep = -1)∨(0≤jx B p∧jx B p ≠ -1∧jx B p∈p.InStep∧(brk B (jx B p)).Fenced=false):=by
 have hr:=(uu.1 h).2
 unfold jx
 split
 ·rcases qh8 (B:=B) (l:=p.InStep) with ⟨h1,_⟩ | ⟨h1,h2⟩
  ·exact .inl ⟨h1,h1⟩
  ·have:=hr _ h1
   exact .inr ⟨by omega,by omega,h1,h2⟩
 ·rename_i c
  rcases hl with hl | hl
  ·exact absurd (.inl hl) c
  ·have:=hr _ hl
   refine .inr ⟨by omega,by omega,hl,?_⟩
   cases hh:(brk B p.Leader).Fenced
   ·rfl
   ·exact absurd (.inr hh) c
theorem qgq {B:List Broker}{w:Option Int}{p:Partition} : (ky B w p).Homes=p.Homes∧(ky B w p).InStep=p.InStep∧(ky B w p).Leader=jx B p∧p.Epoch≤(ky B w p).Epoch∧p.Stamp≤(ky B w p).Stamp∧(ky B w p).Epoch≤p.Epoch+1∧(ky B w p).Stamp≤p.Stamp+1:=by
 unfold ky
 split
 ·exact ⟨rfl,rfl,rfl,by dsimp only; omega,by dsimp only; omega,by dsimp only; omega,by dsimp only; omega⟩
 ·refine ⟨rfl,rfl,rfl,?_,by dsimp only; omega,?_,by dsimp only; omega⟩ <;> (dsimp only; split <;> omega)
structure Mid (n:Nat) (o:Control) : Prop where
 len:o.Brokers.length=n
 n1:1≤n
 n2:n≤6
 parts:o.Parts.length≤5
 nx1:1≤o.Next
 nx2:o.Next≤1000
 brk:∀ b∈o.Brokers,qhu o.Next b
 part:∀ p∈o.Parts,PartM n p∧(p.Leader<0∨p.Leader∈p.InStep)∧p.Epoch≤1000∧p.Stamp≤1001 ∧ -1≤p.Leader
theorem Mid.out {n:Nat}{c o:Control}(h:Mid n o) : (ya (y7 c o)↔qd0 (y7 c o)=true)∧(y7 c o).Parts.length=o.Parts.length:=by
 have hget:∀ p∈(y7 c o).Parts,PartM n p∧qii o.Brokers p:=by
  intro p hp
  obtain ⟨i,hi⟩:=List.getElem?_of_mem hp
  unfold y7 yc at hi
  rw [a0x] at hi
  cases hq:o.Parts[i]? with
  | none=>rw [hq] at hi; cases hi
  | some q =>
   rw [hq] at hi
   simp only [Option.map_some,Option.some.injEq] at hi
   subst hi
   obtain ⟨a,b,_,_⟩:=h.part q (i8 hq)
   obtain ⟨p1,p2,p3,p4,p5,_,_⟩:=qgq (B:=o.Brokers) (w:=c.Parts[i]?.map Partition.Leader) (p:=q)
   refine ⟨⟨by rw [p1]; exact a.h0,by rw [p1]; exact a.h1,by rw [p2]; exact a.i0,by rw [p2]; exact a.i1,by rw [p1,p2]; exact a.sub,by have:=a.e0; omega,by have:=a.s0; omega⟩,?_⟩
   unfold qii
   rw [p2,p3]
   rcases qht (B:=o.Brokers) a.i1 b with h1 | ⟨_,h2,h3,h4⟩
   ·exact .inl h1
   ·exact .inr ⟨h2,h3,h4⟩
 have hlen:(y7 c o).Parts.length=o.Parts.length:=by unfold y7 yc; simp
 rw [qo6]
 refine ⟨⟨fun hc p hp=>?_,fun hf=>?_⟩,hlen⟩
 ·obtain ⟨_,_,a,b⟩:=hc.2.2 p hp
  exact ⟨b,a⟩
 ·refine ⟨⟨⟨?_,?_⟩,by rw [hlen]; exact h.parts,h.nx1,h.nx2⟩,h.brk,fun p hp=>?_⟩
  ·show 1≤o.Brokers.length; rw [h.len]; exact h.n1
  ·show o.Brokers.length≤6; rw [h.len]; exact h.n2
  ·obtain ⟨a,b⟩:=hget p hp
   have:=hf p hp
   exact ⟨by show PartM o.Brokers.length p; rw [h.len]; exact a,b,this.2,this.1⟩
theorem qla {B:List Broker}{k:Int}(h0:0≤k)(h1:k<B.length) : B[k.toNat]? = some (brk B k):=by
 have:B[k.toNat]? = some (B[k.toNat]'(by omega)):=List.getElem?_eq_getElem _
 unfold brk
 rw [this]
 rfl
theorem qcj {B:List Broker}{nx:Int}(h:∀ b∈B,(0≤b.Epoch∧b.Epoch<nx)∧(0≤b.Left∧b.Left≤9)∧(b.Epoch=0→b.Left=0)) : ∀ b∈jy B,qhu nx b:=by
 intro b hb
 unfold jy at hb
 rw [List.mem_map] at hb
 obtain ⟨a,ha,rfl⟩:=hb
 obtain ⟨h1,h2,h3⟩:=h a ha
 exact ⟨h1.1,h1.2,h2.1,h2.2,rfl,h3⟩
theorem qh3 {α:Type}{l:List α}{i:Nat}{a b:α}(h:b∈l.set i a) : b=a∨b∈l:=by
 rcases List.mem_or_eq_of_mem_set h with h | h
 ·exact .inr h
 ·exact .inl h
theorem qfz {c:Control}{x:Command}(hc:ya c)(hx:ww c.Brokers.length x)(h:(jh c x).1=0) : Mid c.Brokers.length (jh c x).2:=by
 obtain ⟨⟨⟨n1,n2⟩,hp,nx1,nx2⟩,hb,hpt⟩:=hc
 obtain ⟨xb,xe,xp,xs,xi,_⟩:=hx
 have hbrk:∀ b∈c.Brokers,(0≤b.Epoch∧b.Epoch<c.Next)∧(0≤b.Left∧b.Left≤9)∧(b.Epoch=0→b.Left=0):=fun b hm=>by
  obtain ⟨a1,a2,a3,a4,_,a6⟩:=hb b hm
  exact ⟨⟨a1,a2⟩,⟨a3,a4⟩,a6⟩
 have hpart:∀ p∈c.Parts,PartM c.Brokers.length p∧(p.Leader<0∨p.Leader∈p.InStep)∧p.Epoch≤1000∧p.Stamp≤1001 ∧ -1≤p.Leader:=fun p hm=>by
  obtain ⟨a,b,d,e⟩:=hpt p hm
  rcases b with ⟨b,_⟩ | ⟨_,b,_⟩
  ·exact ⟨a,.inl (by omega),d,by omega,by omega⟩
  ·have:=(uu.1 a.i1).2 _ b
   exact ⟨a,.inr b,d,by omega,by omega⟩
 have hrl:∀ B:List Broker,(jy B).length=B.length:=fun B=>by simp [jy]
 have hk:=qla xb.1 xb.2
 have hkm:=i8 hk
 have hkb:=hb _ hkm
 unfold jh at h ⊢
 by_cases d1:x.Kind=1
 ·rw [if_pos d1] at h ⊢
  split at h
  ·cases h
  rename_i c1
  rw [if_neg c1]
  refine ⟨by dsimp only; rw [hrl]; simp,n1,n2,hp,by dsimp only; omega,by dsimp only; omega,qcj (fun b hm=>?_),hpart⟩
  rcases qh3 hm with rfl | hm
  ·exact ⟨⟨by dsimp only; omega,by dsimp only; omega⟩,by simp,fun h0=>by dsimp only at h0; omega⟩
  ·obtain ⟨a1,a2,a3⟩:=hbrk b hm
   exact ⟨⟨a1.1,by dsimp only; omega⟩,a2,a3⟩
 rw [if_neg d1] at h ⊢
 by_cases d2:x.Kind=2
 ·rw [if_pos d2] at h ⊢
  split at h
  ·cases h
  rename_i c1
  rw [if_neg c1]
  split at h
  ·cases h
  rename_i c2
  rw [if_neg c2]
  refine ⟨by dsimp only; rw [hrl]; simp,n1,n2,hp,nx1,nx2,qcj (fun b hm=>?_),hpart⟩
  rcases qh3 hm with rfl | hm
  ·exact ⟨⟨hkb.1,hkb.2.1⟩,by simp,fun h0=>absurd h0 c1⟩
  ·exact hbrk b hm
 rw [if_neg d2] at h ⊢
 by_cases d3:x.Kind=3
 ·rw [if_pos d3] at h ⊢
  refine ⟨by dsimp only; rw [hrl]; simp,n1,n2,hp,nx1,nx2,qcj (fun b hm=>?_),hpart⟩
  rw [List.mem_map] at hm
  obtain ⟨a,ha,rfl⟩:=hm
  obtain ⟨a1,a2,a3⟩:=hbrk a ha
  refine ⟨a1,?_,fun h0=>?_⟩
  ·dsimp only
   split <;> omega
  ·have:=a3 h0
   dsimp only
   split <;> omega
 rw [if_neg d3] at h ⊢
 by_cases d4:x.Kind=4
 ·rw [if_pos d4] at h ⊢
  split at h
  ·cases h
  rename_i c1
  rw [if_neg c1]
  have c2:x.InStep≠[]:=fun h=>c1 (.inl h)
  have c3:c.Parts.length≠5:=fun h=>c1 (.inr h)
  refine ⟨by dsimp only; rw [hrl],n1,n2,by simp; omega,nx1,nx2,qcj hbrk,fun p hm=>?_⟩
  rcases List.mem_append.1 hm with hm | hm
  ·exact hpart p hm
  ·simp only [List.mem_singleton] at hm
   subst hm
   exact ⟨⟨c2,xi,c2,xi,fun z hz=>hz,by simp,by simp⟩,.inl (by simp),by simp,by simp,by simp⟩
 rw [if_neg d4] at h ⊢
 cases hq:c.Parts[x.Part.toNat]? with
 | none=>rw [hq] at h; cases h
 | some p =>
  rw [hq] at h
  dsimp only at h ⊢
  have hpm:=i8 hq
  obtain ⟨a,b,d,e⟩:=hpart p hpm
  obtain ⟨_,_,_,e2⟩:=hpt p hpm
  by_cases d5:x.Kind=5
  ·rw [if_pos d5] at h ⊢
   split at h
   ·cases h
   rename_i c1
   rw [if_neg c1]
   split at h
   ·cases h
   rename_i c2
   rw [if_neg c2]
   split at h
   ·cases h
   rename_i c3
   rw [if_neg c3]
   split at h
   ·cases h
   rename_i c4
   rw [if_neg c4]
   have c5:∀ k∈x.InStep,k∈p.Homes:=r7 fun hn=>c4 (.inl hn)
   have c6:p.Leader∈x.InStep:=r7 fun hn=>c4 (.inr (.inl hn))
   refine ⟨by dsimp only; rw [hrl],n1,n2,by simpa using hp,nx1,nx2,qcj hbrk,fun q hm=>?_⟩
   rcases qh3 hm with rfl | hm
   ·exact ⟨⟨a.h0,a.h1,List.ne_nil_of_mem c6,xi,c5,a.e0,by have:=a.s0; dsimp only; omega⟩,.inr c6,d,by dsimp only; omega,e.2⟩
   ·exact hpart q hm
  ·rw [if_neg d5] at h ⊢
   split at h
   ·cases h
   rename_i c1
   rw [if_neg c1]
   have c2:x.Broker∈p.InStep:=r7 fun hn=>c1 (.inl hn)
   refine ⟨by dsimp only; rw [hrl],n1,n2,by simpa using hp,nx1,nx2,qcj hbrk,fun q hm=>?_⟩
   rcases qh3 hm with rfl | hm
   ·exact ⟨⟨a.h0,a.h1,a.i0,a.i1,a.sub,a.e0,a.s0⟩,.inr c2,d,e.1,by have:=xb.1; dsimp only; omega⟩
   ·exact hpart q hm
theorem qfx {c:Control}{x:Command}(hc:ya c)(hx:ww c.Brokers.length x) : ya (yg c x).1∧(yg c x).1.Brokers.length=c.Brokers.length:=by
 unfold yg
 split
 ·exact ⟨hc,rfl⟩
 ·rename_i h0
  have h0:(jh c x).1=0:=r7 h0
  have hm:=qfz hc hx h0
  split
  ·rename_i hf
   exact ⟨hm.out.1.2 hf,hm.len⟩
  ·exact ⟨hc,rfl⟩
theorem qpk {B:List Broker}{nx:Int}(h:∀ b∈B,qhu nx b) : jy B=B:=by
 unfold jy
 have:∀ b∈B,(⟨b.Epoch,b.Left,decide (b.Left=0)⟩ : Broker)=b:=fun b hb=>by
  have h1:=(h b hb).2.2.2.2.1
  cases b
  simp only at h1
  rw [h1]
 rw [List.map_congr_left this]
 simp
structure PartStep (p q:Partition) : Prop where
 homes:q.Homes=p.Homes
 ep:p.Epoch≤q.Epoch
 st:p.Stamp≤q.Stamp
 lead:0≤q.Leader→q.Leader≠p.Leader→q.Epoch=p.Epoch+1∧q.Leader∈p.InStep
 same:q.Stamp=p.Stamp→q.Leader=p.Leader∧q.InStep=p.InStep
theorem PartStep.refl {p:Partition} : PartStep p p:=⟨rfl,a2e _,a2e _,fun _ h=>absurd rfl h,fun _=>⟨rfl,rfl⟩⟩
structure MidP (B:List Broker) (p m:Partition) : Prop where
 homes:m.Homes=p.Homes
 ep:m.Epoch=p.Epoch
 st:p.Stamp≤m.Stamp
 same:m.Stamp=p.Stamp→m.InStep=p.InStep∧(m.Leader=p.Leader∨m.Leader∈p.InStep)
 alt:m.Stamp≠p.Stamp→jx B m=p.Leader
theorem MidP.refl {B:List Broker}{p:Partition} : MidP B p p:=⟨rfl,rfl,a2e _,fun _=>⟨rfl,.inl rfl⟩,fun h=>absurd rfl h⟩
theorem MidP.step {B:List Broker}{p m:Partition}(h:MidP B p m) : PartStep p (ky B (some p.Leader) m):=by
 obtain ⟨a1,a2,a3,_,_,_,_⟩:=qgq (B:=B) (w:=some p.Leader) (p:=m)
 have hin:m.Stamp=p.Stamp→0≤jx B m→jx B m≠p.Leader→jx B m∈p.InStep:=by
  intro hs h0 hne
  obtain ⟨s1,s2⟩:=h.same hs
  unfold jx at h0 hne ⊢
  split at h0
  ·rename_i c
   rw [if_pos c] at hne ⊢
   rcases qh8 (B:=B) (l:=m.InStep) with ⟨e1,_⟩ | ⟨e1,_⟩
   ·omega
   ·rw [←s1]; exact e1
  ·rename_i c
   rw [if_neg c] at hne ⊢
   exact s2.resolve_left hne
 by_cases hs:m.Stamp=p.Stamp
 ·unfold ky
  by_cases hw:some p.Leader=some (jx B m)
  ·rw [if_pos hw]
   have hw:p.Leader=jx B m:=Option.some.inj hw
   exact ⟨h.homes,by have:=h.ep; dsimp only; omega,by dsimp only; omega,fun _ hne=>absurd hw.symm hne,fun _=>⟨hw.symm,(h.same hs).1⟩⟩
  ·rw [if_neg hw]
   have hw:jx B m≠p.Leader:=fun e=>hw (by rw [e])
   refine ⟨h.homes,?_,by dsimp only; omega,fun h0 hne=>?_,fun e=>by dsimp only at e; omega⟩
   ·have:=h.ep
    dsimp only
    split <;> omega
   ·dsimp only at h0 ⊢
    rw [if_pos h0,h.ep]
    exact ⟨rfl,hin hs h0 hw⟩
 ·have hl:=h.alt hs
  have hst:=h.st
  unfold ky
  rw [if_pos (by rw [hl])]
  exact ⟨h.homes,by have:=h.ep; dsimp only; omega,by dsimp only; omega,fun _ hne=>absurd hl hne,fun e=>absurd e hs⟩
theorem qjy {c:Control}{x:Command}(hc:ya c)(hx:ww c.Brokers.length x)(h:(jh c x).1=0) : c.Parts.length≤(jh c x).2.Parts.length∧∀ (i:Nat) p,c.Parts[i]? = some p→∃ m,(jh c x).2.Parts[i]? = some m∧MidP (jh c x).2.Brokers p m:=by
 have hid:=qpk hc.2.1
 have keep:∀ B:List Broker,∀ n:Int,c.Parts.length≤(Control.mk B c.Parts n).Parts.length∧∀ (i:Nat) p,c.Parts[i]? = some p→∃ m,(Control.mk B c.Parts n).Parts[i]? = some m∧MidP B p m:=fun B n=>⟨l7 _,fun i p hp=>⟨p,hp,MidP.refl⟩⟩
 unfold jh at h ⊢
 by_cases d1:x.Kind=1
 ·rw [if_pos d1] at h ⊢
  split at h
  ·cases h
  rename_i c1
  rw [if_neg c1]
  exact keep _ _
 rw [if_neg d1] at h ⊢
 by_cases d2:x.Kind=2
 ·rw [if_pos d2] at h ⊢
  split at h
  ·cases h
  rename_i c1
  rw [if_neg c1]
  split at h
  ·cases h
  rename_i c2
  rw [if_neg c2]
  exact keep _ _
 rw [if_neg d2] at h ⊢
 by_cases d3:x.Kind=3
 ·rw [if_pos d3] at h ⊢
  exact keep _ _
 rw [if_neg d3] at h ⊢
 by_cases d4:x.Kind=4
 ·rw [if_pos d4] at h ⊢
  split at h
  ·cases h
  rename_i c1
  rw [if_neg c1]
  refine ⟨by simp,fun i p hp=>⟨p,?_,MidP.refl⟩⟩
  dsimp only
  rw [List.getElem?_append_left (d9.1 hp).1]
  exact hp
 rw [if_neg d4] at h ⊢
 cases hq:c.Parts[x.Part.toNat]? with
 | none=>rw [hq] at h; cases h
 | some p0 =>
  rw [hq] at h
  dsimp only at h ⊢
  have hgood:=hc.2.2 p0 (i8 hq)
  have hlt:=(d9.1 hq).1
  by_cases d5:x.Kind=5
  ·rw [if_pos d5] at h ⊢
   split at h
   ·cases h
   rename_i c1
   rw [if_neg c1]
   split at h
   ·cases h
   rename_i c2
   rw [if_neg c2]
   split at h
   ·cases h
   rename_i c3
   rw [if_neg c3]
   split at h
   ·cases h
   rename_i c4
   rw [if_neg c4]
   refine ⟨by simp,fun i p hp=>?_⟩
   by_cases hi:x.Part.toNat=i
   ·subst hi
    rw [hq] at hp
    cases hp
    refine ⟨_,a0c hlt,⟨rfl,rfl,by dsimp only; omega,fun e=>by dsimp only at e; omega,fun _=>?_⟩⟩
    dsimp only
    rw [hid]
    unfold jx
    dsimp only
    have hb:x.Broker=p0.Leader:=r7 c2
    have h0:=hx.1.1
    rw [if_neg]
    rintro (h1 | h1)
    ·omega
    ·rcases hgood.2.1 with ⟨h2,_⟩ | ⟨_,_,h2⟩
     ·omega
     ·rw [h2] at h1; cases h1
   ·exact ⟨p,by dsimp only; rw [a0n hi]; exact hp,MidP.refl⟩
  ·rw [if_neg d5] at h ⊢
   split at h
   ·cases h
   rename_i c1
   rw [if_neg c1]
   have c2:x.Broker∈p0.InStep:=r7 fun hn=>c1 (.inl hn)
   refine ⟨by simp,fun i p hp=>?_⟩
   by_cases hi:x.Part.toNat=i
   ·subst hi
    rw [hq] at hp
    cases hp
    exact ⟨_,a0c hlt,⟨rfl,rfl,a2e _,fun _=>⟨rfl,.inr c2⟩,fun e=>absurd rfl e⟩⟩
   ·exact ⟨p,by dsimp only; rw [a0n hi]; exact hp,MidP.refl⟩
theorem qpi {c:Control}{x:Command}(hc:ya c)(hx:ww c.Brokers.length x) : c.Parts.length≤(yg c x).1.Parts.length∧∀ (i:Nat) p,c.Parts[i]? = some p→∃ q,(yg c x).1.Parts[i]? = some q∧PartStep p q:=by
 have hsame:c.Parts.length≤c.Parts.length∧∀ (i:Nat) p,c.Parts[i]? = some p→∃ q,c.Parts[i]? = some q∧PartStep p q:=⟨l7 _,fun i p hp=>⟨p,hp,PartStep.refl⟩⟩
 unfold yg
 split
 ·exact hsame
 ·rename_i h0
  have h0:(jh c x).1=0:=r7 h0
  have hm:=qfz hc hx h0
  obtain ⟨a1,a2⟩:=qjy hc hx h0
  split
  ·refine ⟨by rw [hm.out.2]; exact a1,fun i p hp=>?_⟩
   obtain ⟨m,hm1,hm2⟩:=a2 i p hp
   refine ⟨ky (jh c x).2.Brokers (some p.Leader) m,?_,hm2.step⟩
   show (yc (jh c x).2.Brokers c.Parts (jh c x).2.Parts)[i]? = _
   unfold yc
   rw [a0x,hm1,hp]
   rfl
  ·exact hsame
theorem qpq {c:Control}{x:Command}(hc:ya c)(hx:ww c.Brokers.length x)(h5:x.Kind=5)(h:(yg c x).2=0) : ∃ p q,c.Parts[x.Part.toNat]? = some p∧(yg c x).1.Parts[x.Part.toNat]? = some q∧p.Leader=x.Broker∧p.Epoch=x.Epoch∧p.Stamp=x.Stamp∧q.InStep=x.InStep∧q.Stamp≠x.Stamp:=by
 have h0:(jh c x).1=0:=by
  unfold yg at h
  split at h
  ·exact h
  ·rename_i h0; exact r7 h0
 obtain ⟨a1,a2⟩:=qjy hc hx h0
 have hm:=qfz hc hx h0
 have hd:(yg c x).1=y7 c (jh c x).2:=by
  unfold yg at h ⊢
  rw [if_neg (fun hh=>hh h0)] at h ⊢
  split at h
  ·rename_i c1; rw [if_pos c1]
  ·cases h
 rw [hd]
 have key:∃ p,c.Parts[x.Part.toNat]? = some p∧p.Leader=x.Broker∧p.Epoch=x.Epoch∧p.Stamp=x.Stamp∧(jh c x).2.Parts[x.Part.toNat]? = some ⟨p.Homes,x.InStep,p.Leader,p.Epoch,p.Stamp+1⟩:=by
  unfold jh at h0 ⊢
  rw [if_neg (by omega),if_neg (by omega),if_neg (by omega),if_neg (by omega)] at h0 ⊢
  cases hq:c.Parts[x.Part.toNat]? with
  | none=>rw [hq] at h0; cases h0
  | some p0 =>
   rw [hq] at h0
   have hlt:=(d9.1 hq).1
   dsimp only at h0 ⊢
   rw [if_pos h5] at h0 ⊢
   split at h0
   ·cases h0
   rename_i c1
   rw [if_neg c1]
   split at h0
   ·cases h0
   rename_i c2
   rw [if_neg c2]
   split at h0
   ·cases h0
   rename_i c3
   rw [if_neg c3]
   split at h0
   ·cases h0
   rename_i c4
   rw [if_neg c4]
   exact ⟨p0,rfl,(r7 c2).symm,(r7 c1).symm,(r7 c3).symm,a0c hlt⟩
 obtain ⟨p,k1,k2,k3,k4,k5⟩:=key
 have hg:(y7 c (jh c x).2).Parts[x.Part.toNat]? = some (ky (jh c x).2.Brokers (some p.Leader) ⟨p.Homes,x.InStep,p.Leader,p.Epoch,p.Stamp+1⟩):=by
  show (yc (jh c x).2.Brokers c.Parts (jh c x).2.Parts)[x.Part.toNat]? = _
  unfold yc
  rw [a0x,k5,k1]
  rfl
 obtain ⟨_,l2,_,_,l5,_,_⟩:=qgq (B:=(jh c x).2.Brokers) (w:=some p.Leader) (p:=⟨p.Homes,x.InStep,p.Leader,p.Epoch,p.Stamp+1⟩)
 refine ⟨p,_,k1,hg,k2,k3,k4,l2,?_⟩
 dsimp only at l5
 omega
theorem q7q {a:Control}{x:Command}(h5:x.Kind=5){q:Partition}(hq:a.Parts[x.Part.toNat]? = some q)(hs:q.Stamp≠x.Stamp) : (yg a x).2≠0:=by
 have h1:(jh a x).1≠0:=by
  unfold jh
  rw [if_neg (by omega),if_neg (by omega),if_neg (by omega),if_neg (by omega),hq]
  dsimp only
  rw [if_pos h5]
  split
  ·exact (by decide:(2:Int)≠0)
  split
  ·exact (by decide:(3:Int)≠0)
  rw [if_pos (Ne.symm hs)]
  exact (by decide:(2:Int)≠0)
 unfold yg
 rw [if_pos h1]
 exact h1
end Go.Proofs.Ytjloihcijdcpeaa.X
