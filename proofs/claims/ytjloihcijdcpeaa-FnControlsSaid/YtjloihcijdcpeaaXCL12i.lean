/- The control: what a command does; what it keeps. -/
import Derived.Test.YtjloihcijdcpeaaXCK
import Derived.Test.YtjloihcijdcpeaaXCLAput
set_option linter.unusedVariables false
set_option linter.unusedSimpArgs false
namespace Go.Proofs.Ytjloihcijdcpeaa.X
open Go

def brk (B:List Broker)(k:Int) : Broker:=(B[k.toNat]?).getD ⟨0,0,true⟩
def kt (B:List Broker) : List Int→Int
 | [] => -1
 | k::q=>if (brk B k).Fenced=true then kt B q else k
def jx (B:List Broker) : List Broker:=B.map fun b=>⟨b.Epoch,b.Left,decide (b.Left=0)⟩
def jp (B:List Broker)(p:Partition) : Int:=if p.Leader<0∨(brk B p.Leader).Fenced=true then kt B p.InStep else p.Leader
def kq (B:List Broker)(was:Option Int)(p:Partition) : Partition :=
 if was=some (jp B p) then ⟨p.Homes,p.InStep,jp B p,p.Epoch,p.Stamp⟩ else ⟨p.Homes,p.InStep,jp B p,if 0≤jp B p then p.Epoch+1 else p.Epoch,p.Stamp+1⟩
def yi (B:List Broker)(old:List Partition)(l:List Partition) : List Partition:=l.mapIdx fun i p=>kq B (old[i]?.map Partition.Leader) p
def yw (B:List Broker)(p:Partition)(l:List Int) : Bool:=l.any fun k=>(brk B k).Fenced && !decide (k∈p.InStep)
def j7 (c:Control)(x:Command) : Int × Control :=
 if x.Kind=1 then (if c.Next=1000 then (4,c) else (0,⟨jx (c.Brokers.set x.Broker.toNat ⟨c.Next,9,false⟩),c.Parts,c.Next+1⟩))
 else if x.Kind=2 then (if (brk c.Brokers x.Broker).Epoch=0 then (1,c) else if (brk c.Brokers x.Broker).Epoch≠x.Epoch then (2,c) else (0,⟨jx (c.Brokers.set x.Broker.toNat ⟨(brk c.Brokers x.Broker).Epoch,9,(brk c.Brokers x.Broker).Fenced⟩),c.Parts,c.Next⟩))
 else if x.Kind=3 then (0,⟨jx (c.Brokers.map fun b=>⟨b.Epoch,if 0<b.Left then b.Left - 1 else b.Left,b.Fenced⟩),c.Parts,c.Next⟩)
 else if x.Kind=4 then (if x.InStep=[]∨c.Parts.length=5 then (4,c) else (0,⟨jx c.Brokers,c.Parts++[⟨x.InStep,x.InStep,-1,0,0⟩],c.Next⟩))
 else (match c.Parts[x.Part.toNat]? with
  | none=>(1,c)
  | some p =>
   if x.Kind=5 then (if x.Epoch≠p.Epoch then (2,c) else if x.Broker≠p.Leader then (3,c) else if x.Stamp≠p.Stamp then (2,c) else if ¬ (∀ k∈x.InStep,k∈p.Homes)∨¬ p.Leader∈x.InStep∨yw c.Brokers p x.InStep=true then (4,c) else (0,⟨jx c.Brokers,c.Parts.set x.Part.toNat ⟨p.Homes,x.InStep,p.Leader,p.Epoch,p.Stamp+1⟩,c.Next⟩))
   else if ¬ x.Broker∈p.InStep∨(brk c.Brokers x.Broker).Fenced=true then (4,c) else (0,⟨jx c.Brokers,c.Parts.set x.Part.toNat ⟨p.Homes,p.InStep,x.Broker,p.Epoch,p.Stamp⟩,c.Next⟩))
def yy (c o:Control) : Control:=⟨o.Brokers,yi o.Brokers c.Parts o.Parts,o.Next⟩
def qdh (o:Control) : Bool:=o.Parts.all fun p=>decide (p.Stamp≤1000)&&decide (p.Epoch≤1000)
theorem qop {o:Control} : qdh o=true↔∀ p∈o.Parts,p.Stamp≤1000∧p.Epoch≤1000:=by simp [qdh]
def qc9 (c:Control)(x:Command) : Control × Int :=
 if (j7 c x).1≠0 then (c,(j7 c x).1) else if qdh (yy c (j7 c x).2)=true then (yy c (j7 c x).2,0) else (c,4)

def qhh (next:Int)(b:Broker) : Prop:=0≤b.Epoch∧b.Epoch<next∧0≤b.Left∧b.Left≤9∧b.Fenced=decide (b.Left=0)∧(b.Epoch=0→b.Left=0)
structure PartM (n:Nat) (p:Partition) : Prop where
 h0:p.Homes≠[]
 h1:uc p.Homes n
 i0:p.InStep≠[]
 i1:uc p.InStep n
 sub:∀ z∈p.InStep,z∈p.Homes
 e0:0≤p.Epoch
 s0:0≤p.Stamp
def qhu (B:List Broker)(p:Partition) : Prop:=(p.Leader = -1∧kt B p.InStep = -1)∨(p.Leader ≠ -1∧p.Leader∈p.InStep∧(brk B p.Leader).Fenced=false)
def qe1 (B:List Broker)(p:Partition) : Prop:=PartM B.length p∧qhu B p∧p.Epoch≤1000∧p.Stamp≤1000
def yq (c:Control) : Prop:=((1≤c.Brokers.length∧c.Brokers.length≤6)∧c.Parts.length≤5∧(1≤c.Next∧c.Next≤1000))∧(∀ b∈c.Brokers,qhh c.Next b)∧∀ p∈c.Parts,qe1 c.Brokers p
def uv (n:Nat)(x:Command) : Prop:=(0≤x.Broker∧x.Broker<n)∧(0≤x.Epoch∧x.Epoch≤1000)∧(0≤x.Part∧x.Part≤1000)∧(0≤x.Stamp∧x.Stamp≤1000)∧uc x.InStep n ∧
 ((x.Kind=1∧x.Epoch=0∧x.Stamp=0∧x.InStep=[]∧x.Part=0)∨(x.Kind=2∧x.Stamp=0∧x.InStep=[]∧x.Part=0)∨(x.Kind=3∧x.Epoch=0∧x.Stamp=0∧x.InStep=[]∧x.Part=0∧x.Broker=0)∨(x.Kind=4∧x.Epoch=0∧x.Stamp=0∧x.Part=0∧x.Broker=0)∨x.Kind=5∨(x.Kind=6∧x.Epoch=0∧x.Stamp=0∧x.InStep=[]))

theorem qfv {B:List Broker} : ∀ {l:List Int},(kt B l = -1∧∀ k∈l,(brk B k).Fenced=true∨k = -1)∨(kt B l∈l∧(brk B (kt B l)).Fenced=false):=by
 intro l
 induction l with
 | nil=>left; exact ⟨rfl,by simp⟩
 | cons k q ih =>
  simp only [kt]
  split
  ·rename_i c
   rcases ih with ⟨h1,h2⟩ | ⟨h1,h2⟩
   ·left
    refine ⟨h1,fun z hz=>?_⟩
    rcases List.mem_cons.1 hz with rfl | hz
    ·exact .inl c
    ·exact h2 z hz
   ·right
    exact ⟨List.mem_cons_of_mem _ h1,h2⟩
  ·rename_i c
   right
   exact ⟨by simp,by simpa using c⟩
theorem qg3 {B:List Broker}{n:Nat}{p:Partition}(h:uc p.InStep n)(hl:p.Leader<0∨p.Leader∈p.InStep) : (jp B p = -1∧kt B p.InStep = -1)∨(0≤jp B p∧jp B p ≠ -1∧jp B p∈p.InStep∧(brk B (jp B p)).Fenced=false):=by
 have hr:=(y6.1 h).2
 unfold jp
 split
 ·rcases qfv (B:=B) (l:=p.InStep) with ⟨h1,_⟩ | ⟨h1,h2⟩
  ·exact .inl ⟨h1,h1⟩
  ·have:=hr _ h1
   exact .inr ⟨by omega,by omega,h1,h2⟩
 ·rename_i c
  rcases hl with hl | hl
  ·exact absurd (.inl hl) c
  ·have:=hr _ hl
   refine .inr ⟨by omega,by omega,hl,?_⟩
   cases hh:(brk B p.Leader).Fenced
   ·rfl
   ·exact absurd (.inr hh) c
theorem qhi {B:List Broker}{w:Option Int}{p:Partition} : (kq B w p).Homes=p.Homes∧(kq B w p).InStep=p.InStep∧(kq B w p).Leader=jp B p∧p.Epoch≤(kq B w p).Epoch∧p.Stamp≤(kq B w p).Stamp∧(kq B w p).Epoch≤p.Epoch+1∧(kq B w p).Stamp≤p.Stamp+1:=by
 unfold kq
 split
 ·exact ⟨rfl,rfl,rfl,by dsimp only; omega,by dsimp only; omega,by dsimp only; omega,by dsimp only; omega⟩
 ·refine ⟨rfl,rfl,rfl,?_,by dsimp only; omega,?_,by dsimp only; omega⟩ <;> (dsimp only; split <;> omega)
structure Mid (n:Nat) (o:Control) : Prop where
 len:o.Brokers.length=n
 n1:1≤n
 n2:n≤6
 parts:o.Parts.length≤5
 nx1:1≤o.Next
 nx2:o.Next≤1000
 brk:∀ b∈o.Brokers,qhh o.Next b
 part:∀ p∈o.Parts,PartM n p∧(p.Leader<0∨p.Leader∈p.InStep)∧p.Epoch≤1000∧p.Stamp≤1001 ∧ -1≤p.Leader
theorem Mid.out {n:Nat}{c o:Control}(h:Mid n o) : (yq (yy c o)↔qdh (yy c o)=true)∧(yy c o).Parts.length=o.Parts.length:=by
 have hget:∀ p∈(yy c o).Parts,PartM n p∧qhu o.Brokers p:=by
  intro p hp
  obtain ⟨i,hi⟩:=List.getElem?_of_mem hp
  unfold yy yi at hi
  rw [List.getElem?_mapIdx] at hi
  cases hq:o.Parts[i]? with
  | none=>rw [hq] at hi; cases hi
  | some q =>
   rw [hq] at hi
   simp only [Option.map_some,Option.some.injEq] at hi
   subst hi
   obtain ⟨a,b,_,_⟩:=h.part q (List.mem_of_getElem? hq)
   obtain ⟨p1,p2,p3,p4,p5,_,_⟩:=qhi (B:=o.Brokers) (w:=c.Parts[i]?.map Partition.Leader) (p:=q)
   refine ⟨⟨by rw [p1]; exact a.h0,by rw [p1]; exact a.h1,by rw [p2]; exact a.i0,by rw [p2]; exact a.i1,by rw [p1,p2]; exact a.sub,by have:=a.e0; omega,by have:=a.s0; omega⟩,?_⟩
   unfold qhu
   rw [p2,p3]
   rcases qg3 (B:=o.Brokers) a.i1 b with h1 | ⟨_,h2,h3,h4⟩
   ·exact .inl h1
   ·exact .inr ⟨h2,h3,h4⟩
 have hlen:(yy c o).Parts.length=o.Parts.length:=by unfold yy yi; simp
 rw [qop]
 refine ⟨⟨fun hc p hp=>?_,fun hf=>?_⟩,hlen⟩
 ·obtain ⟨_,_,a,b⟩:=hc.2.2 p hp
  exact ⟨b,a⟩
 ·refine ⟨⟨⟨?_,?_⟩,by rw [hlen]; exact h.parts,h.nx1,h.nx2⟩,h.brk,fun p hp=>?_⟩
  ·show 1≤o.Brokers.length; rw [h.len]; exact h.n1
  ·show o.Brokers.length≤6; rw [h.len]; exact h.n2
  ·obtain ⟨a,b⟩:=hget p hp
   have:=hf p hp
   exact ⟨by show PartM o.Brokers.length p; rw [h.len]; exact a,b,this.2,this.1⟩
theorem qiy {B:List Broker}{k:Int}(h0:0≤k)(h1:k<B.length) : B[k.toNat]? = some (brk B k):=by
 have:B[k.toNat]? = some (B[k.toNat]'(by omega)):=List.getElem?_eq_getElem _
 unfold brk
 rw [this]
 rfl
theorem qbp {B:List Broker}{nx:Int}(h:∀ b∈B,(0≤b.Epoch∧b.Epoch<nx)∧(0≤b.Left∧b.Left≤9)∧(b.Epoch=0→b.Left=0)) : ∀ b∈jx B,qhh nx b:=by
 intro b hb
 unfold jx at hb
 rw [List.mem_map] at hb
 obtain ⟨a,ha,rfl⟩:=hb
 obtain ⟨h1,h2,h3⟩:=h a ha
 exact ⟨h1.1,h1.2,h2.1,h2.2,rfl,h3⟩
theorem qiv {α:Type}{l:List α}{i:Nat}{a b:α}(h:b∈l.set i a) : b=a∨b∈l:=by
 rcases List.mem_or_eq_of_mem_set h with h | h
 ·exact .inr h
 ·exact .inl h
theorem qid {c:Control}{x:Command}(hc:yq c)(hx:uv c.Brokers.length x)(h:(j7 c x).1=0) : Mid c.Brokers.length (j7 c x).2:=by
 obtain ⟨⟨⟨n1,n2⟩,hp,nx1,nx2⟩,hb,hpt⟩:=hc
 obtain ⟨xb,xe,xp,xs,xi,_⟩:=hx
 have hbrk:∀ b∈c.Brokers,(0≤b.Epoch∧b.Epoch<c.Next)∧(0≤b.Left∧b.Left≤9)∧(b.Epoch=0→b.Left=0):=fun b hm=>by
  obtain ⟨a1,a2,a3,a4,_,a6⟩:=hb b hm
  exact ⟨⟨a1,a2⟩,⟨a3,a4⟩,a6⟩
 have hpart:∀ p∈c.Parts,PartM c.Brokers.length p∧(p.Leader<0∨p.Leader∈p.InStep)∧p.Epoch≤1000∧p.Stamp≤1001 ∧ -1≤p.Leader:=fun p hm=>by
  obtain ⟨a,b,d,e⟩:=hpt p hm
  rcases b with ⟨b,_⟩ | ⟨_,b,_⟩
  ·exact ⟨a,.inl (by omega),d,by omega,by omega⟩
  ·have:=(y6.1 a.i1).2 _ b
   exact ⟨a,.inr b,d,by omega,by omega⟩
 have hrl:∀ B:List Broker,(jx B).length=B.length:=fun B=>by simp [jx]
 have hk:=qiy xb.1 xb.2
 have hkm:=List.mem_of_getElem? hk
 have hkb:=hb _ hkm
 unfold j7 at h ⊢
 by_cases d1:x.Kind=1
 ·rw [if_pos d1] at h ⊢
  split at h
  ·cases h
  rename_i c1
  rw [if_neg c1]
  refine ⟨by dsimp only; rw [hrl]; simp,n1,n2,hp,by dsimp only; omega,by dsimp only; omega,qbp (fun b hm=>?_),hpart⟩
  rcases qiv hm with rfl | hm
  ·exact ⟨⟨by dsimp only; omega,by dsimp only; omega⟩,by simp,fun h0=>by dsimp only at h0; omega⟩
  ·obtain ⟨a1,a2,a3⟩:=hbrk b hm
   exact ⟨⟨a1.1,by dsimp only; omega⟩,a2,a3⟩
 rw [if_neg d1] at h ⊢
 by_cases d2:x.Kind=2
 ·rw [if_pos d2] at h ⊢
  split at h
  ·cases h
  rename_i c1
  rw [if_neg c1]
  split at h
  ·cases h
  rename_i c2
  rw [if_neg c2]
  refine ⟨by dsimp only; rw [hrl]; simp,n1,n2,hp,nx1,nx2,qbp (fun b hm=>?_),hpart⟩
  rcases qiv hm with rfl | hm
  ·exact ⟨⟨hkb.1,hkb.2.1⟩,by simp,fun h0=>absurd h0 c1⟩
  ·exact hbrk b hm
 rw [if_neg d2] at h ⊢
 by_cases d3:x.Kind=3
 ·rw [if_pos d3] at h ⊢
  refine ⟨by dsimp only; rw [hrl]; simp,n1,n2,hp,nx1,nx2,qbp (fun b hm=>?_),hpart⟩
  rw [List.mem_map] at hm
  obtain ⟨a,ha,rfl⟩:=hm
  obtain ⟨a1,a2,a3⟩:=hbrk a ha
  refine ⟨a1,?_,fun h0=>?_⟩
  ·dsimp only
   split <;> omega
  ·have:=a3 h0
   dsimp only
   split <;> omega
 rw [if_neg d3] at h ⊢
 by_cases d4:x.Kind=4
 ·rw [if_pos d4] at h ⊢
  split at h
  ·cases h
  rename_i c1
  rw [if_neg c1]
  have c2:x.InStep≠[]:=fun h=>c1 (.inl h)
  have c3:c.Parts.length≠5:=fun h=>c1 (.inr h)
  refine ⟨by dsimp only; rw [hrl],n1,n2,by simp; omega,nx1,nx2,qbp hbrk,fun p hm=>?_⟩
  rcases List.mem_append.1 hm with hm | hm
  ·exact hpart p hm
  ·simp only [List.mem_singleton] at hm
   subst hm
   exact ⟨⟨c2,xi,c2,xi,fun z hz=>hz,by simp,by simp⟩,.inl (by simp),by simp,by simp,by simp⟩
 rw [if_neg d4] at h ⊢
 cases hq:c.Parts[x.Part.toNat]? with
 | none=>rw [hq] at h; cases h
 | some p =>
  rw [hq] at h
  dsimp only at h ⊢
  have hpm:=List.mem_of_getElem? hq
  obtain ⟨a,b,d,e⟩:=hpart p hpm
  obtain ⟨_,_,_,e2⟩:=hpt p hpm
  by_cases d5:x.Kind=5
  ·rw [if_pos d5] at h ⊢
   split at h
   ·cases h
   rename_i c1
   rw [if_neg c1]
   split at h
   ·cases h
   rename_i c2
   rw [if_neg c2]
   split at h
   ·cases h
   rename_i c3
   rw [if_neg c3]
   split at h
   ·cases h
   rename_i c4
   rw [if_neg c4]
   have c5:∀ k∈x.InStep,k∈p.Homes:=Classical.byContradiction fun hn=>c4 (.inl hn)
   have c6:p.Leader∈x.InStep:=Classical.byContradiction fun hn=>c4 (.inr (.inl hn))
   refine ⟨by dsimp only; rw [hrl],n1,n2,by simpa using hp,nx1,nx2,qbp hbrk,fun q hm=>?_⟩
   rcases qiv hm with rfl | hm
   ·exact ⟨⟨a.h0,a.h1,List.ne_nil_of_mem c6,xi,c5,a.e0,by have:=a.s0; dsimp only; omega⟩,.inr c6,d,by dsimp only; omega,e.2⟩
   ·exact hpart q hm
  ·rw [if_neg d5] at h ⊢
   split at h
   ·cases h
   rename_i c1
   rw [if_neg c1]
   have c2:x.Broker∈p.InStep:=Classical.byContradiction fun hn=>c1 (.inl hn)
   refine ⟨by dsimp only; rw [hrl],n1,n2,by simpa using hp,nx1,nx2,qbp hbrk,fun q hm=>?_⟩
   rcases qiv hm with rfl | hm
   ·exact ⟨⟨a.h0,a.h1,a.i0,a.i1,a.sub,a.e0,a.s0⟩,.inr c2,d,e.1,by have:=xb.1; dsimp only; omega⟩
   ·exact hpart q hm
theorem qiq {c:Control}{x:Command}(hc:yq c)(hx:uv c.Brokers.length x) : yq (qc9 c x).1∧(qc9 c x).1.Brokers.length=c.Brokers.length:=by
 unfold qc9
 split
 ·exact ⟨hc,rfl⟩
 ·rename_i h0
  have h0:(j7 c x).1=0:=Classical.byContradiction h0
  have hm:=qid hc hx h0
  split
  ·rename_i hf
   exact ⟨hm.out.1.2 hf,hm.len⟩
  ·exact ⟨hc,rfl⟩
structure PartStep (p q:Partition) : Prop where
 homes:q.Homes=p.Homes
 ep:p.Epoch≤q.Epoch
 st:p.Stamp≤q.Stamp
 lead:0≤q.Leader→q.Leader≠p.Leader→q.Epoch=p.Epoch+1∧q.Leader∈p.InStep
 same:q.Stamp=p.Stamp→q.Leader=p.Leader∧q.InStep=p.InStep
theorem PartStep.refl {p:Partition} : PartStep p p:=⟨rfl,Int.le_refl _,Int.le_refl _,fun _ h=>absurd rfl h,fun _=>⟨rfl,rfl⟩⟩
structure MidP (B:List Broker) (p m:Partition) : Prop where
 homes:m.Homes=p.Homes
 ep:m.Epoch=p.Epoch
 st:p.Stamp≤m.Stamp
 same:m.Stamp=p.Stamp→m.InStep=p.InStep∧(m.Leader=p.Leader∨m.Leader∈p.InStep)
 alt:m.Stamp≠p.Stamp→jp B m=p.Leader
theorem MidP.refl {B:List Broker}{p:Partition} : MidP B p p:=⟨rfl,rfl,Int.le_refl _,fun _=>⟨rfl,.inl rfl⟩,fun h=>absurd rfl h⟩
theorem MidP.step {B:List Broker}{p m:Partition}(h:MidP B p m) : PartStep p (kq B (some p.Leader) m):=by
 obtain ⟨a1,a2,a3,_,_,_,_⟩:=qhi (B:=B) (w:=some p.Leader) (p:=m)
 have hin:m.Stamp=p.Stamp→0≤jp B m→jp B m≠p.Leader→jp B m∈p.InStep:=by
  intro hs h0 hne
  obtain ⟨s1,s2⟩:=h.same hs
  unfold jp at h0 hne ⊢
  split at h0
  ·rename_i c
   rw [if_pos c] at hne ⊢
   rcases qfv (B:=B) (l:=m.InStep) with ⟨e1,_⟩ | ⟨e1,_⟩
   ·omega
   ·rw [←s1]; exact e1
  ·rename_i c
   rw [if_neg c] at hne ⊢
   exact s2.resolve_left hne
 by_cases hs:m.Stamp=p.Stamp
 ·unfold kq
  by_cases hw:some p.Leader=some (jp B m)
  ·rw [if_pos hw]
   have hw:p.Leader=jp B m:=Option.some.inj hw
   exact ⟨h.homes,by have:=h.ep; dsimp only; omega,by dsimp only; omega,fun _ hne=>absurd hw.symm hne,fun _=>⟨hw.symm,(h.same hs).1⟩⟩
  ·rw [if_neg hw]
   have hw:jp B m≠p.Leader:=fun e=>hw (by rw [e])
   refine ⟨h.homes,?_,by dsimp only; omega,fun h0 hne=>?_,fun e=>by dsimp only at e; omega⟩
   ·have:=h.ep
    dsimp only
    split <;> omega
   ·dsimp only at h0 ⊢
    rw [if_pos h0,h.ep]
    exact ⟨rfl,hin hs h0 hw⟩
 ·have hl:=h.alt hs
  have hst:=h.st
  unfold kq
  rw [if_pos (by rw [hl])]
  exact ⟨h.homes,by have:=h.ep; dsimp only; omega,by dsimp only; omega,fun _ hne=>absurd hl hne,fun e=>absurd e hs⟩
end Go.Proofs.Ytjloihcijdcpeaa.X
