/- What a step of a group keeps. -/
import Derived.Test.YtefgfcalgjmhjaaXEL11s
set_option linter.unusedVariables false
set_option linter.unusedSimpArgs false
namespace Go.Proofs.Ytefgfcalgjmhjaa.X
open Go

theorem qiq {a b:List Row}{n:Nat} : n≤pre a b↔n≤a.length∧n≤b.length∧a.take n=b.take n:=by
 obtain ⟨h1,h2,h3,h4⟩:=CP_pre (a:=a) (b:=b)
 constructor
 ·intro h
  refine ⟨by omega,by omega,?_⟩
  have:=congrArg (List.take n) h3
  rwa [List.take_take,List.take_take,Nat.min_eq_left h] at this
 ·rintro ⟨g1,g2,g3⟩
  rcases Nat.lt_or_ge (pre a b) n with h | h
  ·exfalso
   refine h4 (by omega) (by omega) ?_
   have:=congrArg (fun z=>z[pre a b]?) g3
   simpa [List.getElem?_take_of_lt h] using this
  ·exact h
theorem qjg {a b:List Row}{z:Int}(h0:0≤z) : z≤(pre a b:Int)↔z.toNat≤pre a b:=by omega
theorem qrr {a b c:List Row}{z:Int}(h0:0≤z)(h1:z≤(pre a c:Int))(h2:z≤(pre b c:Int)) : z≤(pre a b:Int):=by
 rw [qjg h0,qiq] at *
 exact ⟨h1.1,h2.1,h1.2.2.trans h2.2.2.symm⟩
theorem qiu {a b:List Row}{r:List Row}{z:Int}(h0:0≤z)(h1:z≤(pre a b:Int)) : z≤(pre a (b++r) : Int):=by
 rw [qjg h0,qiq] at *
 refine ⟨h1.1,by simp; omega,?_⟩
 rw [h1.2.2,List.take_append_of_le_length h1.2.1]
theorem qmm {b:List Row}{m:Nat} : pre (b.take m) b=(b.take m).length:=by
 refine Nat.le_antisymm qb5.1 (qiq.2 ⟨Nat.le_refl _,by simp; omega,?_⟩)
 rw [List.take_length,List.length_take]
 by_cases h:m≤b.length
 ·rw [Nat.min_eq_left h]
 ·rw [Nat.min_eq_right (by omega),List.take_length,List.take_of_length_le (by omega)]
theorem qiv {l:List Row}{n m:Int}(h:qdl l n)(hm:n≤m) : qdl l m:=by
 have:=qik (k:=l.length) h hm
 rwa [List.take_length] at this
theorem qru {l:List Row}{n v:Int}(h:qdl l n)(h0:0≤n)(hv:0≤v∧v≤99)(hl:l.length<30) : qdl (l++[⟨n,v⟩]) n:=by
 refine ⟨fun i x hx=>?_,by simp; omega⟩
 by_cases hi:i<l.length
 ·rw [List.getElem?_append_left hi] at hx
  obtain ⟨a1,a2,a3,a4,a5⟩:=h.1 i x hx
  refine ⟨a1,a2,a3,a4,fun y hp hy=>?_⟩
  rw [List.getElem?_append_left (by omega)] at hy
  exact a5 y hp hy
 ·rw [List.getElem?_append_right (by omega)] at hx
  have:i - l.length=0:=by
   have:=(List.getElem?_eq_some_iff.1 hx).1
   simp at this
   omega
  rw [this] at hx
  simp at hx
  subst hx
  refine ⟨h0,Int.le_refl _,hv.1,hv.2,fun y hp hy=>?_⟩
  rw [List.getElem?_append_left (by omega)] at hy
  exact (h.1 _ y hy).2.1
theorem qel {l:List Int}{n:Int} : qe1 l n↔l.Pairwise (· < ·)∧∀ x∈l,0≤x∧x<n:=by
 constructor
 ·intro h
  refine ⟨qgt h,fun x hx=>?_⟩
  obtain ⟨i,hi⟩:=List.getElem?_of_mem hx
  exact ⟨(h i x hi).1,(h i x hi).2.1⟩
 ·rintro ⟨h1,h2⟩ i x hx
  refine ⟨(h2 x (List.mem_of_getElem? hx)).1,(h2 x (List.mem_of_getElem? hx)).2,fun y hp hy=>?_⟩
  rw [List.pairwise_iff_getElem] at h1
  obtain ⟨a,rfl⟩:=List.getElem?_eq_some_iff.1 hx
  obtain ⟨b,rfl⟩:=List.getElem?_eq_some_iff.1 hy
  exact h1 _ _ b a (by omega)
theorem qhv {l:List Int}{v z:Int} : z∈qfq l v↔z=v∨z∈l:=by
 unfold qfq
 simp only [List.mem_append,List.mem_filter,List.mem_cons,decide_eq_true_eq]
 constructor
 ·rintro (⟨h,_⟩ | h | ⟨h,_⟩)
  ·exact .inr h
  ·exact .inl h
  ·exact .inr h
 ·rintro (h | h)
  ·exact .inr (.inl h)
  ·by_cases hz:z<v
   ·exact .inl ⟨h,hz⟩
   ·exact .inr (.inr ⟨h,by omega⟩)
theorem qrg {l:List Int}{v:Int}(h:l.Pairwise (· < ·))(hv:¬ v∈l) : (qfq l v).Pairwise (· < ·):=by
 unfold qfq
 rw [List.pairwise_append]
 refine ⟨h.sublist List.filter_sublist,?_,?_⟩
 ·rw [List.pairwise_cons]
  refine ⟨fun z hz=>?_,h.sublist List.filter_sublist⟩
  rw [List.mem_filter] at hz
  have h1:v≤z:=by simpa using hz.2
  have:z≠v:=fun e=>hv (e▸hz.1)
  omega
 ·intro a ha b hb
  rw [List.mem_filter] at ha
  have h1:a<v:=by simpa using ha.2
  rcases List.mem_cons.1 hb with rfl | hb
  ·exact h1
  ·rw [List.mem_filter] at hb
   have h2:v≤b:=by simpa using hb.2
   omega
theorem qj2 {g:Group}{k:Int}{y x:Replica}{i:Nat}(h0:0≤k)(hx:(g.Replicas.set k.toNat y)[i]? = some x) : ((i:Int)=k∧x=y)∨((i:Int)≠k∧g.Replicas[i]? = some x):=by
 by_cases e:k.toNat=i
 ·left
  subst e
  have hlt:k.toNat<g.Replicas.length:=by
   have:=(List.getElem?_eq_some_iff.1 hx).1
   simpa using this
  rw [List.getElem?_set_self hlt] at hx
  exact ⟨by omega,(Option.some.inj hx).symm⟩
 ·right
  rw [List.getElem?_set_ne e] at hx
  exact ⟨by omega,hx⟩
theorem qs3 {f:Int→Int} : ∀ {l:List Int} {m:Int},l.foldl (fun m k=>mnI m (f k)) m≤m∧∀ k∈l,l.foldl (fun m k=>mnI m (f k)) m≤f k:=by
 intro l
 induction l with
 | nil=>intro m; exact ⟨Int.le_refl _,by simp⟩
 | cons a l ih =>
  intro m
  obtain ⟨h1,h2⟩:=ih (m:=mnI m (f a))
  have h3:mnI m (f a)≤m∧mnI m (f a)≤f a:=by unfold mnI; split <;> omega
  refine ⟨Int.le_trans h1 h3.1,fun k hk=>?_⟩
  rcases List.mem_cons.1 hk with rfl | hk
  ·exact Int.le_trans h1 h3.2
  ·exact h2 k hk
theorem qoq {g g':Group}{x:IsrStep}(hg:ya g)(h:kg g x=some g') : ya g':=by
 have hf:=hg.fit
 obtain ⟨⟨⟨r1,r2⟩,⟨e1,e2⟩⟩,⟨hm,hL,hH⟩,hr⟩:=hg
 have hlr:=hf.rng hL
 obtain ⟨l1,l2,l3⟩:=js hlr.1 hlr.2
 have hml:=qel.1 hm
 obtain ⟨Kd,K,N⟩:=x
 by_cases d1:Kd=1
 ·subst d1
  rw [gs1 hf] at h
  split at h
  case isFalse=>cases h
  rename_i c
  cases h
  have hk:=hf.rng c.1
  obtain ⟨k1,k2,k3⟩:=js hk.1 hk.2
  have hrk:=hr _ _ k2
  have hKi:((K.toNat:Nat) : Int)=K:=by omega
  have hlead:lead ⟨g.Epoch+1,K,g.InStep,g.High,kq g K (xd g K) (g.Epoch+1)⟩=xd g K:=by
   unfold lead kq
   dsimp only
   rw [List.getElem?_set_self (by omega)]
  refine ⟨⟨⟨by simpa [kq] using r1,by simpa [kq] using r2⟩,by dsimp only; omega⟩,⟨by simpa [kq] using hm,c.1,hH⟩,fun i x hx=>?_⟩
  unfold qgj
  rw [hlead]
  dsimp only
  rcases qj2 hk.1 hx with ⟨hi,rfl⟩ | ⟨hi,hx⟩
  ·dsimp only
   rw [qf8,k3]
   refine ⟨qiv hrk.1 (by omega),by omega,by omega,fun _=>?_,fun _=>Int.le_refl _⟩
   have:=hrk.2.2.2.1 (by rw [hKi]; exact c.1)
   have:=qb5 (a:=(zz g K).Log) (b:=lead g)
   omega
  ·obtain ⟨a1,a2,a3,a4,a5⟩:=hr i x hx
   refine ⟨qiv a1 (by omega),by omega,a3,fun h=>?_,fun h=>by omega⟩
   rw [k3]
   exact qrr hH (a4 h) (hrk.2.2.2.1 (by rw [hKi]; exact c.1))
 by_cases d2:Kd=2
 ·subst d2
  rw [gs2 hf] at h
  split at h
  case isFalse=>cases h
  rename_i c
  cases h
  have hlead:lead ⟨g.Epoch,g.Leader,g.InStep,g.High,kq g g.Leader (lead g++[⟨g.Epoch,N⟩]) g.Epoch⟩=lead g++[⟨g.Epoch,N⟩]:=by
   unfold lead kq
   dsimp only
   rw [List.getElem?_set_self (by omega)]
  have hll:=hf.lead
  have hrl:=hr _ _ l2
  have hLi:((g.Leader.toNat:Nat) : Int)=g.Leader:=by omega
  refine ⟨⟨⟨by simpa [kq] using r1,by simpa [kq] using r2⟩,e1,e2⟩,⟨by simpa [kq] using hm,hL,hH⟩,fun i x hx=>?_⟩
  unfold qgj
  rw [hlead]
  dsimp only
  rcases qj2 hlr.1 hx with ⟨hi,rfl⟩ | ⟨hi,hx⟩
  ·dsimp only
   rw [qf8]
   refine ⟨qru (by rw [uk,l3]; exact hrl.1) e1 c.2.1 (by omega),by omega,by omega,fun _=>?_,fun _=>Int.le_refl _⟩
   have:=hrl.2.2.2.1 (by rw [hLi]; exact hL)
   have:=qb5 (a:=(zz g g.Leader).Log) (b:=lead g)
   simp
   omega
  ·obtain ⟨a1,a2,a3,a4,a5⟩:=hr i x hx
   exact ⟨a1,a2,a3,fun h=>qiu hH (a4 h),fun h=>qiu a3.1 (a5 h)⟩
 by_cases d3:Kd=3
 ·subst d3
  rw [gs3] at h
  split at h
  case isFalse=>cases h
  rename_i c
  cases h
  have hrl:=hr _ _ l2
  obtain ⟨k1,k2,k3⟩:=js c.1.1 c.1.2
  have hrk:=hr _ _ k2
  have hKi:((K.toNat:Nat) : Int)=K:=by omega
  have hlead:lead ⟨g.Epoch,g.Leader,g.InStep,g.High,kq g K ((lead g).take (pre (xd g K) (lead g)+N.toNat)) g.Epoch⟩=lead g:=by
   unfold lead kq
   dsimp only
   rw [List.getElem?_set_ne (by omega)]
  refine ⟨⟨⟨by simpa [kq] using r1,by simpa [kq] using r2⟩,e1,e2⟩,⟨by simpa [kq] using hm,hL,hH⟩,fun i x hx=>?_⟩
  unfold qgj
  rw [hlead]
  dsimp only
  rcases qj2 c.1.1 hx with ⟨hi,rfl⟩ | ⟨hi,hx⟩
  ·dsimp only
   rw [qmm]
   refine ⟨qik (by rw [uk,l3]; exact hrl.1) (Int.le_refl _),by omega,by omega,fun h=>?_,fun _=>Int.le_refl _⟩
   have:=hrk.2.2.2.1 (by rw [hKi,← hi]; exact h)
   rw [k3]
   have:=qb5 (a:=(zz g K).Log) (b:=lead g)
   simp
   omega
  ·exact hr i x hx
 by_cases d4:Kd=4
 ·subst d4
  rw [gs4 hf] at h
  split at h
  case isFalse=>cases h
  rename_i c
  cases h
  refine ⟨⟨⟨r1,r2⟩,e1,e2⟩,⟨qel.2 ⟨hml.1.sublist List.filter_sublist,fun z hz=>hml.2 z (List.mem_filter.1 hz).1⟩,List.mem_filter.2 ⟨hL,by simpa using Ne.symm c.2.1⟩,hH⟩,fun i x hx=>?_⟩
  obtain ⟨a1,a2,a3,a4,a5⟩:=hr i x hx
  exact ⟨a1,a2,a3,fun h=>a4 (List.mem_filter.1 h).1,a5⟩
 by_cases d5:Kd=5
 ·subst d5
  rw [gs5] at h
  split at h
  case isFalse=>cases h
  rename_i c
  cases h
  obtain ⟨k1,k2,k3⟩:=js c.1.1 c.1.2
  refine ⟨⟨⟨r1,r2⟩,e1,e2⟩,⟨qel.2 ⟨qrg hml.1 c.2.1,fun z hz=>?_⟩,qhv.2 (.inr hL),hH⟩,fun i x hx=>?_⟩
  ·rcases qhv.1 hz with rfl | hz
   ·exact c.1
   ·exact hml.2 z hz
  ·obtain ⟨a1,a2,a3,a4,a5⟩:=hr i x hx
   refine ⟨a1,a2,a3,fun h=>?_,a5⟩
   rcases qhv.1 h with hi | hz
   ·have hi:i=K.toNat:=by omega
    subst hi
    have k2:g.Replicas[K.toNat]? = some (zz g K):=k2
    have hx:g.Replicas[K.toNat]? = some x:=hx
    rw [k2] at hx
    cases hx
    exact Int.le_trans c.2.2.2.2 (a5 c.2.2.2.1)
   ·exact a4 hz
 by_cases d6:Kd=6
 ·subst d6
  rw [gs6 hf] at h
  split at h
  case isFalse=>cases h
  rename_i c
  cases h
  refine ⟨⟨⟨r1,r2⟩,e1,e2⟩,⟨hm,hL,by dsimp only; omega⟩,fun i x hx=>?_⟩
  obtain ⟨a1,a2,a3,a4,a5⟩:=hr i x hx
  refine ⟨a1,a2,a3,fun h=>?_,a5⟩
  have h1:=c.2.2.1 _ h
  have h2:=(qs3 (f:=fun k=>(zz g k).Known) (l:=g.InStep) (m:=30)).2 _ h
  have hri:zz g (i:Int)=x:=by unfold zz; rw [Int.toNat_natCast]; have hx:g.Replicas[i]? = some x:=hx; rw [hx]; rfl
  rw [hri] at h1
  have h2:u2 g 30≤(zz g (i:Int)).Known:=h2
  rw [hri] at h2
  exact Int.le_trans h2 (a5 h1)
 ·rw [gs0 (by simpa using d1) (by simpa using d2) (by simpa using d3) (by simpa using d4) (by simpa using d5) (by simpa using d6)] at h
  cases h
theorem qta {α:Type}{f:α→Nat}{m:Nat} : ∀ {l:List α},(∀ x∈l,f x≤m)→yz f l≤l.length*m:=by
 intro l
 induction l with
 | nil=>intro _; simp [yz]
 | cons a l ih=>intro h; have:=ih (fun x hx=>h x (by simp [hx])); have:=h a (by simp); simp only [yz,List.length_cons,Nat.succ_mul]; omega
theorem ya.nn {g:Group}(h:ya g) : g.nn≤1048576:=by
 have hf:=h.fit
 have h1:g.nn=g.InStep.length+(nnL Replica.nn g.Replicas+0):=rfl
 have h2:nnL Replica.nn g.Replicas=g.Replicas.length+yz Replica.nn g.Replicas:=rfl
 have h3:=qcg hf.mem
 have h4:=hf.n2
 have h5:yz Replica.nn g.Replicas≤g.Replicas.length*30:=qta (fun x hx=>by
  obtain ⟨i,hi⟩:=List.getElem?_of_mem hx
  have:=(hf.log i x hi).1
  have h6:x.nn=x.Log.length+0:=rfl
  omega)
 omega
end Go.Proofs.Ytefgfcalgjmhjaa.X
