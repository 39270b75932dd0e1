/- Whether a cluster is good: the specification and the program ask the same. -/
import Derived.Test.YtohofoampalhoaaXGL17a
import Derived.Test.YtohofoampalhoaaXGK
open Bool renaming false_eq_true→t5,false_ne_true→a1w
open Classical renaming byContradiction→a1p,not_not→a2w
open Go.Proofs.Ytohofoampalhoaa.X.Ev renaming bind→n8,iteF→r5,iteT→t6,rfl→o6
open Go.Proofs.Ytohofoampalhoaa.X.Is renaming bind→a2f
open List renaming getElem?_eq_getElem→i8
open Option renaming bind_some→r9
set_option linter.unusedVariables false
set_option linter.unusedSimpArgs false
namespace Go.Proofs.Ytohofoampalhoaa.X
open Go

theorem Is.andb {F:Nat→Option Bool}{b:Bool}{P Q:Prop}(hb:b=true↔P)(h:P→Is F Q) : Is (fun k=>(if b=true then (F k).bind fun v=>some v else some false)) (P∧Q):=by
 cases b with
 | true =>
  have hp:=hb.1 rfl
  obtain ⟨c,e,hc⟩:=h hp
  exact ⟨c,n8 e o6,by simp [hp,hc]⟩
 | false=>exact ⟨false,o6,by simp at hb; simp [hb]⟩
def qdk (v:View)(n:Int) : Prop:=(0≤v.Epoch∧v.Epoch≤100)∧qff v.InStep n∧v.Leader∈v.InStep
theorem ql1 {v:View}{n:Int}(hl:v.InStep.length≤1048576) : Is (fun _=>qbq v n) (qdk v n):=by
 unfold qbq
 refine (a2f (Q:=((0≤v.Epoch∧v.Epoch≤100)∧qff v.InStep n)∧v.Leader∈v.InStep) (Is.andb (P:=0≤v.Epoch∧v.Epoch≤100) (by simp [ju]) (fun _=>qsa (by omega))) (fun b hb=>a2f (Is.andb hb (fun _=>qgx (by omega))) (fun b hb=>Is.of hb))).iff ?_
 unfold qdk
 exact and_assoc
theorem qnq {v:View}{n:Nat}(hn:n≤1048576)(hl:v.InStep.length≤1048576) : Is (fun _=>qcf v (n:Int)) (qdk v n):=by
 unfold qcf
 refine (a2f (Q:=((0≤v.Epoch∧v.Epoch≤100)∧qff v.InStep n)∧v.Leader∈v.InStep) (Is.andb (P:=0≤v.Epoch∧v.Epoch≤100) (by simp [jc]) (fun _=>qoc (by omega) (by omega) (by omega))) (fun b hb=>a2f (Is.andb hb (fun _=>Contains_int_is (by omega))) (fun b hb=>Is.of hb))).iff ?_
 unfold qdk
 exact and_assoc

def qmk (c:Cluster)(k:Nat)(x:Node) : Prop :=
 qdk x.View c.Nodes.length∧x.View.Epoch≤c.Truth.Epoch∧¬ (x.View.Epoch=c.Truth.Epoch∧x.View.Leader≠c.Truth.Leader)∧qdi x.Log x.View.Epoch∧x.Known.length=c.Nodes.length∧0≤x.Told∧x.Told≤x.Log.length∧∀ (i:Nat) (m:Int),x.Known[i]? = some m→0≤m∧m≤x.Log.length∧(x.View.Leader≠k→m=0)
def inP (c:Cluster)(k:Nat)(x:Node) : Prop:=(k:Int)∈c.Truth.InStep→c.Acked <+: x.Log
structure small (c:Cluster) : Prop where
 a:c.nn≤1048576
theorem qea {c:Cluster}(h:c.nn≤1048576) : c.Truth.InStep.length≤1048576∧c.Nodes.length≤1048576∧c.Acked.length≤1048576:=by
 have h:c.Truth.nn+(nnL Node.nn c.Nodes+(c.Acked.length+0))≤1048576:=h
 have h1:c.Truth.nn=c.Truth.InStep.length+0:=rfl
 have:=qip (f:=Node.nn) (l:=c.Nodes)
 omega
theorem qin {c:Cluster}(h:c.nn≤1048576){i:Nat}{x:Node}(hx:c.Nodes[i]? = some x) : x.View.InStep.length≤1048576∧x.Log.length≤1048576∧x.Known.length≤1048576:=by
 have h:c.Truth.nn+(nnL Node.nn c.Nodes+(c.Acked.length+0))≤1048576:=h
 have h1:x.nn=x.View.nn+(x.Log.length+(x.Known.length+0)):=rfl
 have h2:x.View.nn=x.View.InStep.length+0:=rfl
 have:=qh3 (f:=Node.nn) hx
 omega
theorem qr8 {c:Cluster}{i:Nat}{x:Node}(h:c.nn≤1048576)(hx:c.Nodes[i]? = some x) : Is (fun k=>qdh k c (i:Int)) (qmk c i x∧inP c i x):=by
 obtain ⟨t1,t2,t3⟩:=qea h
 obtain ⟨n1,n2,n3⟩:=qin h hx
 unfold qdh
 refine Is.bindv (Ev.of (jr hx)) ?_
 refine a2f (ql1 n1) (fun v hv=>?_)
 refine a2f (P:=¬ (qdk x.View c.Nodes.length∧x.View.Epoch≤c.Truth.Epoch∧¬ (x.View.Epoch=c.Truth.Epoch∧x.View.Leader≠c.Truth.Leader)∧qdi x.Log x.View.Epoch)) (Is.ite (fun hb=>Is.T ?_) (fun hb=>a2f (qnx (by omega)) (fun b hb2=>Is.of ?_))) (fun b hb=>?_)
 ·rintro ⟨a1,a2,a3,a4⟩
  simp [hv.2 a1] at hb
  rcases hb with hb | hb
  ·omega
  ·exact a3 hb
 ·simp at hb
  have a1:=hv.1 hb.1.1
  have a2:x.View.Epoch≤c.Truth.Epoch:=by omega
  have a3:¬ (x.View.Epoch=c.Truth.Epoch∧x.View.Leader≠c.Truth.Leader):=fun hh=>hh.2 (hb.2 hh.1)
  simp only [a1,a2,a3,not_false_eq_true,true_and,← hb2]
  cases b <;> simp
 refine Is.ite (fun hc=>Is.F ?_) (fun hc=>?_)
 ·rintro ⟨⟨a1,a2,a3,a4,a5,a6,a7,a8⟩,_⟩
  have:b=false:=by
   cases b with
   | false=>rfl
   | true=>exact absurd ⟨a1,a2,a3,a4⟩ (hb.1 rfl)
  subst this
  simp at hc
  omega
 ·simp at hc
  obtain ⟨⟨⟨rfl,c1⟩,c2⟩,c3⟩:=hc
  have hA:qdk x.View c.Nodes.length∧x.View.Epoch≤c.Truth.Epoch∧¬ (x.View.Epoch=c.Truth.Epoch∧x.View.Leader≠c.Truth.Leader)∧qdi x.Log x.View.Epoch :=
   a1p fun hn=>a1w (hb.2 hn)
  obtain ⟨a1,a2,a3,a4⟩:=hA
  refine Is.all (Q:=fun _ m=>0≤m∧m≤(x.Log.length:Int)∧(x.View.Leader≠i→m=0)) (by omega) (fun j m hm=>?_) (fun hq=>?_) (fun hq hp=>hq hp.1.2.2.2.2.2.2.2)
  ·unfold qcv
   refine qol (Is.ite (fun hb=>Is.T ?_) (fun hb=>?_))
   ·simp at hb; rintro ⟨b1,b2,_⟩; omega
   ·simp at hb
    unfold w7
    rw [jr hx]
    simp only [r9]
    refine Is.of ?_
    simp
    constructor
    ·intro ⟨h1,h2⟩ _ _
     exact ⟨h1,h2⟩
    ·intro h3
     have:=h3 hb.1 (by omega)
     simpa using this
  ·unfold qe0
   refine (a2f (qgx (by omega)) (fun b hb2=>Is.ite (P:=inP c i x) (fun hb3=>Is.T ?_) (fun hb3=>?_))).iff ⟨fun hi=>⟨⟨a1,a2,a3,a4,by omega,by omega,by omega,hq⟩,hi⟩,fun hp=>hp.2⟩
   ·intro hi; simp [hb2.2 hi] at hb3
   ·have hi:=hb2.1 (by simpa using hb3)
    exact (qqb t3).iff ⟨fun hp _=>hp,fun hp=>hp hi⟩
def qam (c:Cluster) : Prop:=(2≤c.Nodes.length∧c.Nodes.length≤4)∧qdk c.Truth c.Nodes.length∧qdi c.Acked 100∧∀ (i:Nat) (x:Node),c.Nodes[i]? = some x→qmk c i x∧inP c i x
theorem qgy {c:Cluster}(h:c.nn≤1048576) : Is (fun k=>xz k c) (qam c):=by
 obtain ⟨t1,t2,t3⟩:=qea h
 unfold xz
 refine a2f (P:=¬ ((2≤c.Nodes.length∧c.Nodes.length≤4)∧qdk c.Truth c.Nodes.length)) (Is.ite (fun hb=>Is.T ?_) (fun hb=>a2f (ql1 t1) (fun b hb2=>Is.of ?_))) (fun b hb=>?_)
 ·simp [ju] at hb; rintro ⟨⟨_,_⟩,_⟩; omega
 ·simp [ju] at hb
  rw [←hb2]
  cases b <;> simp <;> omega
 refine a2f (P:=¬ ((2≤c.Nodes.length∧c.Nodes.length≤4)∧qdk c.Truth c.Nodes.length∧qdi c.Acked 100)) (Is.ite (fun hb2=>Is.T ?_) (fun hb2=>a2f (qnx (by omega)) (fun b3 hb3=>Is.of ?_))) (fun b2 hb2=>?_)
 ·intro hh; exact hb.1 hb2 ⟨hh.1,hh.2.1⟩
 ·have hA:=a2w.1 (fun hn=>by rw [hb.2 hn] at hb2; cases hb2)
  simp only [hA.1,hA.2,true_and,and_self,← hb3]
  cases b3 <;> simp
 refine Is.ite (fun hc=>Is.F ?_) (fun hc=>?_)
 ·intro hh; exact hb2.1 hc ⟨hh.1,hh.2.1,hh.2.2.1⟩
 ·have hA:=a2w.1 (fun hn=>by rw [hb2.2 hn] at hc; cases hc)
  refine Is.allI (Q:=fun i=>∀ x,c.Nodes[i]? = some x→qmk c i x∧inP c i x) (by omega) (fun i hi=>?_) (fun hq=>Is.T ⟨hA.1,hA.2.1,hA.2.2,fun i x hx=>hq i (List.getElem?_eq_some_iff.1 hx).1 x hx⟩) (fun hq hp=>hq (fun i _ x hx=>hp.2.2.2 i x hx))
  have hx:c.Nodes[i]? = some c.Nodes[i]:=i8 hi
  unfold qas
  obtain ⟨b,e,hb⟩:=qv2 (qr8 h hx)
  refine ⟨b,e,hb.trans (not_congr ⟨fun hh x hx2=>by rw [hx] at hx2; cases hx2; exact hh,fun hh=>hh _ hx⟩)⟩
theorem qk4 {c:Cluster}{i:Nat}{x:Node}(h:c.nn≤1048576)(hx:c.Nodes[i]? = some x) : Is (fun _=>ud x (i:Int) (c.Nodes.length:Int)) (qdk x.View c.Nodes.length∧qdi x.Log x.View.Epoch∧x.Known.length=c.Nodes.length∧0≤x.Told∧x.Told≤x.Log.length∧∀ (j:Nat) (m:Int),x.Known[j]? = some m→0≤m∧m≤x.Log.length∧(x.View.Leader≠i→m=0)):=by
 obtain ⟨t1,t2,t3⟩:=qea h
 obtain ⟨n1,n2,n3⟩:=qin h hx
 unfold ud
 refine a2f (qnq t2 n1) (fun v hv=>?_)
 refine a2f (P:=¬ (qdk x.View c.Nodes.length∧qdi x.Log x.View.Epoch)) (Is.ite (fun hb=>Is.T ?_) (fun hb=>a2f (qwh (by omega)) (fun b hb2=>Is.of ?_))) (fun b hb=>?_)
 ·rintro ⟨a1,_⟩
  simp [hv.2 a1] at hb
 ·have:=hv.1 (by simpa using hb)
  simp only [this,true_and,← hb2]
  cases b <;> simp
 refine Is.ite (fun hc=>Is.F ?_) (fun hc=>?_)
 ·rintro ⟨a1,a4,a5,a6,a7,a8⟩
  have:b=false:=by
   cases b with
   | false=>rfl
   | true=>exact absurd ⟨a1,a4⟩ (hb.1 rfl)
  subst this
  simp [jc] at hc
  omega
 ·simp [jc] at hc
  obtain ⟨⟨rfl,c1⟩,c2⟩:=hc
  obtain ⟨a1,a4⟩:=a1p fun hn=>a1w (hb.2 hn)
  unfold xj u6
  rcases qhv (B:=fun _ i1 x2 _=>wk (fun a0=>some (wi a0 x (i:Int))) i1 x2) (Q:=fun _ m=>¬ (0≤m∧m≤(x.Log.length:Int)∧(x.View.Leader≠i→m=0))) (f:=fun i=>(i:Int)) (l:=x.Known) (by omega) (fun j m hm=>by
   unfold wk
   simp only [r9]
   refine qg3 ?_
   simp [wi,jc]
   constructor
   ·intro h1 h2 h3
    rcases h1 with h1 | h1
    ·omega
    ·exact ⟨h1.1,h1.2⟩
   ·intro h1
    by_cases h2:0≤m∧m≤(x.Log.length:Int)
    ·exact .inr (h1 h2.1 h2.2)
    ·exact .inl (by omega)) with ⟨j,m,g1,g2,g3,g4⟩ | ⟨g1,g2⟩
  ·refine Is.bindv (n8 (Ev.jn_ret g4) o6) (Is.of ?_)
   have hj:(0:Int)≤(j:Int):=by omega
   simp only [hj,decide_true,Bool.not_true,t5,false_iff]
   rintro ⟨_,_,_,_,_,a8⟩
   exact g2 (a8 j m g1)
  ·refine Is.bindv (n8 (Ev.jn g2 o6) o6) (Is.of ?_)
   have e:(!(decide ((0:Int)≤(-1))))=true:=rfl
   rw [e]
   simp only [true_iff]
   exact ⟨a1,a4,by omega,by omega,by omega,fun j m hm=>a2w.1 (g1 j m hm)⟩
theorem qjv {c:Cluster}(h:c.nn≤1048576) : Is (fun _=>qad c) (qam c):=by
 obtain ⟨t1,t2,t3⟩:=qea h
 unfold qad
 refine a2f (P:=¬ ((2≤c.Nodes.length∧c.Nodes.length≤4)∧qdk c.Truth c.Nodes.length)) (Is.ite (fun hb=>Is.T ?_) (fun hb=>a2f (qnq t2 t1) (fun b hb2=>Is.of ?_))) (fun b hb=>?_)
 ·simp [jc] at hb; rintro ⟨⟨_,_⟩,_⟩; omega
 ·simp [jc] at hb
  rw [←hb2]
  cases b <;> simp <;> omega
 refine Is.ite (fun hc=>Is.F ?_) (fun hc=>?_)
 ·intro hh
  rcases Bool.or_eq_true _ _▸hc with hc | hc
  ·exact hb.1 hc ⟨hh.1,hh.2.1⟩
  ·have:=hh.2.2.1.2
   simp at hc
   omega
 ·simp at hc
  obtain ⟨rfl,hc⟩:=hc
  obtain ⟨a1,a2⟩:=a1p fun hn=>a1w (hb.2 hn)
  refine Is.all (Q:=fun i x=>qmk c i x∧inP c i x) (by omega) (fun i x hx=>?_) (fun hq=>Is.T ⟨a1,a2,?_,hq⟩) (fun hq hp=>hq (fun i x hx=>hp.2.2.2 i x hx))
  ·obtain ⟨n1,n2,n3⟩:=qin h hx
   unfold qbj
   obtain ⟨b,e,hb⟩:=qk4 h hx
   by_cases hg:((!b)||(decide (c.Truth.Epoch<x.View.Epoch))||((decide (x.View.Epoch=c.Truth.Epoch))&&(decide (x.View.Leader≠c.Truth.Leader))))=true
   ·refine ⟨true,n8 e (t6 hg o6),?_⟩
    simp only [true_iff]
    rintro ⟨⟨b1,b2,b3,b4,b5,b6,b7,b8⟩,_⟩
    rw [hb.2 ⟨b1,b4,b5,b6,b7,b8⟩] at hg
    simp at hg
    rcases hg with hg | hg
    ·omega
    ·exact b3 hg
   ·have hg':=Bool.not_eq_true _▸hg
    simp at hg
    obtain ⟨⟨g1,g2⟩,g3⟩:=hg
    obtain ⟨b1,b4,b5,b6,b7,b8⟩:=hb.1 g1
    have hnode:qmk c i x:=⟨b1,by omega,fun hh=>hh.2 (g3 hh.1),b4,b5,b6,b7,b8⟩
    obtain ⟨b2,e2,hb2⟩:=Contains_int_is (l:=c.Truth.InStep) (v:=(i:Int)) (by omega)
    cases b2 with
    | false =>
     refine ⟨false,n8 e (r5 hg' (n8 e2 (r5 rfl o6))),?_⟩
     simp only [t5,false_iff,a2w]
     exact ⟨hnode,fun hi=>absurd (hb2.2 hi) a1w⟩
    | true =>
     have hi:=hb2.1 rfl
     by_cases hlen:x.Log.length<c.Acked.length
     ·refine ⟨true,n8 e (r5 hg' (n8 e2 (t6 rfl (t6 (by simp; omega) o6)))),?_⟩
      simp only [true_iff]
      rintro ⟨_,hp⟩
      have:=(hp hi).length_le
      omega
     ·obtain ⟨b3,e3,hb3⟩:=Equal_Row_is (a:=x.Log.take c.Acked.length) (b:=c.Acked) (by rw [List.length_take]; omega)
      have hs:sl x.Log 0 (c.Acked.length:Int)=some (x.Log.take c.Acked.length):=qgi (by omega)
      refine ⟨!b3,n8 e (r5 hg' (n8 e2 (t6 rfl (r5 (by simp; omega) (Ev.bindp hs (n8 e3 ?_)))))),?_⟩
      ·cases b3 <;> exact o6
      ·have:(x.Log.take c.Acked.length=c.Acked)↔c.Acked <+: x.Log:=by
        rw [List.prefix_iff_eq_take]
        exact eq_comm
       rw [this] at hb3
       have e4:inP c i x↔c.Acked <+: x.Log:=⟨fun hp=>hp hi,fun hp _=>hp⟩
       rw [e4,← hb3]
       cases b3 <;> simp [hnode]
  ·obtain ⟨v1,v2,v3⟩:=a2
   obtain ⟨j,hj⟩:=List.getElem?_of_mem v3
   obtain ⟨w1,w2,_⟩:=v2 j _ hj
   have hlt:c.Truth.Leader.toNat<c.Nodes.length:=by omega
   have hx:c.Nodes[c.Truth.Leader.toNat]? = some c.Nodes[c.Truth.Leader.toNat]:=i8 hlt
   obtain ⟨hn,hi⟩:=hq _ _ hx
   have hp:=hi (by rw [Int.toNat_of_nonneg w1]; exact v3)
   rw [List.prefix_iff_eq_take] at hp
   rw [hp]
   exact qsd hn.2.2.2.1 hn.1.1.2
end Go.Proofs.Ytohofoampalhoaa.X
