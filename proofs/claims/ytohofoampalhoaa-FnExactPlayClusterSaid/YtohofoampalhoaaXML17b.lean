/- Whether a cluster is good: the specification and the program ask the same. -/
import Derived.Test.YtohofoampalhoaaXML17a
import Derived.Test.YtohofoampalhoaaXMK
open Bool renaming false_eq_true→a0w,false_ne_true→a28
open Classical renaming byContradiction→a2d
open Go.Proofs.Ytohofoampalhoaa.X.Ev renaming bind→a0n,iteF→a0t,iteT→a00,rfl→a0o
open List renaming prefix_iff_eq_take→a20
set_option linter.unusedVariables false
set_option linter.unusedSimpArgs false
namespace Go.Proofs.Ytohofoampalhoaa.X
open Go

theorem Is.andb {F:Nat→Option Bool}{b:Bool}{P Q:Prop}(hb:b=true↔P)(h:P→Is F Q) : Is (fun k=>(if b=true then (F k).bind fun v=>some v else some false)) (P∧Q):=by
 cases b with
 | true =>
  have hp:=hb.1 rfl
  obtain ⟨c,e,hc⟩:=h hp
  exact ⟨c,a0n e a0o,by simp [hp,hc]⟩
 | false=>exact ⟨false,a0o,by simp at hb; simp [hb]⟩
def qdq (v:View)(n:Int) : Prop:=(0≤v.Epoch∧v.Epoch≤100)∧qge v.InStep n∧v.Leader∈v.InStep
theorem qny {v:View}{n:Nat}(hn:n≤1048576)(hl:v.InStep.length≤1048576) : Is (fun _=>qcx v (n:Int)) (qdq v n):=by
 unfold qcx
 refine (Is.bind (Q:=((0≤v.Epoch∧v.Epoch≤100)∧qge v.InStep n)∧v.Leader∈v.InStep) (Is.andb (P:=0≤v.Epoch∧v.Epoch≤100) (by simp [zw]) (fun _=>qof (by omega) (by omega) (by omega))) (fun b hb=>Is.bind (Is.andb hb (fun _=>Contains_int_is (by omega))) (fun b hb=>Is.of hb))).iff ?_
 unfold qdq
 exact and_assoc

def qr3 (c:Cluster)(k:Nat)(x:Node) : Prop :=
 qdq x.View c.Nodes.length∧x.View.Epoch≤c.Truth.Epoch∧¬ (x.View.Epoch=c.Truth.Epoch∧x.View.Leader≠c.Truth.Leader)∧qa3 x.Log x.View.Epoch∧x.Known.length=c.Nodes.length∧0≤x.Told∧x.Told≤x.Log.length∧∀ (i:Nat) (m:Int),x.Known[i]? = some m→0≤m∧m≤x.Log.length∧(x.View.Leader≠k→m=0)
def inP (c:Cluster)(k:Nat)(x:Node) : Prop:=(k:Int)∈c.Truth.InStep→c.Acked <+: x.Log
structure small (c:Cluster) : Prop where
 a:c.nn≤1048576
theorem qhr {c:Cluster}(h:c.nn≤1048576) : c.Truth.InStep.length≤1048576∧c.Nodes.length≤1048576∧c.Acked.length≤1048576:=by
 have h:c.Truth.nn+(nnL Node.nn c.Nodes+(c.Acked.length+0))≤1048576:=h
 have h1:c.Truth.nn=c.Truth.InStep.length+0:=rfl
 have:=qkq (f:=Node.nn) (l:=c.Nodes)
 omega
theorem qkr {c:Cluster}(h:c.nn≤1048576){i:Nat}{x:Node}(hx:c.Nodes[i]? = some x) : x.View.InStep.length≤1048576∧x.Log.length≤1048576∧x.Known.length≤1048576:=by
 have h:c.Truth.nn+(nnL Node.nn c.Nodes+(c.Acked.length+0))≤1048576:=h
 have h1:x.nn=x.View.nn+(x.Log.length+(x.Known.length+0)):=rfl
 have h2:x.View.nn=x.View.InStep.length+0:=rfl
 have:=qky (f:=Node.nn) hx
 omega
def qa9 (c:Cluster) : Prop:=(2≤c.Nodes.length∧c.Nodes.length≤4)∧qdq c.Truth c.Nodes.length∧qa3 c.Acked 100∧∀ (i:Nat) (x:Node),c.Nodes[i]? = some x→qr3 c i x∧inP c i x
theorem qlv {c:Cluster}{i:Nat}{x:Node}(h:c.nn≤1048576)(hx:c.Nodes[i]? = some x) : Is (fun _=>ul x (i:Int) (c.Nodes.length:Int)) (qdq x.View c.Nodes.length∧qa3 x.Log x.View.Epoch∧x.Known.length=c.Nodes.length∧0≤x.Told∧x.Told≤x.Log.length∧∀ (j:Nat) (m:Int),x.Known[j]? = some m→0≤m∧m≤x.Log.length∧(x.View.Leader≠i→m=0)):=by
 obtain ⟨t1,t2,t3⟩:=qhr h
 obtain ⟨n1,n2,n3⟩:=qkr h hx
 unfold ul
 refine Is.bind (qny t2 n1) (fun v hv=>?_)
 refine Is.bind (P:=¬ (qdq x.View c.Nodes.length∧qa3 x.Log x.View.Epoch)) (Is.ite (fun hb=>Is.T ?_) (fun hb=>Is.bind (qt1 (by omega)) (fun b hb2=>Is.of ?_))) (fun b hb=>?_)
 ·rintro ⟨a1,_⟩
  simp [hv.2 a1] at hb
 ·have:=hv.1 (by simpa using hb)
  simp only [this,true_and,← hb2]
  cases b <;> simp
 refine Is.ite (fun hc=>Is.F ?_) (fun hc=>?_)
 ·rintro ⟨a1,a4,a5,a6,a7,a8⟩
  have:b=false:=by
   cases b with
   | false=>rfl
   | true=>exact absurd ⟨a1,a4⟩ (hb.1 rfl)
  subst this
  simp [zw] at hc
  omega
 ·simp [zw] at hc
  obtain ⟨⟨rfl,c1⟩,c2⟩:=hc
  obtain ⟨a1,a4⟩:=a2d fun hn=>a28 (hb.2 hn)
  unfold xq qaf
  rcases qh9 (B:=fun _ i1 x2 _=>wn (fun a0=>some (wk a0 x (i:Int))) i1 x2) (Q:=fun _ m=>¬ (0≤m∧m≤(x.Log.length:Int)∧(x.View.Leader≠i→m=0))) (f:=fun i=>(i:Int)) (l:=x.Known) (by omega) (fun j m hm=>by
   unfold wn
   simp only [Option.bind_some]
   refine qhc ?_
   simp [wk,zw]
   constructor
   ·intro h1 h2 h3
    rcases h1 with h1 | h1
    ·omega
    ·exact ⟨h1.1,h1.2⟩
   ·intro h1
    by_cases h2:0≤m∧m≤(x.Log.length:Int)
    ·exact .inr (h1 h2.1 h2.2)
    ·exact .inl (by omega)) with ⟨j,m,g1,g2,g3,g4⟩ | ⟨g1,g2⟩
  ·refine Is.bindv (a0n (Ev.jn_ret g4) a0o) (Is.of ?_)
   have hj:(0:Int)≤(j:Int):=by omega
   simp only [hj,decide_true,Bool.not_true,a0w,false_iff]
   rintro ⟨_,_,_,_,_,a8⟩
   exact g2 (a8 j m g1)
  ·refine Is.bindv (a0n (Ev.jn g2 a0o) a0o) (Is.of ?_)
   have e:(!(decide ((0:Int)≤(-1))))=true:=rfl
   rw [e]
   simp only [true_iff]
   exact ⟨a1,a4,by omega,by omega,by omega,fun j m hm=>Classical.not_not.1 (g1 j m hm)⟩
theorem qo3 {c:Cluster}(h:c.nn≤1048576) : Is (fun _=>qb6 c) (qa9 c):=by
 obtain ⟨t1,t2,t3⟩:=qhr h
 unfold qb6
 refine Is.bind (P:=¬ ((2≤c.Nodes.length∧c.Nodes.length≤4)∧qdq c.Truth c.Nodes.length)) (Is.ite (fun hb=>Is.T ?_) (fun hb=>Is.bind (qny t2 t1) (fun b hb2=>Is.of ?_))) (fun b hb=>?_)
 ·simp [zw] at hb; rintro ⟨⟨_,_⟩,_⟩; omega
 ·simp [zw] at hb
  rw [←hb2]
  cases b <;> simp <;> omega
 refine Is.ite (fun hc=>Is.F ?_) (fun hc=>?_)
 ·intro hh
  rcases Bool.or_eq_true _ _▸hc with hc | hc
  ·exact hb.1 hc ⟨hh.1,hh.2.1⟩
  ·have:=hh.2.2.1.2
   simp at hc
   omega
 ·simp at hc
  obtain ⟨rfl,hc⟩:=hc
  obtain ⟨a1,a2⟩:=a2d fun hn=>a28 (hb.2 hn)
  refine Is.all (Q:=fun i x=>qr3 c i x∧inP c i x) (by omega) (fun i x hx=>?_) (fun hq=>Is.T ⟨a1,a2,?_,hq⟩) (fun hq hp=>hq (fun i x hx=>hp.2.2.2 i x hx))
  ·obtain ⟨n1,n2,n3⟩:=qkr h hx
   unfold qbv
   obtain ⟨b,e,hb⟩:=qlv h hx
   by_cases hg:((!b)||(decide (c.Truth.Epoch<x.View.Epoch))||((decide (x.View.Epoch=c.Truth.Epoch))&&(decide (x.View.Leader≠c.Truth.Leader))))=true
   ·refine ⟨true,a0n e (a00 hg a0o),?_⟩
    simp only [true_iff]
    rintro ⟨⟨b1,b2,b3,b4,b5,b6,b7,b8⟩,_⟩
    rw [hb.2 ⟨b1,b4,b5,b6,b7,b8⟩] at hg
    simp at hg
    rcases hg with hg | hg
    ·omega
    ·exact b3 hg
   ·have hg':=Bool.not_eq_true _▸hg
    simp at hg
    obtain ⟨⟨g1,g2⟩,g3⟩:=hg
    obtain ⟨b1,b4,b5,b6,b7,b8⟩:=hb.1 g1
    have hnode:qr3 c i x:=⟨b1,by omega,fun hh=>hh.2 (g3 hh.1),b4,b5,b6,b7,b8⟩
    obtain ⟨b2,e2,hb2⟩:=Contains_int_is (l:=c.Truth.InStep) (v:=(i:Int)) (by omega)
    cases b2 with
    | false =>
     refine ⟨false,a0n e (a0t hg' (a0n e2 (a0t rfl a0o))),?_⟩
     simp only [a0w,false_iff,Classical.not_not]
     exact ⟨hnode,fun hi=>absurd (hb2.2 hi) a28⟩
    | true =>
     have hi:=hb2.1 rfl
     by_cases hlen:x.Log.length<c.Acked.length
     ·refine ⟨true,a0n e (a0t hg' (a0n e2 (a00 rfl (a00 (by simp; omega) a0o)))),?_⟩
      simp only [true_iff]
      rintro ⟨_,hp⟩
      have:=(hp hi).length_le
      omega
     ·obtain ⟨b3,e3,hb3⟩:=Equal_Row_is (a:=x.Log.take c.Acked.length) (b:=c.Acked) (by rw [List.length_take]; omega)
      have hs:sl x.Log 0 (c.Acked.length:Int)=some (x.Log.take c.Acked.length):=qg0 (by omega)
      refine ⟨!b3,a0n e (a0t hg' (a0n e2 (a00 rfl (a0t (by simp; omega) (Ev.bindp hs (a0n e3 ?_)))))),?_⟩
      ·cases b3 <;> exact a0o
      ·have:(x.Log.take c.Acked.length=c.Acked)↔c.Acked <+: x.Log:=by
        rw [a20]
        exact eq_comm
       rw [this] at hb3
       have e4:inP c i x↔c.Acked <+: x.Log:=⟨fun hp=>hp hi,fun hp _=>hp⟩
       rw [e4,← hb3]
       cases b3 <;> simp [hnode]
  ·obtain ⟨v1,v2,v3⟩:=a2
   obtain ⟨j,hj⟩:=List.getElem?_of_mem v3
   obtain ⟨w1,w2,_⟩:=v2 j _ hj
   have hlt:c.Truth.Leader.toNat<c.Nodes.length:=by omega
   have hx:c.Nodes[c.Truth.Leader.toNat]? = some c.Nodes[c.Truth.Leader.toNat]:=List.getElem?_eq_getElem hlt
   obtain ⟨hn,hi⟩:=hq _ _ hx
   have hp:=hi (by rw [Int.toNat_of_nonneg w1]; exact v3)
   rw [a20] at hp
   rw [hp]
   exact qgu hn.2.2.2.1 hn.1.1.2
end Go.Proofs.Ytohofoampalhoaa.X
