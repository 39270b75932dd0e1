/- What an order is, as both sides ask. -/
import Derived.Test.YtddkoiapboeemaaXO1LAput
import Derived.Test.YtddkoiapboeemaaXO1L15t
import Derived.Test.YtddkoiapboeemaaZIns
set_option linter.unusedVariables false
set_option linter.unusedSimpArgs false
namespace Go.Proofs.Ytddkoiapboeemaa.X
open Go

def qbw (n:Nat)(o:List Int) : Prop:=o.length=n∧o.Nodup∧Inl n o
instance (n:Nat) (o:List Int) : Decidable (qbw n o):=by unfold qbw Inl; infer_instance
theorem qnd {o:List Int}{n:Nat} : qkj (o.mergeSort fun x y=>decide (x≤y)) n↔o.Nodup∧Inl n o:=by
 have hp:(o.mergeSort fun x y=>decide (x≤y)).Perm o:=List.mergeSort_perm o _
 have hs:(o.mergeSort fun x y=>decide (x≤y)).Pairwise (fun x y=>decide (x≤y)=true):=List.pairwise_mergeSort (fun a b c h1 h2=>by simp at *; omega) (fun a b=>by simp; omega) o
 rw [qpf]
 constructor
 ·rintro ⟨h1,h2⟩
  refine ⟨hp.nodup_iff.1 (h1.imp fun h=>by omega),fun x hx=>h2 x (hp.mem_iff.2 hx)⟩
 ·rintro ⟨h1,h2⟩
  refine ⟨?_,fun x hx=>h2 x (hp.mem_iff.1 hx)⟩
  have h3:=hp.nodup_iff.2 h1
  rw [List.Nodup] at h3
  exact (hs.and h3).imp fun {a b} h=>by
   have:=h.1
   have:=h.2
   simp at this
   simp at *
   omega
theorem qkv {l:List Call}{o:List Int}(hl:l.length≤1048576)(ho:o.length≤1048576) : Is (fun _=>wq l o) (qbw l.length o):=by
 have ea:ku 8 ([] : List Int) o=some o:=by
  unfold ku
  rw [if_pos (by simp only [List.length_nil]; omega)]
  rfl
 have hs:slices_Sort_int o=some (o.mergeSort fun x y=>decide (x≤y)):=by
  unfold slices_Sort_int qiw
  rw [if_pos (by omega)]
 unfold wq
 refine Is.bindv (Ev.of ea) (Is.bindv (Ev.of hs) ?_)
 by_cases h:o.length=l.length
 ·obtain ⟨b,e,hb⟩:=qia (l:=o.mergeSort fun x y=>decide (x≤y)) (n:=(l.length:Int)) (by rw [List.length_mergeSort]; omega) (by omega) (by omega)
  refine ⟨b,Ev.bind (a:=b) (Ev.iteT (by simp only [decide_eq_true_eq]; omega) (Ev.bind e Ev.rfl)) Ev.rfl,?_⟩
  rw [hb,qnd]
  exact ⟨fun h2=>⟨h,h2⟩,fun h2=>h2.2⟩
 ·refine ⟨false,Ev.bind (a:=false) (Ev.iteF (by simp only [decide_eq_false_iff_not]; omega) Ev.rfl) Ev.rfl,?_⟩
  simp only [Bool.false_eq_true,false_iff]
  exact fun h2=>h h2.1
theorem qgo {o:List Int} : (∀ (i:Nat) x,o[i]? = some x→x ∉ o.take i)↔o.Nodup:=by
 rw [List.Nodup,List.pairwise_iff_getElem]
 constructor
 ·intro h i j hi hj hij e
  refine h j o[j] (List.getElem?_eq_getElem hj) ?_
  rw [←e]
  exact List.mem_iff_getElem.2 ⟨i,by simp; omega,by simp⟩
 ·intro h i x hx hm
  obtain ⟨hi,rfl⟩:=List.getElem?_eq_some_iff.1 hx
  obtain ⟨j,hj,e⟩:=List.mem_iff_getElem.1 hm
  simp at hj e
  exact h j i (by omega) hi (by omega) e
theorem qjp {n:Nat}{o:List Int}(hn:n≤1048576)(ho:o.length≤1048576) : Is (fun _=>wc (n:Int) o) (qbw n o):=by
 unfold wc
 refine Is.all (l:=o) (Q:=fun (i:Nat) (x:Int)=>(0≤x∧x<n)∧x ∉ o.take i) (by omega) (fun i x hx=>?_) (fun hq=>?_) (fun hq h=>hq ?_)
 ·have hi:=(List.getElem?_eq_some_iff.1 hx).1
  have hs:sl o 0 (i:Int)=some (o.take i):=by
   unfold sl
   rw [if_pos ⟨by omega,by omega,by omega⟩]
   simp
  unfold uj
  by_cases hr:0≤x∧x<n
  ·refine ⟨decide (x∈o.take i),Ev.bind (a:=decide (x∈o.take i)) (Ev.iteF ?_ (Ev.bindp hs (Ev.bindp (qf9 (by simp; omega) x) Ev.rfl))) ?_,by simp only [decide_eq_true_eq,hr,not_and,and_self,true_implies,Classical.not_not,forall_const]⟩
   ·simp; omega
   ·cases decide (x∈o.take i) <;> exact Ev.rfl
  ·exact ⟨true,Ev.bind (a:=true) (Ev.iteT (by simp; omega) Ev.rfl) Ev.rfl,by simp only [true_iff]; exact fun h=>hr h.1⟩
 ·unfold qay
  refine Is.of ?_
  simp only [decide_eq_true_eq]
  constructor
  ·intro h
   exact ⟨by omega,qgo.1 fun i x hx=>(hq i x hx).2,fun x hx=>by
    obtain ⟨i,hi⟩:=List.getElem?_of_mem hx
    exact (hq i x hi).1⟩
  ·intro h
   have:=h.1
   omega
 ·intro i x hx
  exact ⟨h.2.2 x (List.mem_of_getElem? hx),qgo.2 h.2.1 i x hx⟩
theorem qoh {l:List Call}{o:List Int}{F G:Nat→Option (Bool × Bool)}(hl:l.length≤1048576)(ho:o.length≤1048576)(hs:∀ k,F k=(jm l).bind fun v1=>((if (!v1)=true then (some true) else ((wc (List.length l:Int) o).bind fun v7=>(some (!v7)))).bind fun v7=>(if v7=true then (some (false,false)) else G k)))
  {b:Bool} (hG:good l=true→qbw l.length o→Ev G (b,true)) : Ev F (if good l=true∧qbw l.length o then (b,true) else (false,false)):=by
 refine Ev.eqv ?_ hs
 refine Ev.bindp (GoodCalls_eq hl) ?_
 cases hg:good l with
 | false=>exact Ev.bind (a:=true) (Ev.iteT rfl Ev.rfl) (Ev.to (Ev.iteT rfl Ev.rfl) (by simp))
 | true =>
  obtain ⟨c,e,hc⟩:=qjp (n:=l.length) (o:=o) (by omega) ho
  cases c with
  | true =>
   have hq:=hc.1 rfl
   exact Ev.bind (a:=false) (Ev.iteF rfl (Ev.bind e Ev.rfl)) (Ev.to (Ev.iteF rfl (hG hg hq)) (by rw [if_pos ⟨rfl,hq⟩]))
  | false =>
   have hq:¬ qbw l.length o:=fun h=>by have:=hc.2 h; cases this
   exact Ev.bind (a:=true) (Ev.iteF rfl (Ev.bind e Ev.rfl)) (Ev.to (Ev.iteT rfl Ev.rfl) (by rw [if_neg (fun h=>hq h.2)]))
theorem qkb {l:List Call}{o:List Int}{F G:Nat→Option (Bool × Bool)}(hl:l.length≤1048576)(ho:o.length≤1048576)(hs:∀ k,F k=(jv l).bind fun v1=>((if (!v1)=true then (some true) else ((wq l o).bind fun v7=>(some (!v7)))).bind fun v7=>(if v7=true then (some (false,false)) else G k)))
  {b:Bool} (hG:good l=true→qbw l.length o→Ev G (b,true)) : Ev F (if good l=true∧qbw l.length o then (b,true) else (false,false)):=by
 refine Ev.eqv ?_ hs
 rw [qb6]
 refine Ev.bindp (GoodCalls_eq hl) ?_
 cases hg:good l with
 | false=>exact Ev.bind (a:=true) (Ev.iteT rfl Ev.rfl) (Ev.to (Ev.iteT rfl Ev.rfl) (by simp))
 | true =>
  obtain ⟨c,e,hc⟩:=qkv (l:=l) (o:=o) (by omega) ho
  cases c with
  | true =>
   have hq:=hc.1 rfl
   exact Ev.bind (a:=false) (Ev.iteF rfl (Ev.bind e Ev.rfl)) (Ev.to (Ev.iteF rfl (hG hg hq)) (by rw [if_pos ⟨rfl,hq⟩]))
  | false =>
   have hq:¬ qbw l.length o:=fun h=>by have:=hc.2 h; cases this
   exact Ev.bind (a:=true) (Ev.iteF rfl (Ev.bind e Ev.rfl)) (Ev.to (Ev.iteT rfl Ev.rfl) (by rw [if_neg (fun h=>hq h.2)]))
def qes (l:List Call)(o:List Int) : Bool × Bool:=if good l=true∧qbw l.length o then (z8 l o,true) else (false,false)
def qez (l:List Call)(o:List Int) : Bool × Bool:=if good l=true∧qbw l.length o then (decide (o.Pairwise fun a b=>wt l a b=true),true) else (false,false)
theorem IsLegal_s {l:List Call}{o:List Int}(hl:l.length≤1048576)(ho:o.length≤1048576) : Ev (fun k=>qbb l o) (qes l o):=by
 refine Ev.to (qoh (b:=z8 l o) (G:=fun _=>(jl l o).bind fun v22=>(some (v22,true))) hl ho (fun k=>rfl) (fun hg hq=>?_)) (by unfold qes; congr)
 exact Ev.bindp (qba (qeb hg) hq.2.2 ho).1 Ev.rfl
theorem IsLegal_i {l:List Call}{o:List Int}(hl:l.length≤1048576)(ho:o.length≤1048576) : Ev (fun k=>qbp l o) (qes l o):=by
 refine Ev.to (qkb (b:=z8 l o) (G:=fun _=>(yy l o).bind fun v22=>(some (v22,true))) hl ho (fun k=>rfl) (fun hg hq=>?_)) (by unfold qes; congr)
 exact Ev.bindp (qba (qeb hg) hq.2.2 ho).2 Ev.rfl
theorem qxw {l:List Call}{o:List Int}(ho:o.length≤1048576)(hi:Inl l.length o) : Ev (fun _=>jn (zk (fun i22 x23 _=>j7 l o i22 x23 ) o ()) (fun _=>wg )) (decide (o.Pairwise fun a b=>wt l a b=true),true):=by
 have hin:∀ (x:Int),x∈o→∃ c,z2 l x=some c∧l[x.toNat]? = some c:=fun x hx=>kr (hi x hx).1 (hi x hx).2
 rcases qdj (B:=fun _ i x _=>j7 l o i x) (l:=o) (Q:=fun i x=>∃ y∈o.drop (i+1),wt l x y=false) (f:=fun _=>(false,true)) (by omega) (fun i x hx=>by
   have hil:=(List.getElem?_eq_some_iff.1 hx).1
   have hs:sl o (IntKind.wrap .i64 ((i:Int)+1)) (List.length o)=some (o.drop (i+1)):=by
    rw [kc (n:=(i:Int)+1) (by omega) (by omega)]
    unfold sl
    rw [if_pos ⟨by omega,by omega,by omega⟩]
    rw [show ((o.length:Int)).toNat=o.length by omega,List.take_length,show ((i:Int)+1).toNat=i+1 by omega]
   obtain ⟨cx,hcx,hcx'⟩:=hin x (List.mem_of_getElem? hx)
   unfold j7
   rcases qdj (B:=fun _ j y _=>yd l x j y) (l:=o.drop (i+1)) (Q:=fun _ y=>wt l x y=false) (f:=fun _=>(.ret (false,true) : Oc Unit (Bool × Bool))) (by simp; omega) (fun j y hy=>by
     obtain ⟨cy,hcy,hcy'⟩:=hin y (List.mem_of_mem_drop (List.mem_of_getElem? hy))
     unfold yd
     rw [hcy,hcx,Option.bind_some,Option.bind_some,qe6,Option.bind_some]
     refine qpz ?_
     unfold wt
     rw [hcx',hcy']
     simp only [bef,Bool.false_eq_true,if_false,decide_eq_true_eq,decide_eq_false_iff_not]
     omega) with ⟨j,y,h1,h2,h3,h4⟩ | ⟨h1,h2⟩
   ·exact ⟨true,Ev.bindp hs (Ev.jn_ret h4),by simp only [true_iff]; exact ⟨y,List.mem_of_getElem? h1,h2⟩⟩
   ·refine ⟨false,Ev.bindp hs (Ev.jn h2 Ev.rfl),?_⟩
    simp only [Bool.false_eq_true,false_iff]
    rintro ⟨y,hy,e⟩
    obtain ⟨j,hj⟩:=List.getElem?_of_mem hy
    exact h1 j y hj e) with ⟨i,x,h1,⟨y,hy,e⟩,h3,h4⟩ | ⟨h1,h2⟩
 ·refine Ev.to (Ev.jn_ret h4) ?_
  rw [decide_eq_false]
  intro hp
  rw [List.pairwise_iff_getElem] at hp
  obtain ⟨hi1,rfl⟩:=List.getElem?_eq_some_iff.1 h1
  obtain ⟨j,hj,rfl⟩:=List.mem_iff_getElem.1 hy
  simp only [List.length_drop] at hj
  rw [List.getElem_drop] at e
  rw [hp i (i+1+j) hi1 (by omega) (by omega)] at e
  cases e
 ·refine Ev.to (Ev.jn h2 Ev.rfl) ?_
  rw [decide_eq_true]
  rw [List.pairwise_iff_getElem]
  intro i j hi1 hj1 hij
  cases hr:wt l o[i] o[j]
  ·exact absurd ⟨o[j],List.mem_iff_getElem.2 ⟨j - (i+1),by simp; omega,by rw [List.getElem_drop]; congr 1; omega⟩,hr⟩ (h1 i o[i] (List.getElem?_eq_getElem hi1))
  ·rfl
theorem RespectsTime_s {l:List Call}{o:List Int}(hl:l.length≤1048576)(ho:o.length≤1048576) : Ev (fun k=>xv l o) (qez l o):=by
 refine Ev.to (qoh (b:=decide (o.Pairwise fun a b=>wt l a b=true)) (G:=fun _=>jn (zk (fun i22 x23 _=>j7 l o i22 x23 ) o ()) (fun _=>wg )) hl ho (fun k=>rfl) (fun hg hq=>qxw ho hq.2.2)) (by unfold qez; congr)
theorem qyu {l:List Call}{o:List Int}(ho:o.length≤1048576)(hi:Inl l.length o) : yv o (fun a0 a1=>ka a0 a1 l)=some (decide (o.Pairwise fun a b=>wt l a b=true)):=by
 refine qgs ho (fun a ha b hb=>?_)
 obtain ⟨x,hx,hx'⟩:=kr (hi a ha).1 (hi a ha).2
 obtain ⟨y,hy,hy'⟩:=kr (hi b hb).1 (hi b hb).2
 unfold ka wt
 simp only [hx,hy,hx',hy',Option.bind_some]
theorem RespectsTime_i {l:List Call}{o:List Int}(hl:l.length≤1048576)(ho:o.length≤1048576) : Ev (fun k=>xw l o) (qez l o):=by
 refine Ev.to (qkb (b:=decide (o.Pairwise fun a b=>wt l a b=true)) (G:=fun _=>(yv o (fun a0 a1=>ka a0 a1 l)).bind fun v28=>(some (v28,true))) hl ho (fun k=>rfl) (fun hg hq=>Ev.bindp (qyu ho hq.2.2) Ev.rfl)) (by unfold qez; congr)
end Go.Proofs.Ytddkoiapboeemaa.X
