/- Good calls, and those on an object. -/
import Derived.Test.YtddkoiapboeemaaXO1D
import Derived.Test.YtddkoiapboeemaaZLib
set_option linter.unusedVariables false
set_option linter.unusedSimpArgs false
namespace Go.Proofs.Ytddkoiapboeemaa.X
open Go

theorem qhd (x:Call)(i:Nat)(y:Call) : yn x i y=kv x i y:=by
 unfold yn kv
 congr 1
 simp only [Bool.and_eq_true,decide_eq_true_eq,eq_iff_iff]
 omega
theorem qhu (l:List Call)(i:Nat)(x:Call) : ym l i x=kw l i x:=by
 have hb:(fun (i125:Nat) (x126:Call) (_:Unit)=>yn x i125 x126)=(fun i38 x39 _=>kv x i38 x39):=by
  funext a b c
  exact qhd x a b
 rcases x with ⟨x1,x2,x3,x4,x5,x6⟩
 cases x3
 ·simp only [ym,Bool.false_eq_true,if_false,Option.bind_some,uf,kw,hb]
  congr 1
  simp only [ze,ko,qu,Bool.or_eq_true,Bool.and_eq_true,Bool.not_eq_true',decide_eq_true_eq,eq_iff_iff,Bool.not_and,Bool.not_eq_eq_eq_not,Bool.not_true,Bool.and_eq_false_imp,Bool.not_false,true_or,and_true,decide_eq_false_iff_not,Bool.or_eq_false_iff]
  grind
 ·simp only [ym,if_true,Option.bind_some,uf,kw,hb]
  congr 1
  simp only [ze,ko,qu,Bool.or_eq_true,Bool.and_eq_true,Bool.not_eq_true',decide_eq_true_eq,eq_iff_iff,Bool.not_and,Bool.not_eq_eq_eq_not,Bool.not_true,Bool.and_eq_false_imp,Bool.not_false,true_or,and_true,decide_eq_false_iff_not,Bool.or_eq_false_iff]
  grind
theorem qb6:jv=jm:=by
 funext l
 unfold jv jm
 simp only [qhu]
 rfl
def qc7 (l:List Call)(i:Nat)(x:Call) : Bool := !(ko x)||(l.take i).zipIdx.any (fun c=>(decide (c.1.Client=x.Client)&&decide (x.Begin<c.1.End))&&decide (c.1.Begin<x.End))
def good (l:List Call) : Bool := !(l.zipIdx.any fun c=>qc7 l c.2 c.1)&&decide (l.length≤7)
theorem GoodCalls_eq {l:List Call}(hl:l.length≤1048576) : jm l=some (good l):=by
 unfold jm
 rw [qbj (p:=qc7 l) (q:=false) (by omega) (fun j x hx=>?_)]
 ·unfold good
  rcases Bool.eq_false_or_eq_true (l.zipIdx.any fun c=>qc7 l c.2 c.1) with h | h
  ·rw [if_pos h,h]
   rfl
  ·rw [if_neg (by rw [h]; exact Bool.false_ne_true),h]
   simp only [jn,jnO,Option.bind_some,qaj,Bool.not_false,Bool.true_and,Option.some.injEq,decide_eq_decide]
   omega
 ·have hj:j<l.length:=(List.getElem?_eq_some_iff.1 hx).1
  simp only [kw,qfe (Nat.le_of_lt hj),Option.bind_some]
  rcases Bool.eq_false_or_eq_true (ko x) with h | h
  ·have e:qc7 l j x=(l.take j).zipIdx.any (fun c=>(decide (c.1.Client=x.Client)&&decide (x.Begin<c.1.End))&&decide (c.1.Begin<x.End)):=by
    unfold qc7
    rw [h]
    rfl
   rw [h,e,if_neg (by simp)]
   rw [qbj (p:=fun _ y=>(decide (y.Client=x.Client)&&decide (x.Begin<y.End))&&decide (y.Begin<x.End)) (q := .ret false) (by rw [List.length_take]; omega) (fun i y hy=>?_)]
   ·split <;> rfl
   ·unfold kv
    split <;> rfl
  ·have e:qc7 l j x=true:=by
    unfold qc7
    rw [h]
    rfl
   rw [h,e]
   rfl
theorem qd8 {l:List Call}(h:good l=true) : l.length≤7:=by
 unfold good at h
 simp only [Bool.and_eq_true,decide_eq_true_eq] at h
 exact h.2
theorem qmx {l:List Call}(h:good l=true){x:Call}(hx:x∈l) : ko x=true:=by
 unfold good at h
 simp only [Bool.and_eq_true,Bool.not_eq_true',List.any_eq_false] at h
 obtain ⟨i,hi,rfl⟩:=List.mem_iff_getElem.1 hx
 have:=h.1 (l[i],i) (by rw [List.mem_zipIdx_iff_getElem?]; simp)
 unfold qc7 at this
 rcases Bool.eq_false_or_eq_true (ko l[i]) with h' | h'
 ·exact h'
 ·simp [h'] at this

end Go.Proofs.Ytddkoiapboeemaa.X
