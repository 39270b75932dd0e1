/- Rows that are the same: what is asked on both sides. -/
import Derived.Test.YtdhibknhejhfaaaXED
import Derived.Test.YtdhibknhejhfaaaXELAmem
import Derived.Test.YtdhibknhejhfaaaXELAhas
set_option linter.unusedVariables false
set_option linter.unusedSimpArgs false
namespace Go.Proofs.Ytdhibknhejhfaaa.X
open Go
theorem Equal_int_is {a b:List Int}(hl:a.length≤4611686018427387904) : Is (fun _=>u5 a b) (a=b):=by
 unfold u5
 by_cases hab:a.length=b.length
 ·rw [if_neg (by simp [hab])]
  refine Is.all (Q:=fun i x=>b[i]? = some x) hl (fun i x hx=>?_) (fun h=>Is.T ?_) (fun h=>?_)
  ·unfold qaf
   have hi:i<b.length:=by rw [←hab]; exact (List.getElem?_eq_some_iff.1 hx).1
   have hb:b[i]? = some b[i]:=List.getElem?_eq_getElem hi
   rw [yw hb]
   simp only [Option.bind_some]
   refine qbp ?_
   rw [hb]
   simp only [ne_eq,decide_eq_true_eq,Option.some.injEq]
   exact not_congr eq_comm
  ·apply List.ext_getElem?
   intro i
   by_cases hi:i<a.length
   ·have ha:a[i]? = some a[i]:=List.getElem?_eq_getElem hi
    rw [ha,h i _ ha]
   ·rw [List.getElem?_eq_none (by omega),List.getElem?_eq_none (by omega)]
  ·rintro rfl
   exact h (fun i x hx=>hx)
 ·rw [if_pos (by simp; omega)]
  exact Is.F (fun h=>hab (by rw [h]))
theorem qn4 {a b:List Int}(ha:a.length≤1048576)(hb:b.length≤1048576) : Is (fun _=>qb7 a b) ((∀ x,x∈b→x∈a)∧a.length=b.length):=by
 unfold qb7 qfc
 refine Is.bind (P:=∀ x,x∈b→x∈a) (Is.all (Q:=fun _ x=>x∈a) (by omega) (fun i x hx=>?_) (fun h=>Is.T (fun x hx=>?_)) (fun h hp=>h (fun i x hx=>hp x (List.mem_of_getElem? hx)))) (fun c hc=>Is.of ?_)
 ·unfold qc6
  exact qpg (qg6 (by omega))
 ·obtain ⟨i,hi⟩:=List.getElem?_of_mem hx
  exact h i x hi
 ·rw [←hc]
  simp
  omega
theorem qhp {l:List Int}{n:Int}(h:qe0 l n) : l.Pairwise (· < ·):=by
 rw [List.pairwise_iff_getElem]
 have key:∀ d i (hi:i<l.length) (hj:i+d+1<l.length),l[i]<l[i+d+1]:=by
  intro d
  induction d with
  | zero =>
   intro i hi hj
   have:=(h (i+1) l[i+1] (List.getElem?_eq_getElem hj)).2.2 l[i] (by omega) (by simp)
   simpa using this
  | succ d ih =>
   intro i hi hj
   have h1:=ih i hi (by omega)
   have h2:=(h (i+d+1+1) l[i+d+1+1] (List.getElem?_eq_getElem (by omega))).2.2 l[i+d+1] (by omega) (by simp)
   have:l[i+(d+1)+1]=l[i+d+1+1]:=by congr 1
   rw [this]
   omega
 intro i j hi hj hij
 have:=key (j - i - 1) i hi (by omega)
 have e:i+(j - i - 1)+1=j:=by omega
 simpa [e] using this
theorem qg4 {x:Int}{a b:List Int}(h:∀ z,z∈b→z∈x::a)(hx:∀ z,z∈b→x<z) : ∀ z,z∈b→z∈a:=fun z hz=>by
 rcases List.mem_cons.1 (h z hz) with rfl | h1
 ·have:=hx _ hz; omega
 ·exact h1
theorem qod:∀ {a b:List Int},a.Pairwise (· < ·)→b.Pairwise (· < ·)→(∀ z,z∈b→z∈a)→b.length≤a.length:=by
 intro a
 induction a with
 | nil =>
  intro b _ _ h
  cases b with
  | nil=>exact Nat.le_refl _
  | cons y b=>exact absurd (h y (by simp)) (by simp)
 | cons x a ih =>
  intro b pa pb h
  cases b with
  | nil=>simp
  | cons y b =>
   rw [List.pairwise_cons] at pa
   have pb':=List.pairwise_cons.1 pb
   rcases List.mem_cons.1 (h y (by simp)) with e | hy
   ·subst e
    have:=ih pa.2 pb'.2 (qg4 (fun z hz=>h z (by simp [hz])) pb'.1)
    simp only [List.length_cons]
    omega
   ·have hxy:=pa.1 y hy
    have:=ih pa.2 pb (qg4 h (fun z hz=>by
     rcases List.mem_cons.1 hz with rfl | hz
     ·exact hxy
     ·have:=pb'.1 z hz; omega))
    simp only [List.length_cons] at this ⊢
    omega
theorem qkt:∀ {a b:List Int},a.Pairwise (· < ·)→b.Pairwise (· < ·)→(∀ z,z∈b→z∈a)→a.length=b.length→a=b:=by
 intro a
 induction a with
 | nil =>
  intro b _ _ _ h
  exact (List.length_eq_zero_iff.1 h.symm).symm
 | cons x a ih =>
  intro b pa pb h hl
  cases b with
  | nil=>simp at hl
  | cons y b =>
   rw [List.pairwise_cons] at pa
   have pb':=List.pairwise_cons.1 pb
   rcases List.mem_cons.1 (h y (by simp)) with e | hy
   ·subst e
    rw [ih pa.2 pb'.2 (qg4 (fun z hz=>h z (by simp [hz])) pb'.1) (by simpa using hl)]
   ·have hxy:=pa.1 y hy
    have:=qod pa.2 pb (qg4 h (fun z hz=>by
     rcases List.mem_cons.1 hz with rfl | hz
     ·exact hxy
     ·have:=pb'.1 z hz; omega))
    simp only [List.length_cons] at this hl
    omega
theorem q61 {a b:List Int}{n m:Int}(ha:qe0 a n)(hb:qe0 b m) : ((∀ x,x∈b→x∈a)∧a.length=b.length)↔a=b:=by
 constructor
 ·rintro ⟨h1,h2⟩
  exact qkt (qhp ha) (qhp hb) h1 h2
 ·rintro rfl
  exact ⟨fun x h=>h,rfl⟩
end Go.Proofs.Ytdhibknhejhfaaa.X
