/- Rows of numbers that are the same: what is asked on both sides. -/
import Derived.Test.YtohofoampalhoaaXGLAput
open List renaming getElem?_eq_getElem→i8,getElem?_eq_none→a0i,length_cons→a0r,mem_cons→a0t,pairwise_cons→a2q
set_option linter.unusedVariables false
set_option linter.unusedSimpArgs false
namespace Go.Proofs.Ytohofoampalhoaa.X
open Go

theorem Equal_int_is {a b:List Int}(hl:a.length≤4611686018427387904) : Is (fun _=>qae a b) (a=b):=by
 unfold qae
 by_cases hab:a.length=b.length
 ·rw [if_neg (by simp [hab])]
  refine Is.all (Q:=fun i x=>b[i]? = some x) hl (fun i x hx=>?_) (fun h=>Is.T ?_) (fun h=>?_)
  ·unfold qav
   have hi:i<b.length:=by rw [←hab]; exact (List.getElem?_eq_some_iff.1 hx).1
   have hb:b[i]? = some b[i]:=i8 hi
   rw [jr hb]
   simp only [Option.bind_some]
   refine qg3 ?_
   rw [hb]
   simp only [ne_eq,decide_eq_true_eq,Option.some.injEq]
   exact not_congr eq_comm
  ·apply List.ext_getElem?
   intro i
   by_cases hi:i<a.length
   ·have ha:a[i]? = some a[i]:=i8 hi
    rw [ha,h i _ ha]
   ·rw [a0i (by omega),a0i (by omega)]
  ·rintro rfl
   exact h (fun i x hx=>hx)
 ·rw [if_pos (by simp; omega)]
  exact Is.F (fun h=>hab (by rw [h]))
theorem qrt {a b:List Int}(ha:a.length≤1048576)(hb:b.length≤1048576) : Is (fun _=>qc5 a b) ((∀ x,x∈b→x∈a)∧a.length=b.length):=by
 unfold qc5 qgb
 refine Is.bind (P:=∀ x,x∈b→x∈a) (Is.all (Q:=fun _ x=>x∈a) (by omega) (fun i x hx=>?_) (fun h=>Is.T (fun x hx=>?_)) (fun h hp=>h (fun i x hx=>hp x (List.mem_of_getElem? hx)))) (fun c hc=>Is.of ?_)
 ·unfold qd6
  exact qv2 (qgx (by omega))
 ·obtain ⟨i,hi⟩:=List.getElem?_of_mem hx
  exact h i x hi
 ·rw [←hc]
  simp
  omega
theorem qiv {x:Int}{a b:List Int}(h:∀ z,z∈b→z∈x::a)(hx:∀ z,z∈b→x<z) : ∀ z,z∈b→z∈a:=fun z hz=>by
 rcases a0t.1 (h z hz) with rfl | h1
 ·have:=hx _ hz; omega
 ·exact h1
theorem qrx:∀ {a b:List Int},a.Pairwise (· < ·)→b.Pairwise (· < ·)→(∀ z,z∈b→z∈a)→b.length≤a.length:=by
 intro a
 induction a with
 | nil =>
  intro b _ _ h
  cases b with
  | nil=>exact Nat.le_refl _
  | cons y b=>exact absurd (h y (by simp)) (by simp)
 | cons x a ih =>
  intro b pa pb h
  cases b with
  | nil=>simp
  | cons y b =>
   rw [a2q] at pa
   have pb':=a2q.1 pb
   rcases a0t.1 (h y (by simp)) with e | hy
   ·subst e
    have:=ih pa.2 pb'.2 (qiv (fun z hz=>h z (by simp [hz])) pb'.1)
    simp only [a0r]
    omega
   ·have hxy:=pa.1 y hy
    have:=ih pa.2 pb (qiv h (fun z hz=>by
     rcases a0t.1 hz with rfl | hz
     ·exact hxy
     ·have:=pb'.1 z hz; omega))
    simp only [a0r] at this ⊢
    omega
theorem qv7:∀ {a b:List Int},a.Pairwise (· < ·)→b.Pairwise (· < ·)→(∀ z,z∈b→z∈a)→a.length=b.length→a=b:=by
 intro a
 induction a with
 | nil =>
  intro b _ _ _ h
  exact (List.length_eq_zero_iff.1 h.symm).symm
 | cons x a ih =>
  intro b pa pb h hl
  cases b with
  | nil=>simp at hl
  | cons y b =>
   rw [a2q] at pa
   have pb':=a2q.1 pb
   rcases a0t.1 (h y (by simp)) with e | hy
   ·subst e
    rw [ih pa.2 pb'.2 (qiv (fun z hz=>h z (by simp [hz])) pb'.1) (by simpa using hl)]
   ·have hxy:=pa.1 y hy
    have:=qrx pa.2 pb (qiv h (fun z hz=>by
     rcases a0t.1 hz with rfl | hz
     ·exact hxy
     ·have:=pb'.1 z hz; omega))
    simp only [a0r] at this hl
    omega
theorem qya {a b:List Int}{n m:Int}(ha:qff a n)(hb:qff b m) : ((∀ x,x∈b→x∈a)∧a.length=b.length)↔a=b:=by
 constructor
 ·rintro ⟨h1,h2⟩
  exact qv7 (qfr ha) (qfr hb) h1 h2
 ·rintro rfl
  exact ⟨fun x h=>h,rfl⟩
end Go.Proofs.Ytohofoampalhoaa.X
