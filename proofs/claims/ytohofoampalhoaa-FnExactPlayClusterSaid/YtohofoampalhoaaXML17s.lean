/- Rows of numbers that are the same: what is asked on both sides. -/
import Derived.Test.YtohofoampalhoaaXMLAput
open List renaming getElem?_eq_getElem→a0b,getElem?_eq_none→a1g,length_cons→a1b,mem_cons→a1l,pairwise_cons→a3a
set_option linter.unusedVariables false
set_option linter.unusedSimpArgs false
namespace Go.Proofs.Ytohofoampalhoaa.X
open Go

theorem Equal_int_is {a b:List Int}(hl:a.length≤4611686018427387904) : Is (fun _=>qar a b) (a=b):=by
 unfold qar
 by_cases hab:a.length=b.length
 ·rw [if_neg (by simp [hab])]
  refine Is.all (Q:=fun i x=>b[i]? = some x) hl (fun i x hx=>?_) (fun h=>Is.T ?_) (fun h=>?_)
  ·unfold qa4
   have hi:i<b.length:=by rw [←hab]; exact (List.getElem?_eq_some_iff.1 hx).1
   have hb:b[i]? = some b[i]:=a0b hi
   rw [jl hb]
   simp only [Option.bind_some]
   refine qhc ?_
   rw [hb]
   simp only [ne_eq,decide_eq_true_eq,Option.some.injEq]
   exact not_congr eq_comm
  ·apply List.ext_getElem?
   intro i
   by_cases hi:i<a.length
   ·have ha:a[i]? = some a[i]:=a0b hi
    rw [ha,h i _ ha]
   ·rw [a1g (by omega),a1g (by omega)]
  ·rintro rfl
   exact h (fun i x hx=>hx)
 ·rw [if_pos (by simp; omega)]
  exact Is.F (fun h=>hab (by rw [h]))
theorem qrq {a b:List Int}(ha:a.length≤1048576)(hb:b.length≤1048576) : Is (fun _=>qdd a b) ((∀ x,x∈b→x∈a)∧a.length=b.length):=by
 unfold qdd qgz
 refine Is.bind (P:=∀ x,x∈b→x∈a) (Is.all (Q:=fun _ x=>x∈a) (by omega) (fun i x hx=>?_) (fun h=>Is.T (fun x hx=>?_)) (fun h hp=>h (fun i x hx=>hp x (List.mem_of_getElem? hx)))) (fun c hc=>Is.of ?_)
 ·unfold qeg
  exact zal (qly (by omega))
 ·obtain ⟨i,hi⟩:=List.getElem?_of_mem hx
  exact h i x hi
 ·rw [←hc]
  simp
  omega
theorem qi2 {x:Int}{a b:List Int}(h:∀ z,z∈b→z∈x::a)(hx:∀ z,z∈b→x<z) : ∀ z,z∈b→z∈a:=fun z hz=>by
 rcases a1l.1 (h z hz) with rfl | h1
 ·have:=hx _ hz; omega
 ·exact h1
theorem qr9:∀ {a b:List Int},a.Pairwise (· < ·)→b.Pairwise (· < ·)→(∀ z,z∈b→z∈a)→b.length≤a.length:=by
 intro a
 induction a with
 | nil =>
  intro b _ _ h
  cases b with
  | nil=>exact Nat.le_refl _
  | cons y b=>exact absurd (h y (by simp)) (by simp)
 | cons x a ih =>
  intro b pa pb h
  cases b with
  | nil=>simp
  | cons y b =>
   rw [a3a] at pa
   have pb':=a3a.1 pb
   rcases a1l.1 (h y (by simp)) with e | hy
   ·subst e
    have:=ih pa.2 pb'.2 (qi2 (fun z hz=>h z (by simp [hz])) pb'.1)
    simp only [a1b]
    omega
   ·have hxy:=pa.1 y hy
    have:=ih pa.2 pb (qi2 h (fun z hz=>by
     rcases a1l.1 hz with rfl | hz
     ·exact hxy
     ·have:=pb'.1 z hz; omega))
    simp only [a1b] at this ⊢
    omega
theorem qxi:∀ {a b:List Int},a.Pairwise (· < ·)→b.Pairwise (· < ·)→(∀ z,z∈b→z∈a)→a.length=b.length→a=b:=by
 intro a
 induction a with
 | nil =>
  intro b _ _ _ h
  exact (List.length_eq_zero_iff.1 h.symm).symm
 | cons x a ih =>
  intro b pa pb h hl
  cases b with
  | nil=>simp at hl
  | cons y b =>
   rw [a3a] at pa
   have pb':=a3a.1 pb
   rcases a1l.1 (h y (by simp)) with e | hy
   ·subst e
    rw [ih pa.2 pb'.2 (qi2 (fun z hz=>h z (by simp [hz])) pb'.1) (by simpa using hl)]
   ·have hxy:=pa.1 y hy
    have:=qr9 pa.2 pb (qi2 h (fun z hz=>by
     rcases a1l.1 hz with rfl | hz
     ·exact hxy
     ·have:=pb'.1 z hz; omega))
    simp only [a1b] at this hl
    omega
theorem qx0 {a b:List Int}{n m:Int}(ha:qge a n)(hb:qge b m) : ((∀ x,x∈b→x∈a)∧a.length=b.length)↔a=b:=by
 constructor
 ·rintro ⟨h1,h2⟩
  exact qxi (qf0 ha) (qf0 hb) h1 h2
 ·rintro rfl
  exact ⟨fun x h=>h,rfl⟩
end Go.Proofs.Ytohofoampalhoaa.X
