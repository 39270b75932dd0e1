/- Rows that a log begins with: what is asked on both sides. -/
import Derived.Test.YtohofoampalhoaaXGLAmem
import Derived.Test.YtohofoampalhoaaXGLAhas
import Derived.Test.YtohofoampalhoaaXGLArows
import Derived.Test.YtohofoampalhoaaXGLApre
open List renaming getElem?_eq_getElem→i8,getElem?_eq_none→a0i
set_option linter.unusedVariables false
set_option linter.unusedSimpArgs false
namespace Go.Proofs.Ytohofoampalhoaa.X
open Go

theorem qqb {a b:List Row}(hl:a.length≤1048576) : Is (fun k=>(ua k a b).bind fun v=>some (decide (v=(List.length a:Int)))) (a <+: b):=by
 obtain ⟨n,e,h1,h2,h3,h4⟩:=qmi (b:=b) hl
 refine Is.bindv e (Is.of ?_)
 simp only [decide_eq_true_eq]
 constructor
 ·intro h
  have:n=a.length:=by omega
  subst this
  rw [List.take_length] at h3
  rw [h3]
  exact List.take_prefix _ _
 ·rintro ⟨t,rfl⟩
  by_cases hn:n=a.length
  ·rw [hn]
  ·exfalso
   have hlt:n<a.length:=by omega
   refine h4 hlt (by simp; omega) ?_
   rw [List.getElem?_append_left hlt]
theorem Equal_Row_is {a b:List Row}(hl:a.length≤4611686018427387904) : Is (fun _=>qak a b) (a=b):=by
 unfold qak
 by_cases hab:a.length=b.length
 ·rw [if_neg (by simp [hab])]
  refine Is.all (Q:=fun i x=>b[i]? = some x) hl (fun i x hx=>?_) (fun h=>Is.T ?_) (fun h=>?_)
  ·unfold qau
   have hi:i<b.length:=by rw [←hab]; exact (List.getElem?_eq_some_iff.1 hx).1
   have hb:b[i]? = some b[i]:=i8 hi
   rw [jr hb]
   simp only [Option.bind_some]
   refine qg3 ?_
   rw [hb]
   cases x; cases hh:b[i]
   simp
   constructor
   ·rintro (h | h) e1 e2
    ·exact h e1.symm
    ·exact h e2.symm
   ·intro h
    refine Classical.byContradiction fun hn=>?_
    simp only [not_or,Classical.not_not] at hn
    exact h hn.1.symm hn.2.symm
  ·apply List.ext_getElem?
   intro i
   by_cases hi:i<a.length
   ·have ha:a[i]? = some a[i]:=i8 hi
    rw [ha,h i _ ha]
   ·rw [a0i (by omega),a0i (by omega)]
  ·rintro rfl
   exact h (fun i x hx=>hx)
 ·rw [if_pos (by simp; omega)]
  exact Is.F (fun h=>hab (by rw [h]))
end Go.Proofs.Ytohofoampalhoaa.X
