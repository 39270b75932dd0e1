/- Rows that a log begins with: what is asked on both sides. -/
import Derived.Test.YtohofoampalhoaaXMLAmem
import Derived.Test.YtohofoampalhoaaXMLAhas
import Derived.Test.YtohofoampalhoaaXMLArows
import Derived.Test.YtohofoampalhoaaXMLApre
open List renaming getElem?_eq_getElem→a0b,getElem?_eq_none→a1g
set_option linter.unusedVariables false
set_option linter.unusedSimpArgs false
namespace Go.Proofs.Ytohofoampalhoaa.X
open Go

theorem Equal_Row_is {a b:List Row}(hl:a.length≤4611686018427387904) : Is (fun _=>qav a b) (a=b):=by
 unfold qav
 by_cases hab:a.length=b.length
 ·rw [if_neg (by simp [hab])]
  refine Is.all (Q:=fun i x=>b[i]? = some x) hl (fun i x hx=>?_) (fun h=>Is.T ?_) (fun h=>?_)
  ·unfold qa7
   have hi:i<b.length:=by rw [←hab]; exact (List.getElem?_eq_some_iff.1 hx).1
   have hb:b[i]? = some b[i]:=a0b hi
   rw [jl hb]
   simp only [Option.bind_some]
   refine qhc ?_
   rw [hb]
   cases x; cases hh:b[i]
   simp
   constructor
   ·rintro (h | h) e1 e2
    ·exact h e1.symm
    ·exact h e2.symm
   ·intro h
    refine Classical.byContradiction fun hn=>?_
    simp only [not_or,Classical.not_not] at hn
    exact h hn.1.symm hn.2.symm
  ·apply List.ext_getElem?
   intro i
   by_cases hi:i<a.length
   ·have ha:a[i]? = some a[i]:=a0b hi
    rw [ha,h i _ ha]
   ·rw [a1g (by omega),a1g (by omega)]
  ·rintro rfl
   exact h (fun i x hx=>hx)
 ·rw [if_pos (by simp; omega)]
  exact Is.F (fun h=>hab (by rw [h]))
end Go.Proofs.Ytohofoampalhoaa.X
