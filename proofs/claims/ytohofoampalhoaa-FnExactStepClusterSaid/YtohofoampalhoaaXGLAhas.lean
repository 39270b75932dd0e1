/- Whether a row has a number: what is asked on both sides. -/
import Derived.Test.YtohofoampalhoaaXGD
import Derived.Test.YtohofoampalhoaaZLib3
open List renaming getElem?_of_mem→a1z,mem_of_getElem?→v8
set_option linter.unusedVariables false
set_option linter.unusedSimpArgs false
namespace Go.Proofs.Ytohofoampalhoaa.X
open Go
theorem qgx {l:List Int}{v:Int}(hl:l.length≤4611686018427387904) : Is (fun _=>u5 l v) (v∈l):=by
 unfold u5
 refine (Is.any (Q:=fun _ x=>x=v) hl (fun i x hx=>?_)).iff ?_
 ·unfold qd8
  exact qg3 (by simp)
 ·constructor
  ·rintro ⟨i,x,h,rfl⟩; exact v8 h
  ·intro h
   obtain ⟨i,hi⟩:=a1z h
   exact ⟨i,v,hi,rfl⟩
theorem Contains_int_is {l:List Int}{v:Int}(hl:l.length≤4611686018427387904) : Is (fun _=>yx l v) (v∈l):=by
 unfold yx qb3
 rcases qhv (B:=fun _ i x _=>xm v i x) (Q:=fun _ x=>v=x) (f:=fun i=>(i:Int)) hl (fun i x hx=>by unfold xm; exact qg3 (by simp)) with ⟨i,x,h1,rfl,h3,h4⟩ | ⟨h1,h2⟩
 ·refine Is.bindv (Ev.jn_ret h4) (Is.of ?_)
  simp only [decide_eq_true_eq]
  exact ⟨fun _=>v8 h1,fun _=>by omega⟩
 ·refine Is.bindv (Ev.jn h2 Ev.rfl) (Is.F ?_)
  intro h
  obtain ⟨i,hi⟩:=a1z h
  exact h1 i v hi rfl

end Go.Proofs.Ytohofoampalhoaa.X
