/- Whether a row has a number: what is asked on both sides. -/
import Derived.Test.YtohofoampalhoaaXMD
import Derived.Test.YtohofoampalhoaaZLib3
open List renaming getElem?_of_mem→a2n,mem_of_getElem?→a09
set_option linter.unusedVariables false
set_option linter.unusedSimpArgs false
namespace Go.Proofs.Ytohofoampalhoaa.X
open Go
theorem qly {l:List Int}{v:Int}(hl:l.length≤4611686018427387904) : Is (fun _=>qci l v) (v∈l):=by
 unfold qci
 refine (Is.any (Q:=fun _ x=>x=v) hl (fun i x hx=>?_)).iff ?_
 ·unfold qee
  exact qhc (by simp)
 ·constructor
  ·rintro ⟨i,x,h,rfl⟩; exact a09 h
  ·intro h
   obtain ⟨i,hi⟩:=a2n h
   exact ⟨i,v,hi,rfl⟩
theorem Contains_int_is {l:List Int}{v:Int}(hl:l.length≤4611686018427387904) : Is (fun _=>wb l v) (v∈l):=by
 unfold wb qck
 rcases qh9 (B:=fun _ i x _=>xu v i x) (Q:=fun _ x=>v=x) (f:=fun i=>(i:Int)) hl (fun i x hx=>by unfold xu; exact qhc (by simp)) with ⟨i,x,h1,rfl,h3,h4⟩ | ⟨h1,h2⟩
 ·refine Is.bindv (Ev.jn_ret h4) (Is.of ?_)
  simp only [decide_eq_true_eq]
  exact ⟨fun _=>a09 h1,fun _=>by omega⟩
 ·refine Is.bindv (Ev.jn h2 Ev.rfl) (Is.F ?_)
  intro h
  obtain ⟨i,hi⟩:=a2n h
  exact h1 i v hi rfl

end Go.Proofs.Ytohofoampalhoaa.X
