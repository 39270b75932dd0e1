/- Whether a row has a number: what is asked on both sides. -/
import Derived.Test.YtanblnjomhgphaaXBD
import Derived.Test.YtanblnjomhgphaaZLib3
set_option linter.unusedVariables false
set_option linter.unusedSimpArgs false
namespace Go.Proofs.Ytanblnjomhgphaa.X
open Go
theorem q05 {l:List Int}{v:Int}(hl:l.length≤4611686018427387904) : Is (fun _=>qd6 l v) (v∈l):=by
 unfold qd6
 refine (Is.any (Q:=fun _ x=>x=v) hl (fun i x hx=>?_)).iff ?_
 ·unfold qep
  exact qkx (by simp)
 ·constructor
  ·rintro ⟨i,x,h,rfl⟩; exact List.mem_of_getElem? h
  ·intro h
   obtain ⟨i,hi⟩:=List.getElem?_of_mem h
   exact ⟨i,v,hi,rfl⟩
end Go.Proofs.Ytanblnjomhgphaa.X
