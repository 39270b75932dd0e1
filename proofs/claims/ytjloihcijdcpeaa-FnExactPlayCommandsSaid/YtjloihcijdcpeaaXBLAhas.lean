/- Whether a row has a number: what is asked on both sides. -/
import Derived.Test.YtjloihcijdcpeaaXBD
import Derived.Test.YtjloihcijdcpeaaZLib3
set_option linter.unusedVariables false
set_option linter.unusedSimpArgs false
namespace Go.Proofs.Ytjloihcijdcpeaa.X
open Go
theorem qd8 {l:List Int}{v:Int}(hl:l.length≤4611686018427387904) : Is (fun _=>ul l v) (v∈l):=by
 unfold ul
 refine (Is.any (Q:=fun _ x=>x=v) hl (fun i x hx=>?_)).iff ?_
 ·unfold qc2
  exact qi4 (by simp)
 ·constructor
  ·rintro ⟨i,x,h,rfl⟩; exact List.mem_of_getElem? h
  ·intro h
   obtain ⟨i,hi⟩:=List.getElem?_of_mem h
   exact ⟨i,v,hi,rfl⟩
theorem Contains_int_is {l:List Int}{v:Int}(hl:l.length≤4611686018427387904) : Is (fun _=>jx l v) (v∈l):=by
 unfold jx qbn
 rcases qcr (B:=fun _ i x _=>w8 v i x) (Q:=fun _ x=>v=x) (f:=fun i=>(i:Int)) hl (fun i x hx=>by unfold w8; exact qi4 (by simp)) with ⟨i,x,h1,rfl,h3,h4⟩ | ⟨h1,h2⟩
 ·refine Is.bindv (Ev.jn_ret h4) (Is.of ?_)
  simp only [decide_eq_true_eq]
  exact ⟨fun _=>List.mem_of_getElem? h1,fun _=>by omega⟩
 ·refine Is.bindv (Ev.jn h2 Ev.rfl) (Is.F ?_)
  intro h
  obtain ⟨i,hi⟩:=List.getElem?_of_mem h
  exact h1 i v hi rfl

end Go.Proofs.Ytjloihcijdcpeaa.X
