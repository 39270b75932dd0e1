/- Whether a row has a number: what is asked on both sides. -/
import Derived.Test.YtjloihcijdcpeaaXCD
import Derived.Test.YtjloihcijdcpeaaZLib3
set_option linter.unusedVariables false
set_option linter.unusedSimpArgs false
namespace Go.Proofs.Ytjloihcijdcpeaa.X
open Go
theorem qer {l:List Int}{v:Int}(hl:l.length≤4611686018427387904) : Is (fun _=>u5 l v) (v∈l):=by
 unfold u5
 refine (Is.any (Q:=fun _ x=>x=v) hl (fun i x hx=>?_)).iff ?_
 ·unfold qdp
  exact qdr (by simp)
 ·constructor
  ·rintro ⟨i,x,h,rfl⟩; exact List.mem_of_getElem? h
  ·intro h
   obtain ⟨i,hi⟩:=List.getElem?_of_mem h
   exact ⟨i,v,hi,rfl⟩
theorem Contains_int_is {l:List Int}{v:Int}(hl:l.length≤4611686018427387904) : Is (fun _=>jt l v) (v∈l):=by
 unfold jt qbw
 rcases qdg (B:=fun _ i x _=>xu v i x) (Q:=fun _ x=>v=x) (f:=fun i=>(i:Int)) hl (fun i x hx=>by unfold xu; exact qdr (by simp)) with ⟨i,x,h1,rfl,h3,h4⟩ | ⟨h1,h2⟩
 ·refine Is.bindv (Ev.jn_ret h4) (Is.of ?_)
  simp only [decide_eq_true_eq]
  exact ⟨fun _=>List.mem_of_getElem? h1,fun _=>by omega⟩
 ·refine Is.bindv (Ev.jn h2 Ev.rfl) (Is.F ?_)
  intro h
  obtain ⟨i,hi⟩:=List.getElem?_of_mem h
  exact h1 i v hi rfl

end Go.Proofs.Ytjloihcijdcpeaa.X
