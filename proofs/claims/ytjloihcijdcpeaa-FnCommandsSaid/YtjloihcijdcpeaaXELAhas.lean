/- Whether a row has a number: what is asked on both sides. -/
import Derived.Test.YtjloihcijdcpeaaXED
import Derived.Test.YtjloihcijdcpeaaZLib3
open List renaming getElem?_of_mem→a0i,mem_of_getElem?→i8
set_option linter.unusedVariables false
set_option linter.unusedSimpArgs false
namespace Go.Proofs.Ytjloihcijdcpeaa.X
open Go
theorem qfg {l:List Int}{v:Int}(hl:l.length≤4611686018427387904) : Is (fun _=>qas l v) (v∈l):=by
 unfold qas
 refine (Is.any (Q:=fun _ x=>x=v) hl (fun i x hx=>?_)).iff ?_
 ·unfold qd3
  exact qee (by simp)
 ·constructor
  ·rintro ⟨i,x,h,rfl⟩; exact i8 h
  ·intro h
   obtain ⟨i,hi⟩:=a0i h
   exact ⟨i,v,hi,rfl⟩
theorem Contains_int_is {l:List Int}{v:Int}(hl:l.length≤4611686018427387904) : Is (fun _=>j5 l v) (v∈l):=by
 unfold j5 qcq
 rcases qd1 (B:=fun _ i x _=>uq v i x) (Q:=fun _ x=>v=x) (f:=fun i=>(i:Int)) hl (fun i x hx=>by unfold uq; exact qee (by simp)) with ⟨i,x,h1,rfl,h3,h4⟩ | ⟨h1,h2⟩
 ·refine Is.bindv (Ev.jn_ret h4) (Is.of ?_)
  simp only [decide_eq_true_eq]
  exact ⟨fun _=>i8 h1,fun _=>by omega⟩
 ·refine Is.bindv (Ev.jn h2 Ev.rfl) (Is.F ?_)
  intro h
  obtain ⟨i,hi⟩:=a0i h
  exact h1 i v hi rfl

end Go.Proofs.Ytjloihcijdcpeaa.X
