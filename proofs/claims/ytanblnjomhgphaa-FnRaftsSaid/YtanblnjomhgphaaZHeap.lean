/- What lies on top of X's heap. -/
import Derived.Test.YtanblnjomhgphaaZRun3
set_option linter.unusedVariables false
set_option linter.unusedSimpArgs false
namespace Go.Proofs.Ytanblnjomhgphaa.X
open Go
section
variable {W:Nat→Bool}{h ks:Heap}

theorem blk0 {k:Blk}{r:Heap} : z9 (k::r) 0=if k.live then some k else none:=(rfl)
theorem zat {n b o:Nat}{v:XV} : pst W h n (.ptr b o) v=if v.cells.length=n then (setCells W h b o v.cells).map (fun h'=>(.undef,h')) else none:=by
 show (if v.cells.length=n then _ else _)=_
 split
 ·show (match setCells W h b o v.cells with | some h'=>some (XV.undef,h') | none=>none)=_
  cases setCells W h b o v.cells <;> rfl
 ·rfl
theorem qxm {ty n:Nat}{v:XV}(h1:v.cells.length=n)(h2:v.cells.all XV.one=true) : qq4 W h ty n v=some (.ptr h.length 0,h++[⟨v.cells,ty,true⟩]):=by
 exact if_pos ⟨h1,h2⟩
theorem qv {b o f:Nat} : xfa f (.ptr b o)=some (.ptr b (o+f)):=(rfl)
theorem qn {cs:List XV}{o f:Nat} : xfa f (.ref cs o)=some (.ref cs (o+f)):=(rfl)
end
end Go.Proofs.Ytanblnjomhgphaa.X
