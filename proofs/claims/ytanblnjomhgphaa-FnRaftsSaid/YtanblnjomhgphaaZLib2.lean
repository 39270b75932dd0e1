/- Plain facts on the laws' own walks: sizes, copies, comparisons, marks. -/
import Derived.Test.YtanblnjomhgphaaZLib
set_option linter.unusedVariables false
set_option linter.unusedSimpArgs false
namespace Go.Proofs.Ytanblnjomhgphaa.X
open Go
variable {α β σ ρ:Type}

def qjy (f:α→Nat) : List α→Nat
 | []=>0
 | x::r=>f x+qjy f r
def nnL (f:α→Nat)(l:List α) : Nat:=l.length+qjy f l
theorem q1l {f:α→Nat} : ∀ {l:List α} {i:Nat} {x:α},l[i]? = some x→f x≤qjy f l:=by
 intro l
 induction l with
 | nil=>intro i x h; simp at h
 | cons a r ih =>
  intro i x h
  cases i with
  | zero=>simp at h; subst h; simp only [qjy]; omega
  | succ i=>have:=ih (i:=i) (x:=x) (by simpa using h); simp only [qjy]; omega
theorem qq0 {f:α→Nat}{l:List α}{i:Nat}{x:α}(h:l[i]? = some x) : f x≤nnL f l:=by
 have:=q1l (f:=f) h
 unfold nnL; omega
theorem qqp {f:α→Nat}{l:List α} : l.length≤nnL f l:=by unfold nnL; omega
theorem qme {b:Nat}{n:Nat}{z:α}(h:n*b≤140737488355328) : mkN b (n:Int) z=some (List.replicate n z):=by
 unfold mkN
 rw [if_pos ⟨by omega,by rw [←Int.natCast_mul]; exact Int.ofNat_le.2 h⟩,Int.toNat_natCast]

theorem Ev.to {F:Nat→Option α}{r r':α}(h:Ev F r)(e:r=r') : Ev F r':=e▸h

end Go.Proofs.Ytanblnjomhgphaa.X
